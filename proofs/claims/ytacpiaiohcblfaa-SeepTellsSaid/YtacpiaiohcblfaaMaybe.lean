/- What is known of the state of a siphon (a range over a function): by hand. -/
import Derived.RangeFuncNested
import Derived.RangeFuncBound
import Derived.RangeFuncCalls
import Derived.RangeFuncLeaves
import Derived.Shelf.Abstract
import Derived.Shelf.RegionOpen
import Derived.WalkKit
import Derived.OwnWalkIn
import Derived.TacticsInMore
import Derived.LoopNIn
import Derived.LoopIn
import Derived.Laws.PanicsMore
import Derived.Test.YtacpiaiohcblfaaFn6
import Derived.Test.YtacpiaiohcblfaaReg13
namespace Go.Proofs.Ytacpiaiohcblfaa.Fn
open Go.RowKit Go.Shelf Go.Proofs.YtacpiaiohcblfaaW.PrintWords Go.Proofs.YtacpiaiohcblfaaW.PrintLast Go.Proofs.YtacpiaiohcblfaaW.PrintMore
attribute [local go_sem] Oper.semAt_some
set_option maxRecDepth 100000
set_option linter.unusedVariables false
set_option linter.unusedSimpArgs false

theorem below_grown {W W' : World} (h : Below W.heap.size W W') : W.grownBy W' none := ⟨h.os, h.tape, h.output, h.size, fun k hk _ => h.block k hk⟩
def turnsL (lo hi : Int) (c : List Int) : List Int := c.filter (fun x => decide (lo ≤ x ∧ x ≤ hi))
theorem turnsL_snoc (lo hi : Int) (c : List Int) (x : Int) : turnsL lo hi (c ++ [x]) = if lo ≤ x ∧ x ≤ hi then turnsL lo hi c ++ [x] else turnsL lo hi c := by
  unfold turnsL
  rw [List.filter_append]
  by_cases h : lo ≤ x ∧ x ≤ hi
  · rw [if_pos h]; simp [h]
  · rw [if_neg h]; simp [h]
def siph (p b : Int) (o : Bool) (x : Int) : Bool := decide (p ≤ x) || (o && decide (b < x))
--BEGIN CONTRACTS
theorem has_f (lo hi x : Int) : span_Has.f lo hi x = some (decide (lo ≤ x ∧ x ≤ hi)) := by
  unfold span_Has.f span_Of.f span_Within.f span_Join.f
  simp only [Option.bind_some]
  congr 1
  unfold mn mx
  rw [Bool.eq_iff_iff, Bool.and_eq_true, beq_iff_eq, beq_iff_eq, decide_eq_true_iff]
  split <;> split <;> omega
theorem has_in (n : Nat) (lo hi x : Int) (w : World) : CallsIn Fence.wide n Try.prog 22 #[.agg #[.int .i64 lo, .int .i64 hi], .int .i64 x] w fun e w' => e = .returned (.bool (decide (lo ≤ x ∧ x ≤ hi))) ∧ Below w.heap.size w w' :=
  callsIn_wide.2 (span_Has.calls lo hi x _ w (has_f lo hi x))
theorem sub_c (a r : Int) (h : exact_Sub.f a 1 = some r) (w : World) : Calls Try.prog 34 #[.int .i64 a, .int .i64 1] w fun e w' => e = .returned (.int .i64 r) ∧ ∃ m, w' = w.drewN m :=
  (exact_Sub.calls a 1 r w h).mono fun e w' q => ⟨q.1, q.2.out⟩
theorem add_c (a r : Int) (h : exact_Add.f a 1 = some r) (w : World) : Calls Try.prog 35 #[.int .i64 a, .int .i64 1] w fun e w' => e = .returned (.int .i64 r) ∧ ∃ m, w' = w.drewN m :=
  (exact_Add.calls a 1 r w h).mono fun e w' q => ⟨q.1, q.2.out⟩
theorem siph_f (a0_0 : ByteArray) (a0_2 a0_3 : Int) (l0_4 l0_5 l0_6 : List S90) (a0_7 : Int) (a0_8 : Int) (a0_9 : Int) (a0_10 : Int) (a0_11 : Int) (a0_12 : Int) (a0_13 : Int) (a0_14 : Int) (a0_15 : Int) (a0_16 : Int) (a0_17 : Int) (o : Bool) (x : Int) : seep_Siphon.f a0_0 3 a0_2 a0_3 l0_4 l0_5 l0_6 a0_7 a0_8 a0_9 a0_10 a0_11 a0_12 a0_13 a0_14 a0_15 a0_16 a0_17 0 0 false o x = some (0, 0, false, siph a0_13 a0_14 o x) := by
  unfold seep_Siphon.f siph
  by_cases h1 : a0_13 ≤ x
  · simp [h1]
  · cases o <;> simp [h1]
theorem siph_in (n : Nat) (a0_0 : ByteArray) (a0_2 a0_3 : Int) (A0_4 : Option Addr) (c0_4 : Nat) (l0_4 : List S90) (A0_5 : Option Addr) (c0_5 : Nat) (l0_5 : List S90) (A0_6 : Option Addr) (c0_6 : Nat) (l0_6 : List S90) (a0_7 : Int) (a0_8 : Int) (a0_9 : Int) (a0_10 : Int) (a0_11 : Int) (a0_12 : Int) (a0_13 : Int) (a0_14 : Int) (a0_15 : Int) (a0_16 : Int) (a0_17 : Int) (o : Bool) (x : Int) (w : World)
    (hr0_4 : Kd.C k90 w A0_4 l0_4.length l0_4) (hc0_4 : l0_4.length ≤ c0_4) (hr0_5 : Kd.C k90 w A0_5 l0_5.length l0_5) (hc0_5 : l0_5.length ≤ c0_5) (hr0_6 : Kd.C k90 w A0_6 l0_6.length l0_6) (hc0_6 : l0_6.length ≤ c0_6) :
    CallsIn Fence.wide n Try.prog 14 #[.agg #[.string a0_0, .int .i64 3, .int .i64 a0_2, .int .i64 a0_3, .slice A0_4 l0_4.length c0_4, .slice A0_5 l0_5.length c0_5, .slice A0_6 l0_6.length c0_6, .int .i64 a0_7, .int .i64 a0_8, .int .i64 a0_9, .int .i64 a0_10, .int .i64 a0_11, .int .i64 a0_12, .int .i64 a0_13, .int .i64 a0_14, .int .i64 a0_15, .int .i64 a0_16, .int .i64 a0_17], .agg #[.int .i64 0, .int .i64 0, .bool false, .bool o], .int .i64 x] w fun e w' =>
      e = .returned (.agg #[.int .i64 0, .int .i64 0, .bool false, .bool (siph a0_13 a0_14 o x)]) ∧ Below w.heap.size w w' :=
  callsIn_wide.2 (seep_Siphon.calls a0_0 3 a0_2 a0_3 A0_4 c0_4 l0_4 A0_5 c0_5 l0_5 A0_6 c0_6 l0_6 a0_7 a0_8 a0_9 a0_10 a0_11 a0_12 a0_13 a0_14 a0_15 a0_16 a0_17 0 0 false o x _ _ _ _ w hr0_4 hc0_4 hr0_5 hc0_5 hr0_6 hc0_6 (siph_f a0_0 a0_2 a0_3 l0_4 l0_5 l0_6 a0_7 a0_8 a0_9 a0_10 a0_11 a0_12 a0_13 a0_14 a0_15 a0_16 a0_17 o x))
--END CONTRACTS
theorem siph_is (n : Nat) (a0_0 : ByteArray) (a0_2 a0_3 : Int) (A0_4 : Option Addr) (c0_4 : Nat) (l0_4 : List S90) (A0_5 : Option Addr) (c0_5 : Nat) (l0_5 : List S90) (A0_6 : Option Addr) (c0_6 : Nat) (l0_6 : List S90) (a0_7 : Int) (a0_8 : Int) (a0_9 : Int) (a0_10 : Int) (a0_11 : Int) (a0_12 : Int) (a0_13 : Int) (a0_14 : Int) (a0_15 : Int) (a0_16 : Int) (a0_17 : Int) (o : Bool) (x : Int) (b : Bool) (hb : siph a0_13 a0_14 o x = b) (w : World)
    (hr0_4 : Kd.C k90 w A0_4 l0_4.length l0_4) (hc0_4 : l0_4.length ≤ c0_4) (hr0_5 : Kd.C k90 w A0_5 l0_5.length l0_5) (hc0_5 : l0_5.length ≤ c0_5) (hr0_6 : Kd.C k90 w A0_6 l0_6.length l0_6) (hc0_6 : l0_6.length ≤ c0_6) :
    CallsIn Fence.wide n Try.prog 14 #[.agg #[.string a0_0, .int .i64 3, .int .i64 a0_2, .int .i64 a0_3, .slice A0_4 l0_4.length c0_4, .slice A0_5 l0_5.length c0_5, .slice A0_6 l0_6.length c0_6, .int .i64 a0_7, .int .i64 a0_8, .int .i64 a0_9, .int .i64 a0_10, .int .i64 a0_11, .int .i64 a0_12, .int .i64 a0_13, .int .i64 a0_14, .int .i64 a0_15, .int .i64 a0_16, .int .i64 a0_17], .agg #[.int .i64 0, .int .i64 0, .bool false, .bool o], .int .i64 x] w fun e w' =>
      e = .returned (.agg #[.int .i64 0, .int .i64 0, .bool false, .bool b]) ∧ Below w.heap.size w w' :=
  hb ▸ siph_in n a0_0 a0_2 a0_3 A0_4 c0_4 l0_4 A0_5 c0_5 l0_5 A0_6 c0_6 l0_6 a0_7 a0_8 a0_9 a0_10 a0_11 a0_12 a0_13 a0_14 a0_15 a0_16 a0_17 o x w hr0_4 hc0_4 hr0_5 hc0_5 hr0_6 hc0_6
theorem idx62_0 (a b c d e f : Int) (w : World) : Sem.run Try.prog (Instr.index 62 (.agg #[.int .i64 a, .int .i64 b, .int .i64 c, .int .i64 d, .int .i64 e, .int .i64 f]) (.int .i64 0)) w = .ok (.int .i64 a) w := by
  have h := Try.underlying62
  simp [Instr.index, run_underlying h, asIntOf, go_sem]
theorem idx62_1 (a b c d e f : Int) (w : World) : Sem.run Try.prog (Instr.index 62 (.agg #[.int .i64 a, .int .i64 b, .int .i64 c, .int .i64 d, .int .i64 e, .int .i64 f]) (.int .i64 1)) w = .ok (.int .i64 b) w := by
  have h := Try.underlying62
  simp [Instr.index, run_underlying h, asIntOf, go_sem]
theorem idx62_2 (a b c d e f : Int) (w : World) : Sem.run Try.prog (Instr.index 62 (.agg #[.int .i64 a, .int .i64 b, .int .i64 c, .int .i64 d, .int .i64 e, .int .i64 f]) (.int .i64 2)) w = .ok (.int .i64 c) w := by
  have h := Try.underlying62
  simp [Instr.index, run_underlying h, asIntOf, go_sem]
theorem idx62_3 (a b c d e f : Int) (w : World) : Sem.run Try.prog (Instr.index 62 (.agg #[.int .i64 a, .int .i64 b, .int .i64 c, .int .i64 d, .int .i64 e, .int .i64 f]) (.int .i64 3)) w = .ok (.int .i64 d) w := by
  have h := Try.underlying62
  simp [Instr.index, run_underlying h, asIntOf, go_sem]
theorem idx62_4 (a b c d e f : Int) (w : World) : Sem.run Try.prog (Instr.index 62 (.agg #[.int .i64 a, .int .i64 b, .int .i64 c, .int .i64 d, .int .i64 e, .int .i64 f]) (.int .i64 4)) w = .ok (.int .i64 e) w := by
  have h := Try.underlying62
  simp [Instr.index, run_underlying h, asIntOf, go_sem]
theorem idx62_5 (a b c d e f : Int) (w : World) : Sem.run Try.prog (Instr.index 62 (.agg #[.int .i64 a, .int .i64 b, .int .i64 c, .int .i64 d, .int .i64 e, .int .i64 f]) (.int .i64 5)) w = .ok (.int .i64 f) w := by
  have h := Try.underlying62
  simp [Instr.index, run_underlying h, asIntOf, go_sem]
theorem fld28 (a b : Int) (c d : Bool) (w : World) : Sem.run Try.prog (Instr.field 28 (.agg #[.int .i64 a, .int .i64 b, .bool c, .bool d]) 3) w = .ok (.bool d) w := by
  have h := Try.underlying28
  unfold Instr.field
  simp [run_underlying h, asAgg, go_sem]
attribute [local go_sem] fld28
attribute [local go_sem] idx62_0 idx62_1 idx62_2 idx62_3 idx62_4 idx62_5
theorem has_yes (n : Nat) (lo hi x : Int) (w : World) (h : lo ≤ x ∧ x ≤ hi) : CallsIn Fence.wide n Try.prog 22 #[.agg #[.int .i64 lo, .int .i64 hi], .int .i64 x] w fun e w' => e = .returned (.bool true) ∧ Below w.heap.size w w' :=
  (has_in n lo hi x w).mono fun e w' q => ⟨by rw [q.1, decide_eq_true h], q.2⟩
theorem has_no (n : Nat) (lo hi x : Int) (w : World) (h : ¬ (lo ≤ x ∧ x ≤ hi)) : CallsIn Fence.wide n Try.prog 22 #[.agg #[.int .i64 lo, .int .i64 hi], .int .i64 x] w fun e w' => e = .returned (.bool false) ∧ Below w.heap.size w w' :=
  (has_in n lo hi x w).mono fun e w' q => ⟨by rw [q.1, decide_eq_false h], q.2⟩

set_option maxHeartbeats 4000000 in
theorem turns1_stops (n : Nat) (hn : 1 ≤ n) (bv bl : Nat) (lo hi p b s t : Int) (hs : exact_Sub.f p 1 = some s) (ht : exact_Add.f b 1 = some t) (Kp : World → World → Prop) (w : World)
    (hv0 : w.cell? ⟨bv, 0, none⟩ = some (.int .i64 lo)) (hv1 : w.cell? ⟨bv, 1, none⟩ = some (.int .i64 hi)) (hp : w.cell? ⟨bl, 13, none⟩ = some (.int .i64 p)) (hb : w.cell? ⟨bl, 14, none⟩ = some (.int .i64 b))
    (hKp : ∀ W W' i v, Kp W W' → W.cell? ⟨bv, i, none⟩ = some v → W'.cell? ⟨bv, i, none⟩ = some v) :
    SeqStopsK Fence.wide n Try.prog 33 #[.pointer (some ⟨bv, 0, none⟩), .pointer (some ⟨bl, 0, none⟩)] (fun x : Int => #[.int .i64 x]) Kp (fun xs => xs = turnsL lo hi [lo, s, p, b, t, hi]) (fun _ => True) 6 w := by
  intro l J Jx W hW hJ hJx hY h0
  have hbv : bv < w.heap.size := World.block_lt_of_cell? _ _ hv0
  have hbl : bl < w.heap.size := World.block_lt_of_cell? _ _ hp
  have hv0 := (hW.cell (p := ⟨bv, 0, none⟩) hbv).trans hv0
  have hv1 := (hW.cell (p := ⟨bv, 1, none⟩) hbv).trans hv1
  have hp := (hW.cell (p := ⟨bl, 13, none⟩) hbl).trans hp
  have hb := (hW.cell (p := ⟨bl, 14, none⟩) hbl).trans hb
  refine callsIn_of_wp Try.func33 rfl trivial ?_ rfl
  simp only [Try.ntmps33, List.size_toArray, List.length_cons, List.length_nil, Nat.reduceAdd, Nat.reduceSub, Array.replicate_succ, Array.replicate_zero, List.push_toArray, List.append_toArray, List.nil_append, List.cons_append]
  have hu26 := Try.underlying26
  have hu30 := Try.underlying30
  have hu62 := Try.underlying62
  have hmx : Try.prog.follows .mixedOrders = true := by kernel_rfl
  gi_wp2
  refine wpIn_wide.2 ?_
  go_quiet (first
    | (go_at_call 34; (with_reducible refine (sub_c p s hs _).mono ?_); rintro e w' ⟨rfl, ⟨nd, rfl⟩⟩; (try first | exact ⟨rfl, _, World.drewN_drewN _ _ _⟩ | exact ⟨rfl, _, Eq.trans (World.drewN_drewN _ _ _) (congrArg (World.drewN _) (Nat.add_assoc _ _ _))⟩))
    | (go_at_call 35; (with_reducible refine (add_c b t ht _).mono ?_); rintro e w' ⟨rfl, ⟨nd, rfl⟩⟩; (try first | exact ⟨rfl, _, World.drewN_drewN _ _ _⟩ | exact ⟨rfl, _, Eq.trans (World.drewN_drewN _ _ _) (congrArg (World.drewN _) (Nat.add_assoc _ _ _))⟩)))
  have hJ0 := hJ [] W _ none h0 (below_grown (pw_below_drewN (Below.refl W.heap.size W) nq)) (fun r e => by cases e)
  have hv0' : (W.drewN nq).cell? ⟨bv, 0, none⟩ = some (.int .i64 lo) := by simpa using hv0
  have hv1' : (W.drewN nq).cell? ⟨bv, 1, none⟩ = some (.int .i64 hi) := by simpa using hv1
  gi_wp2
  gi_loopw [21] (fun i wr => ∃ k : Nat, k ≤ 6 ∧ i = .int .i64 k ∧ J (turnsL lo hi ([lo, s, p, b, t, hi].take k)) wr ∧ wr.cell? ⟨bv, 0, none⟩ = some (.int .i64 lo) ∧ wr.cell? ⟨bv, 1, none⟩ = some (.int .i64 hi))
    (fun i _ => 6 - (intOf i).toNat)
  case atStart => exact ⟨0, by omega, rfl, hJ0, hv0', hv1'⟩
  case round =>
    obtain ⟨k, hk, rfl, hJs, hc0, hc1⟩ := hrel
    have hk7 : k = 0 ∨ k = 1 ∨ k = 2 ∨ k = 3 ∨ k = 4 ∨ k = 5 ∨ k = 6 := by omega
    rcases hk7 with rfl | rfl | rfl | rfl | rfl | rfl | rfl
    · by_cases hin : lo ≤ lo ∧ lo ≤ hi
      · have hlen : (turnsL lo hi ([lo, s, p, b, t, hi].take 0)).length < 6 := Nat.lt_of_le_of_lt (List.length_filter_le _ _) (by simp)
        have hstep : turnsL lo hi ([lo, s, p, b, t, hi].take (0 + 1)) = turnsL lo hi ([lo, s, p, b, t, hi].take 0) ++ [lo] := by
          rw [show [lo, s, p, b, t, hi].take (0 + 1) = [lo, s, p, b, t, hi].take 0 ++ [lo] from rfl, turnsL_snoc, if_pos hin]
        gi_wp2_with (refine ⟨trivial, ?_⟩; gi_at_call 22; refine (has_yes _ lo hi lo _ hin).mono ?_; rintro e w' ⟨rfl, hb'⟩; have hJ' := hJ _ wr w' none hJs (below_grown hb') (fun r e => by cases e); have hc0' := (hb'.cell (p := ⟨bv, 0, none⟩) (World.block_lt_of_cell? _ _ hc0)).trans hc0; have hc1' := (hb'.cell (p := ⟨bv, 1, none⟩) (World.block_lt_of_cell? _ _ hc1)).trans hc1; obtain ⟨fn, tmps, assign, body, hy, hR⟩ := hY _ lo w' hJ' hlen)
        refine hR.mono ?_
        rintro e W3 (⟨rfl, hJ3, hk3⟩ | ⟨rfl, hJx3⟩)
        · gi_wp2
          go_roundw
          case rel => exact ⟨0 + 1, by omega, by simp, by rw [hstep]; exact hJ3, hKp _ _ 0 _ hk3 hc0', hKp _ _ 1 _ hk3 hc1'⟩
          case measure => simp [intOf]
        · gi_wp2
          refine bodyPost_ret (results_none rfl _ _ _) rfl ?_
          exact ⟨⟨_, rfl⟩, .inr ⟨_, trivial, hJx3⟩⟩
      · have hstep : turnsL lo hi ([lo, s, p, b, t, hi].take (0 + 1)) = turnsL lo hi ([lo, s, p, b, t, hi].take 0) := by
          rw [show [lo, s, p, b, t, hi].take (0 + 1) = [lo, s, p, b, t, hi].take 0 ++ [lo] from rfl, turnsL_snoc, if_neg hin]
        gi_wp2_with (refine ⟨trivial, ?_⟩; gi_at_call 22; refine (has_no _ lo hi lo _ hin).mono ?_; rintro e w' ⟨rfl, hb'⟩; have hJ' := hJ _ wr w' none hJs (below_grown hb') (fun r e => by cases e); have hc0' := (hb'.cell (p := ⟨bv, 0, none⟩) (World.block_lt_of_cell? _ _ hc0)).trans hc0; have hc1' := (hb'.cell (p := ⟨bv, 1, none⟩) (World.block_lt_of_cell? _ _ hc1)).trans hc1)
        refine ⟨fun _ h => (by cases h), ?_⟩
        gi_wp2
        go_roundw
        case rel => exact ⟨0 + 1, by omega, by simp, by rw [hstep]; exact hJ', hc0', hc1'⟩
        case measure => simp [intOf]
    · by_cases hin : lo ≤ s ∧ s ≤ hi
      · have hlen : (turnsL lo hi ([lo, s, p, b, t, hi].take 1)).length < 6 := Nat.lt_of_le_of_lt (List.length_filter_le _ _) (by simp)
        have hstep : turnsL lo hi ([lo, s, p, b, t, hi].take (1 + 1)) = turnsL lo hi ([lo, s, p, b, t, hi].take 1) ++ [s] := by
          rw [show [lo, s, p, b, t, hi].take (1 + 1) = [lo, s, p, b, t, hi].take 1 ++ [s] from rfl, turnsL_snoc, if_pos hin]
        gi_wp2_with (refine ⟨trivial, ?_⟩; gi_at_call 22; refine (has_yes _ lo hi s _ hin).mono ?_; rintro e w' ⟨rfl, hb'⟩; have hJ' := hJ _ wr w' none hJs (below_grown hb') (fun r e => by cases e); have hc0' := (hb'.cell (p := ⟨bv, 0, none⟩) (World.block_lt_of_cell? _ _ hc0)).trans hc0; have hc1' := (hb'.cell (p := ⟨bv, 1, none⟩) (World.block_lt_of_cell? _ _ hc1)).trans hc1; obtain ⟨fn, tmps, assign, body, hy, hR⟩ := hY _ s w' hJ' hlen)
        refine hR.mono ?_
        rintro e W3 (⟨rfl, hJ3, hk3⟩ | ⟨rfl, hJx3⟩)
        · gi_wp2
          go_roundw
          case rel => exact ⟨1 + 1, by omega, by simp, by rw [hstep]; exact hJ3, hKp _ _ 0 _ hk3 hc0', hKp _ _ 1 _ hk3 hc1'⟩
          case measure => simp [intOf]
        · gi_wp2
          refine bodyPost_ret (results_none rfl _ _ _) rfl ?_
          exact ⟨⟨_, rfl⟩, .inr ⟨_, trivial, hJx3⟩⟩
      · have hstep : turnsL lo hi ([lo, s, p, b, t, hi].take (1 + 1)) = turnsL lo hi ([lo, s, p, b, t, hi].take 1) := by
          rw [show [lo, s, p, b, t, hi].take (1 + 1) = [lo, s, p, b, t, hi].take 1 ++ [s] from rfl, turnsL_snoc, if_neg hin]
        gi_wp2_with (refine ⟨trivial, ?_⟩; gi_at_call 22; refine (has_no _ lo hi s _ hin).mono ?_; rintro e w' ⟨rfl, hb'⟩; have hJ' := hJ _ wr w' none hJs (below_grown hb') (fun r e => by cases e); have hc0' := (hb'.cell (p := ⟨bv, 0, none⟩) (World.block_lt_of_cell? _ _ hc0)).trans hc0; have hc1' := (hb'.cell (p := ⟨bv, 1, none⟩) (World.block_lt_of_cell? _ _ hc1)).trans hc1)
        refine ⟨fun _ h => (by cases h), ?_⟩
        gi_wp2
        go_roundw
        case rel => exact ⟨1 + 1, by omega, by simp, by rw [hstep]; exact hJ', hc0', hc1'⟩
        case measure => simp [intOf]
    · by_cases hin : lo ≤ p ∧ p ≤ hi
      · have hlen : (turnsL lo hi ([lo, s, p, b, t, hi].take 2)).length < 6 := Nat.lt_of_le_of_lt (List.length_filter_le _ _) (by simp)
        have hstep : turnsL lo hi ([lo, s, p, b, t, hi].take (2 + 1)) = turnsL lo hi ([lo, s, p, b, t, hi].take 2) ++ [p] := by
          rw [show [lo, s, p, b, t, hi].take (2 + 1) = [lo, s, p, b, t, hi].take 2 ++ [p] from rfl, turnsL_snoc, if_pos hin]
        gi_wp2_with (refine ⟨trivial, ?_⟩; gi_at_call 22; refine (has_yes _ lo hi p _ hin).mono ?_; rintro e w' ⟨rfl, hb'⟩; have hJ' := hJ _ wr w' none hJs (below_grown hb') (fun r e => by cases e); have hc0' := (hb'.cell (p := ⟨bv, 0, none⟩) (World.block_lt_of_cell? _ _ hc0)).trans hc0; have hc1' := (hb'.cell (p := ⟨bv, 1, none⟩) (World.block_lt_of_cell? _ _ hc1)).trans hc1; obtain ⟨fn, tmps, assign, body, hy, hR⟩ := hY _ p w' hJ' hlen)
        refine hR.mono ?_
        rintro e W3 (⟨rfl, hJ3, hk3⟩ | ⟨rfl, hJx3⟩)
        · gi_wp2
          go_roundw
          case rel => exact ⟨2 + 1, by omega, by simp, by rw [hstep]; exact hJ3, hKp _ _ 0 _ hk3 hc0', hKp _ _ 1 _ hk3 hc1'⟩
          case measure => simp [intOf]
        · gi_wp2
          refine bodyPost_ret (results_none rfl _ _ _) rfl ?_
          exact ⟨⟨_, rfl⟩, .inr ⟨_, trivial, hJx3⟩⟩
      · have hstep : turnsL lo hi ([lo, s, p, b, t, hi].take (2 + 1)) = turnsL lo hi ([lo, s, p, b, t, hi].take 2) := by
          rw [show [lo, s, p, b, t, hi].take (2 + 1) = [lo, s, p, b, t, hi].take 2 ++ [p] from rfl, turnsL_snoc, if_neg hin]
        gi_wp2_with (refine ⟨trivial, ?_⟩; gi_at_call 22; refine (has_no _ lo hi p _ hin).mono ?_; rintro e w' ⟨rfl, hb'⟩; have hJ' := hJ _ wr w' none hJs (below_grown hb') (fun r e => by cases e); have hc0' := (hb'.cell (p := ⟨bv, 0, none⟩) (World.block_lt_of_cell? _ _ hc0)).trans hc0; have hc1' := (hb'.cell (p := ⟨bv, 1, none⟩) (World.block_lt_of_cell? _ _ hc1)).trans hc1)
        refine ⟨fun _ h => (by cases h), ?_⟩
        gi_wp2
        go_roundw
        case rel => exact ⟨2 + 1, by omega, by simp, by rw [hstep]; exact hJ', hc0', hc1'⟩
        case measure => simp [intOf]
    · by_cases hin : lo ≤ b ∧ b ≤ hi
      · have hlen : (turnsL lo hi ([lo, s, p, b, t, hi].take 3)).length < 6 := Nat.lt_of_le_of_lt (List.length_filter_le _ _) (by simp)
        have hstep : turnsL lo hi ([lo, s, p, b, t, hi].take (3 + 1)) = turnsL lo hi ([lo, s, p, b, t, hi].take 3) ++ [b] := by
          rw [show [lo, s, p, b, t, hi].take (3 + 1) = [lo, s, p, b, t, hi].take 3 ++ [b] from rfl, turnsL_snoc, if_pos hin]
        gi_wp2_with (refine ⟨trivial, ?_⟩; gi_at_call 22; refine (has_yes _ lo hi b _ hin).mono ?_; rintro e w' ⟨rfl, hb'⟩; have hJ' := hJ _ wr w' none hJs (below_grown hb') (fun r e => by cases e); have hc0' := (hb'.cell (p := ⟨bv, 0, none⟩) (World.block_lt_of_cell? _ _ hc0)).trans hc0; have hc1' := (hb'.cell (p := ⟨bv, 1, none⟩) (World.block_lt_of_cell? _ _ hc1)).trans hc1; obtain ⟨fn, tmps, assign, body, hy, hR⟩ := hY _ b w' hJ' hlen)
        refine hR.mono ?_
        rintro e W3 (⟨rfl, hJ3, hk3⟩ | ⟨rfl, hJx3⟩)
        · gi_wp2
          go_roundw
          case rel => exact ⟨3 + 1, by omega, by simp, by rw [hstep]; exact hJ3, hKp _ _ 0 _ hk3 hc0', hKp _ _ 1 _ hk3 hc1'⟩
          case measure => simp [intOf]
        · gi_wp2
          refine bodyPost_ret (results_none rfl _ _ _) rfl ?_
          exact ⟨⟨_, rfl⟩, .inr ⟨_, trivial, hJx3⟩⟩
      · have hstep : turnsL lo hi ([lo, s, p, b, t, hi].take (3 + 1)) = turnsL lo hi ([lo, s, p, b, t, hi].take 3) := by
          rw [show [lo, s, p, b, t, hi].take (3 + 1) = [lo, s, p, b, t, hi].take 3 ++ [b] from rfl, turnsL_snoc, if_neg hin]
        gi_wp2_with (refine ⟨trivial, ?_⟩; gi_at_call 22; refine (has_no _ lo hi b _ hin).mono ?_; rintro e w' ⟨rfl, hb'⟩; have hJ' := hJ _ wr w' none hJs (below_grown hb') (fun r e => by cases e); have hc0' := (hb'.cell (p := ⟨bv, 0, none⟩) (World.block_lt_of_cell? _ _ hc0)).trans hc0; have hc1' := (hb'.cell (p := ⟨bv, 1, none⟩) (World.block_lt_of_cell? _ _ hc1)).trans hc1)
        refine ⟨fun _ h => (by cases h), ?_⟩
        gi_wp2
        go_roundw
        case rel => exact ⟨3 + 1, by omega, by simp, by rw [hstep]; exact hJ', hc0', hc1'⟩
        case measure => simp [intOf]
    · by_cases hin : lo ≤ t ∧ t ≤ hi
      · have hlen : (turnsL lo hi ([lo, s, p, b, t, hi].take 4)).length < 6 := Nat.lt_of_le_of_lt (List.length_filter_le _ _) (by simp)
        have hstep : turnsL lo hi ([lo, s, p, b, t, hi].take (4 + 1)) = turnsL lo hi ([lo, s, p, b, t, hi].take 4) ++ [t] := by
          rw [show [lo, s, p, b, t, hi].take (4 + 1) = [lo, s, p, b, t, hi].take 4 ++ [t] from rfl, turnsL_snoc, if_pos hin]
        gi_wp2_with (refine ⟨trivial, ?_⟩; gi_at_call 22; refine (has_yes _ lo hi t _ hin).mono ?_; rintro e w' ⟨rfl, hb'⟩; have hJ' := hJ _ wr w' none hJs (below_grown hb') (fun r e => by cases e); have hc0' := (hb'.cell (p := ⟨bv, 0, none⟩) (World.block_lt_of_cell? _ _ hc0)).trans hc0; have hc1' := (hb'.cell (p := ⟨bv, 1, none⟩) (World.block_lt_of_cell? _ _ hc1)).trans hc1; obtain ⟨fn, tmps, assign, body, hy, hR⟩ := hY _ t w' hJ' hlen)
        refine hR.mono ?_
        rintro e W3 (⟨rfl, hJ3, hk3⟩ | ⟨rfl, hJx3⟩)
        · gi_wp2
          go_roundw
          case rel => exact ⟨4 + 1, by omega, by simp, by rw [hstep]; exact hJ3, hKp _ _ 0 _ hk3 hc0', hKp _ _ 1 _ hk3 hc1'⟩
          case measure => simp [intOf]
        · gi_wp2
          refine bodyPost_ret (results_none rfl _ _ _) rfl ?_
          exact ⟨⟨_, rfl⟩, .inr ⟨_, trivial, hJx3⟩⟩
      · have hstep : turnsL lo hi ([lo, s, p, b, t, hi].take (4 + 1)) = turnsL lo hi ([lo, s, p, b, t, hi].take 4) := by
          rw [show [lo, s, p, b, t, hi].take (4 + 1) = [lo, s, p, b, t, hi].take 4 ++ [t] from rfl, turnsL_snoc, if_neg hin]
        gi_wp2_with (refine ⟨trivial, ?_⟩; gi_at_call 22; refine (has_no _ lo hi t _ hin).mono ?_; rintro e w' ⟨rfl, hb'⟩; have hJ' := hJ _ wr w' none hJs (below_grown hb') (fun r e => by cases e); have hc0' := (hb'.cell (p := ⟨bv, 0, none⟩) (World.block_lt_of_cell? _ _ hc0)).trans hc0; have hc1' := (hb'.cell (p := ⟨bv, 1, none⟩) (World.block_lt_of_cell? _ _ hc1)).trans hc1)
        refine ⟨fun _ h => (by cases h), ?_⟩
        gi_wp2
        go_roundw
        case rel => exact ⟨4 + 1, by omega, by simp, by rw [hstep]; exact hJ', hc0', hc1'⟩
        case measure => simp [intOf]
    · by_cases hin : lo ≤ hi ∧ hi ≤ hi
      · have hlen : (turnsL lo hi ([lo, s, p, b, t, hi].take 5)).length < 6 := Nat.lt_of_le_of_lt (List.length_filter_le _ _) (by simp)
        have hstep : turnsL lo hi ([lo, s, p, b, t, hi].take (5 + 1)) = turnsL lo hi ([lo, s, p, b, t, hi].take 5) ++ [hi] := by
          rw [show [lo, s, p, b, t, hi].take (5 + 1) = [lo, s, p, b, t, hi].take 5 ++ [hi] from rfl, turnsL_snoc, if_pos hin]
        gi_wp2_with (refine ⟨trivial, ?_⟩; gi_at_call 22; refine (has_yes _ lo hi hi _ hin).mono ?_; rintro e w' ⟨rfl, hb'⟩; have hJ' := hJ _ wr w' none hJs (below_grown hb') (fun r e => by cases e); have hc0' := (hb'.cell (p := ⟨bv, 0, none⟩) (World.block_lt_of_cell? _ _ hc0)).trans hc0; have hc1' := (hb'.cell (p := ⟨bv, 1, none⟩) (World.block_lt_of_cell? _ _ hc1)).trans hc1; obtain ⟨fn, tmps, assign, body, hy, hR⟩ := hY _ hi w' hJ' hlen)
        refine hR.mono ?_
        rintro e W3 (⟨rfl, hJ3, hk3⟩ | ⟨rfl, hJx3⟩)
        · gi_wp2
          go_roundw
          case rel => exact ⟨5 + 1, by omega, by simp, by rw [hstep]; exact hJ3, hKp _ _ 0 _ hk3 hc0', hKp _ _ 1 _ hk3 hc1'⟩
          case measure => simp [intOf]
        · gi_wp2
          refine bodyPost_ret (results_none rfl _ _ _) rfl ?_
          exact ⟨⟨_, rfl⟩, .inr ⟨_, trivial, hJx3⟩⟩
      · have hstep : turnsL lo hi ([lo, s, p, b, t, hi].take (5 + 1)) = turnsL lo hi ([lo, s, p, b, t, hi].take 5) := by
          rw [show [lo, s, p, b, t, hi].take (5 + 1) = [lo, s, p, b, t, hi].take 5 ++ [hi] from rfl, turnsL_snoc, if_neg hin]
        gi_wp2_with (refine ⟨trivial, ?_⟩; gi_at_call 22; refine (has_no _ lo hi hi _ hin).mono ?_; rintro e w' ⟨rfl, hb'⟩; have hJ' := hJ _ wr w' none hJs (below_grown hb') (fun r e => by cases e); have hc0' := (hb'.cell (p := ⟨bv, 0, none⟩) (World.block_lt_of_cell? _ _ hc0)).trans hc0; have hc1' := (hb'.cell (p := ⟨bv, 1, none⟩) (World.block_lt_of_cell? _ _ hc1)).trans hc1)
        refine ⟨fun _ h => (by cases h), ?_⟩
        gi_wp2
        go_roundw
        case rel => exact ⟨5 + 1, by omega, by simp, by rw [hstep]; exact hJ', hc0', hc1'⟩
        case measure => simp [intOf]
    · gi_wp2
      go_end0
      exact ⟨⟨_, rfl⟩, .inl ⟨_, rfl, hJs⟩⟩
--PART2
theorem turns_in (n : Nat) (L : Array Value) (lo hi : Int) (w : World) :
    CallsIn Fence.wide n Try.prog 27 #[.agg L, .agg #[.int .i64 lo, .int .i64 hi]] w fun e w' =>
      e = .returned (.func (.func 33) #[] #[.pointer (some ⟨w.heap.size + 1, 0, none⟩), .pointer (some ⟨w.heap.size, 0, none⟩)]) ∧
      w'.heap[w.heap.size]? = some (.cells L 26 (0, 0)) ∧ w'.heap[w.heap.size + 1]? = some (.cells #[.int .i64 lo, .int .i64 hi] 30 (0, 0)) ∧ Below w.heap.size w w' ∧ w'.heap.size = w.heap.size + 2 := by
  refine callsIn_of_wp Try.func27 rfl trivial ?_ rfl
  simp only [Try.ntmps27, List.size_toArray, List.length_cons, List.length_nil, Nat.reduceAdd, Nat.reduceSub, Array.replicate_succ, Array.replicate_zero, List.push_toArray, List.append_toArray, List.nil_append, List.cons_append]
  have hu26 := Try.underlying26
  have hu30 := Try.underlying30
  gi_wp2
  go_ret
  exact ⟨rfl, blk_alloc (blk_new w _) _, (by have q := blk_new (w.alloc (.cells L 26)) (.cells #[.int .i64 lo, .int .i64 hi] 30); rwa [World.size_alloc] at q), ((Below.refl _ w).alloc (Nat.le_refl _) _).alloc (by rw [World.size_alloc]; omega) _, by rw [World.size_alloc, World.size_alloc]⟩
theorem blk_at {w : World} {g : Nat} {o : Obj} (h : g = w.heap.size) : (w.alloc o).heap[g]? = some o := h ▸ blk_new w o
/-- What a round of the loop keeps: all cells but the two that it writes. -/
def KpM (g1 g2 : Nat) (W W' : World) : Prop := ∀ g o, g ≠ g1 → g ≠ g2 → o.isCells = true → W.heap[g]? = some o → W'.heap[g]? = some o
theorem KpM.cell {g1 g2 : Nat} {W W' : World} (h : KpM g1 g2 W W') {p : Addr} {v : Value} (h1 : p.block ≠ g1) (h2 : p.block ≠ g2) (hc : W.cell? p = some v) : W'.cell? p = some v := by
  obtain ⟨o, ho, hi⟩ := cells_of_cell hc
  have e := h p.block o h1 h2 hi ho
  unfold World.cell? at hc ⊢
  rw [e]; rw [ho] at hc; exact hc
theorem KpM.trans' {g1 g2 : Nat} {A B C : World} (h : KpM g1 g2 A B) (k : KpM g1 g2 B C) : KpM g1 g2 A C := fun g o h1 h2 h3 h4 => k g o h1 h2 h3 (h g o h1 h2 h3 h4)
theorem KpM.put {g1 g2 n : Nat} (W : World) (l : Nat) (o o' : Obj) (_ : n ≤ l) (h1 : W.heap[l]? = some o) (h2 : o.isCells = false) (_ : o.isWalk = false) : KpM g1 g2 W (W.putObj l o') := by
  intro g oo e1 e2 e3 e4
  have hne : g ≠ l := by
    intro e; subst e
    rw [h1] at e4; injection e4 with e4; subst e4; rw [h2] at e3; cases e3
  exact (World.putObj_heap_other hne).trans e4
theorem own_blkF {β : Type} (B : Nat) (g : β → Nat) (cs : β → Array Value) (t : β → TypeId) : OwnFrom B (fun s W => W.heap[g s]? = some (.cells (cs s) (t s) (0, 0))) := by
  intro s W W' row hs hg hr
  refine blk_grown hs hg (fun e => ?_)
  obtain ⟨_, o, ho, hc⟩ := hr _ e.symm
  rw [hs] at ho; injection ho with ho; subst ho; cases hc
/-- The cells of the walk, in a world: what the loop reads, and the two numbers that it writes. -/
structure MS (w : World) (gL gK gR g1 g2 : Nat) (L K : Array Value) (lh : Int × Int) (W : World) : Prop where
  bl : W.heap[gL]? = some (.cells L 26 (0, 0))
  bk : W.heap[gK]? = some (.cells K 32 (0, 0))
  br : W.heap[gR]? = some (.cells #[.int .i64 0, .int .i64 0, .int .i64 0, .int .i64 0, .int .i64 0] 32 (0, 0))
  b1 : W.heap[g1]? = some (.cells #[.int .i64 lh.1] 3 (0, 0))
  b2 : W.heap[g2]? = some (.cells #[.int .i64 lh.2] 3 (0, 0))
  hb : Below w.heap.size w W
theorem MS.below {w : World} {gL gK gR g1 g2 : Nat} {L K : Array Value} {lh : Int × Int} {W W' : World} (h : MS w gL gK gR g1 g2 L K lh W) (hb : Below W.heap.size W W') : MS w gL gK gR g1 g2 L K lh W' :=
  ⟨blk_below h.bl hb, blk_below h.bk hb, blk_below h.br hb, blk_below h.b1 hb, blk_below h.b2 hb, h.hb.trans (hb.mono h.hb.size)⟩
theorem MS.own {w : World} {gL gK gR g1 g2 : Nat} {L K : Array Value} (f : List Int → Int × Int) (B : Nat) (hB : w.heap.size ≤ B) : OwnFrom B (fun pre W => MS w gL gK gR g1 g2 L K (f pre) W) := by
  intro s W W' row hs hg hr
  exact ⟨own_blkF B (fun _ => gL) (fun _ => L) (fun _ => 26) s W W' row hs.bl hg hr, own_blkF B (fun _ => gK) (fun _ => K) (fun _ => 32) s W W' row hs.bk hg hr,
    own_blkF B (fun _ => gR) (fun _ => _) (fun _ => 32) s W W' row hs.br hg hr, own_blkF B (fun _ => g1) (fun s => #[.int .i64 (f s).1]) (fun _ => 3) s W W' row hs.b1 hg hr, own_blkF B (fun _ => g2) (fun s => #[.int .i64 (f s).2]) (fun _ => 3) s W W' row hs.b2 hg hr,
    ownFrom_below (β := List Int) (Nat.le_refl _) hB s W W' row hs.hb hg hr⟩
/-- What a round has kept so far. -/
def KO (g1 g2 : Nat) (W W' : World) : Prop := KeepsOthers W W' ∧ KpM g1 g2 W W'
theorem KO.refl (g1 g2 : Nat) (W : World) : KO g1 g2 W W := ⟨KeepsOthers.refl W, fun _ _ _ _ _ h => h⟩
theorem KO.trans {g1 g2 : Nat} {A B C : World} (h : KO g1 g2 A B) (k : KO g1 g2 B C) : KO g1 g2 A C := ⟨h.1.trans k.1, h.2.trans' k.2⟩
theorem KO.below {g1 g2 : Nat} {W W' : World} (h : Below W.heap.size W W') : KO g1 g2 W W' :=
  ⟨KeepsOthers.of_grownBy (below_grown h) (fun j o e => by cases e), fun g o _ _ _ e => blk_below e h⟩
theorem MS.put {w : World} {gL gK gR g1 g2 : Nat} {L K : Array Value} {lh lh' : Int × Int} {W : World} (h : MS w gL gK gR g1 g2 L K lh W) (h1 : gL ≠ g1 ∧ gL ≠ g2) (h2 : gK ≠ g1 ∧ gK ≠ g2) (h3 : gR ≠ g1 ∧ gR ≠ g2) (h4 : g1 ≠ g2) (hw1 : w.heap.size ≤ g1) (hw2 : w.heap.size ≤ g2) (a b : Int) (e : lh' = (a, b)) :
    MS w gL gK gR g1 g2 L K lh' (((W.setCell ⟨g1, 0, none⟩ (.int .i64 a)).setCell ⟨g2, 0, none⟩ (.int .i64 b)).drew) := by
  subst e
  exact ⟨blk_drew (blk_far (blk_far h.bl h1.1 _) h1.2 _), blk_drew (blk_far (blk_far h.bk h2.1 _) h2.2 _), blk_drew (blk_far (blk_far h.br h3.1 _) h3.2 _), blk_drew (blk_far (blk_put h.b1 0 _ rfl) h4 _), blk_drew (blk_put (blk_far h.b2 (fun e => h4 e.symm) _) 0 _ rfl), below_drew (below_set (below_set h.hb hw1) hw2)⟩
theorem KO.put {g1 g2 : Nat} (W : World) (a b : Value) : KO g1 g2 W (((W.setCell ⟨g1, 0, none⟩ a).setCell ⟨g2, 0, none⟩ b).drew) :=
  ⟨((KeepsOthers.setCell _ _ _).trans (KeepsOthers.setCell _ _ _)).trans (KeepsOthers.drew _), fun g o h1 h2 _ h => blk_drew ((Below.heap_setCell _ _ _ g h2).trans ((Below.heap_setCell _ _ _ g h1).trans h))⟩
theorem res16 (tmps : Array Value) (g : Nat) (a b c d e : Int) (w : World) (hp : tmps[6]?.getD undef = .pointer (some ⟨g, 0, none⟩)) (h : w.heap[g]? = some (.cells #[.int .i64 a, .int .i64 b, .int .i64 c, .int .i64 d, .int .i64 e] 32 (0, 0))) :
    (results Try.f16 tmps).run Try.prog w = .ok (.agg #[.int .i64 a, .int .i64 b, .int .i64 c, .int .i64 d, .int .i64 e]) w := by
  have hu32 := Try.underlying32
  have c0 := (blk_cell h 0).trans (show _ = some (.int .i64 a) from rfl)
  have c1 := (blk_cell h 1).trans (show _ = some (.int .i64 b) from rfl)
  have c2 := (blk_cell h 2).trans (show _ = some (.int .i64 c) from rfl)
  have c3 := (blk_cell h 3).trans (show _ = some (.int .i64 d) from rfl)
  have c4 := (blk_cell h 4).trans (show _ = some (.int .i64 e) from rfl)
  have hr : Try.f16.results = #[.cell 6 32] := rfl
  simp only [results, hr]
  simp [hp, c0, c1, c2, c3, c4, asAddr, go_sem]
def mnum (p b : Int) (o : Bool) (x : Int) : Int := if siph p b o x = true then 1 else 0
def mstep (p b klo khi x o : Int) (lh : Int × Int) : Int × Int := if klo ≤ o ∧ o ≤ khi then (mn lh.1 (mnum p b (decide (o = 1)) x), mx lh.2 (mnum p b (decide (o = 1)) x)) else lh
def mround (p b klo khi : Int) (lh : Int × Int) (x : Int) : Int × Int := mstep p b klo khi x 1 (mstep p b klo khi x 0 lh)
def mfold (p b klo khi : Int) (xs : List Int) : Int × Int := xs.foldl (mround p b klo khi) (2, -1)
theorem mfold_snoc (p b klo khi : Int) (xs : List Int) (x : Int) : mfold p b klo khi (xs ++ [x]) = mround p b klo khi (mfold p b klo khi xs) x := by
  unfold mfold; rw [List.foldl_append]; rfl
def seep_Maybe.f (a0_0 : ByteArray) (a0_1 a0_2 a0_3 : Int) (l0_4 l0_5 l0_6 : List (S90)) (a0_7 : Int) (a0_8 : Int) (a0_9 : Int) (a0_10 : Int) (a0_11 : Int) (a0_12 : Int) (a0_13 : Int) (a0_14 : Int) (a0_15 : Int) (a0_16 : Int) (a0_17 : Int) (a1_0 : Int) (a1_1 : Int) (a1_2 : Int) (a1_3 : Int) (a1_4 : Int) (a2_0 a2_1 : Int) : Option (Int × Int × Int × Int × Int) :=
  if a0_1 = 3 then ((exact_Sub.f a0_13 1).bind fun s => (exact_Add.f a0_14 1).bind fun t =>
    let m := mfold a0_13 a0_14 a1_3 a1_4 (turnsL a2_0 a2_1 [a2_0, s, a0_13, a0_14, t, a2_1])
    if m.1 ≤ m.2 then some (a1_0, a1_1, a1_2, m.1, m.2) else some (a1_0, a1_1, a1_2, a1_3, a1_4))
  else some (a1_0, a1_1, a1_2, a1_3, a1_4)
set_option maxHeartbeats 8000000 in
theorem seep_Maybe.calls (a0_0 : ByteArray) (a0_1 a0_2 a0_3 : Int) (A0_4 : Option Addr) (c0_4 : Nat) (l0_4 : List (S90)) (A0_5 : Option Addr) (c0_5 : Nat) (l0_5 : List (S90)) (A0_6 : Option Addr) (c0_6 : Nat) (l0_6 : List (S90)) (a0_7 : Int) (a0_8 : Int) (a0_9 : Int) (a0_10 : Int) (a0_11 : Int) (a0_12 : Int) (a0_13 : Int) (a0_14 : Int) (a0_15 : Int) (a0_16 : Int) (a0_17 : Int) (a1_0 : Int) (a1_1 : Int) (a1_2 : Int) (a1_3 : Int) (a1_4 : Int) (a2_0 a2_1 : Int) (r1 r2 r3 r4 r5 : Int) (w : World) (hr0_4 : Kd.C k90 w A0_4 l0_4.length l0_4) (hc0_4 : l0_4.length ≤ c0_4) (hr0_5 : Kd.C k90 w A0_5 l0_5.length l0_5) (hc0_5 : l0_5.length ≤ c0_5) (hr0_6 : Kd.C k90 w A0_6 l0_6.length l0_6) (hc0_6 : l0_6.length ≤ c0_6)
    (h : seep_Maybe.f a0_0 a0_1 a0_2 a0_3 l0_4 l0_5 l0_6 a0_7 a0_8 a0_9 a0_10 a0_11 a0_12 a0_13 a0_14 a0_15 a0_16 a0_17 a1_0 a1_1 a1_2 a1_3 a1_4 a2_0 a2_1 = some (r1, r2, r3, r4, r5)) :
    Calls Try.prog 16 #[.agg #[.string a0_0, .int .i64 a0_1, .int .i64 a0_2, .int .i64 a0_3, .slice A0_4 l0_4.length c0_4, .slice A0_5 l0_5.length c0_5, .slice A0_6 l0_6.length c0_6, .int .i64 a0_7, .int .i64 a0_8, .int .i64 a0_9, .int .i64 a0_10, .int .i64 a0_11, .int .i64 a0_12, .int .i64 a0_13, .int .i64 a0_14, .int .i64 a0_15, .int .i64 a0_16, .int .i64 a0_17], .agg #[.int .i64 a1_0, .int .i64 a1_1, .int .i64 a1_2, .int .i64 a1_3, .int .i64 a1_4], .agg #[.int .i64 a2_0, .int .i64 a2_1]] w fun e w' => e = .returned (.agg #[.int .i64 r1, .int .i64 r2, .int .i64 r3, .int .i64 r4, .int .i64 r5]) ∧ Below w.heap.size w w' := by
  refine (callsIn_wide (n := 3)).1 ?_
  refine callsIn_of_wp_marks Try.func16 rfl trivial ?_ rfl
  simp only [Try.ntmps16, List.size_toArray, List.length_cons, List.length_nil, Nat.reduceAdd, Nat.reduceSub, Array.replicate_succ, Array.replicate_zero, List.push_toArray, List.append_toArray, List.nil_append, List.cons_append]
  have hu26 := Try.underlying26
  have hu28 := Try.underlying28
  have hu30 := Try.underlying30
  have hu32 := Try.underlying32
  have hmx : Try.prog.follows .mixedOrders = true := by kernel_rfl
  unfold seep_Maybe.f at h
  by_cases hk : a0_1 = 3
  · rw [if_pos hk] at h
    subst hk
    gi_wp2_with (refine ⟨trivial, ?_⟩; gi_at_call 27; refine (turns_in 2 _ _ _ _).mono ?_; rintro e w' ⟨rfl, fl, fv, hbw, hsz⟩)
    as_aux_lemma =>
    have BL : w'.heap[w.heap.size]? = some (.cells #[.string a0_0, .int .i64 3, .int .i64 a0_2, .int .i64 a0_3, .slice A0_4 l0_4.length c0_4, .slice A0_5 l0_5.length c0_5, .slice A0_6 l0_6.length c0_6, .int .i64 a0_7, .int .i64 a0_8, .int .i64 a0_9, .int .i64 a0_10, .int .i64 a0_11, .int .i64 a0_12, .int .i64 a0_13, .int .i64 a0_14, .int .i64 a0_15, .int .i64 a0_16, .int .i64 a0_17] 26 (0, 0)) := by
      refine (hbw.block _ (by simp only [World.size_alloc]; omega)).trans ?_
      refine blk_alloc ?_ _
      refine blk_alloc ?_ _
      refine blk_alloc ?_ _
      refine blk_alloc ?_ _
      refine blk_alloc ?_ _
      exact blk_at (by simp only [World.size_alloc])
    have BK : w'.heap[w.heap.size + 1]? = some (.cells #[.int .i64 a1_0, .int .i64 a1_1, .int .i64 a1_2, .int .i64 a1_3, .int .i64 a1_4] 32 (0, 0)) := by
      refine (hbw.block _ (by simp only [World.size_alloc]; omega)).trans ?_
      refine blk_alloc ?_ _
      refine blk_alloc ?_ _
      refine blk_alloc ?_ _
      refine blk_alloc ?_ _
      exact blk_at (by simp only [World.size_alloc])
    have BR : w'.heap[w.heap.size + 1 + 1 + 1]? = some (.cells #[.int .i64 0, .int .i64 0, .int .i64 0, .int .i64 0, .int .i64 0] 32 (0, 0)) := by
      refine (hbw.block _ (by simp only [World.size_alloc]; omega)).trans ?_
      refine blk_alloc ?_ _
      refine blk_alloc ?_ _
      exact blk_at (by simp only [World.size_alloc])
    have BLo : w'.heap[w.heap.size + 1 + 1 + 1 + 1]? = some (.cells #[.int .i64 2] 3 (0, 0)) := by
      refine (hbw.block _ (by simp only [World.size_alloc]; omega)).trans ?_
      refine blk_alloc ?_ _
      exact blk_at (by simp only [World.size_alloc])
    have BHi : w'.heap[w.heap.size + 1 + 1 + 1 + 1 + 1]? = some (.cells #[.int .i64 (-1)] 3 (0, 0)) := by
      refine (hbw.block _ (by simp only [World.size_alloc]; omega)).trans ?_
      exact blk_at (by simp only [World.size_alloc])
    have HB : Below w.heap.size w w' := Below.trans (by repeat (first | exact Below.refl _ _ | apply below_alloc)) (hbw.mono (by simp only [World.size_alloc]; omega))
    have hszw : w'.heap.size = w.heap.size + 8 := by rw [hsz]; simp only [World.size_alloc]
    (try simp only [World.size_alloc] at fl fv)
    (try simp only [World.size_alloc])
    clear hbw hsz
    obtain ⟨s, hs, h⟩ := Option.bind_eq_some_iff.mp h
    obtain ⟨t, ht, h⟩ := Option.bind_eq_some_iff.mp h
    have BM : MS w w.heap.size (w.heap.size + 1) (w.heap.size + 1 + 1 + 1) (w.heap.size + 1 + 1 + 1 + 1) (w.heap.size + 1 + 1 + 1 + 1 + 1) #[.string a0_0, .int .i64 3, .int .i64 a0_2, .int .i64 a0_3, .slice A0_4 l0_4.length c0_4, .slice A0_5 l0_5.length c0_5, .slice A0_6 l0_6.length c0_6, .int .i64 a0_7, .int .i64 a0_8, .int .i64 a0_9, .int .i64 a0_10, .int .i64 a0_11, .int .i64 a0_12, .int .i64 a0_13, .int .i64 a0_14, .int .i64 a0_15, .int .i64 a0_16, .int .i64 a0_17] #[.int .i64 a1_0, .int .i64 a1_1, .int .i64 a1_2, .int .i64 a1_3, .int .i64 a1_4] (2, -1) w' := ⟨BL, BK, BR, BLo, BHi, HB⟩
    clear BL BK BR BLo BHi HB
    obtain ⟨gL, hgL⟩ : ∃ g, w.heap.size = g := ⟨_, rfl⟩
    obtain ⟨gK, hgK⟩ : ∃ g, w.heap.size + 1 = g := ⟨_, rfl⟩
    obtain ⟨gV, hgV⟩ : ∃ g, w.heap.size + 1 + 1 = g := ⟨_, rfl⟩
    obtain ⟨gR, hgR⟩ : ∃ g, w.heap.size + 1 + 1 + 1 = g := ⟨_, rfl⟩
    obtain ⟨g1, hg1⟩ : ∃ g, w.heap.size + 1 + 1 + 1 + 1 = g := ⟨_, rfl⟩
    obtain ⟨g2, hg2⟩ : ∃ g, w.heap.size + 1 + 1 + 1 + 1 + 1 = g := ⟨_, rfl⟩
    obtain ⟨g6, hg6⟩ : ∃ g, w.heap.size + 1 + 1 + 1 + 1 + 1 + 1 = g := ⟨_, rfl⟩
    obtain ⟨g7, hg7⟩ : ∃ g, w.heap.size + 1 + 1 + 1 + 1 + 1 + 1 + 1 = g := ⟨_, rfl⟩
    rw [hg7] at fv ⊢
    rw [hg6] at fl ⊢
    rw [hg2, hg1, hgR, hgK] at BM
    have BM2 : MS w gL gK gR g1 g2 #[.string a0_0, .int .i64 3, .int .i64 a0_2, .int .i64 a0_3, .slice A0_4 l0_4.length c0_4, .slice A0_5 l0_5.length c0_5, .slice A0_6 l0_6.length c0_6, .int .i64 a0_7, .int .i64 a0_8, .int .i64 a0_9, .int .i64 a0_10, .int .i64 a0_11, .int .i64 a0_12, .int .i64 a0_13, .int .i64 a0_14, .int .i64 a0_15, .int .i64 a0_16, .int .i64 a0_17] #[.int .i64 a1_0, .int .i64 a1_1, .int .i64 a1_2, .int .i64 a1_3, .int .i64 a1_4] (2, -1) w' := by rw [← hgL]; exact BM
    clear BM
    rw [hg2, hg1, hgR, hgV, hgK]
    have cv0 := (blk_cell fv 0).trans rfl
    have hne : g6 ≠ g1 ∧ g6 ≠ g2 ∧ g7 ≠ g1 ∧ g7 ≠ g2 ∧ g1 ≠ g2 ∧ gL ≠ g1 ∧ gL ≠ g2 ∧ gK ≠ g1 ∧ gK ≠ g2 ∧ gR ≠ g1 ∧ gR ≠ g2 ∧ gK ≠ gR := by omega
    have hgb : w.heap.size ≤ g1 ∧ w.heap.size ≤ g2 ∧ w.heap.size ≤ gR ∧ w.heap.size ≤ gK := by omega
    refine wpIn_rangeFunc_ownF (F := Fence.wide) (encs := fun x : Int => #[.int .i64 x]) (Kp := KpM g1 g2) rfl (by omega) (gf := 33) (lb := #[.pointer (some ⟨g7, 0, none⟩), .pointer (some ⟨g6, 0, none⟩)]) rfl trivial (enters_of Try.func33 (by kernel_rfl) rfl)
      (turns1_stops 2 (by omega) g7 g6 a2_0 a2_1 a0_13 a0_14 s t hs ht (KpM g1 g2) w' ((blk_cell fv 0).trans rfl) ((blk_cell fv 1).trans rfl) ((blk_cell fl 13).trans rfl) ((blk_cell fl 14).trans rfl) (fun W W' i v hk hc => hk.cell (p := ⟨g7, i, none⟩) hne.2.2.1 hne.2.2.2.1 hc))
      KpM.trans' (fun W l o o' h1 h2 h3 h4 => KpM.put W l o o' h1 h2 h3 h4) (Below.refl _ _) (fun _ => rfl)
      (fun pre W => MS w gL gK gR g1 g2 #[.string a0_0, .int .i64 3, .int .i64 a0_2, .int .i64 a0_3, .slice A0_4 l0_4.length c0_4, .slice A0_5 l0_5.length c0_5, .slice A0_6 l0_6.length c0_6, .int .i64 a0_7, .int .i64 a0_8, .int .i64 a0_9, .int .i64 a0_10, .int .i64 a0_11, .int .i64 a0_12, .int .i64 a0_13, .int .i64 a0_14, .int .i64 a0_15, .int .i64 a0_16, .int .i64 a0_17] #[.int .i64 a1_0, .int .i64 a1_1, .int .i64 a1_2, .int .i64 a1_3, .int .i64 a1_4] (mfold a0_13 a0_14 a1_3 a1_4 pre) W) (fun _ _ _ => False)
      (MS.own _ _ (by omega)) (fun _ _ _ _ _ hs _ _ => hs) BM2
      (fun x => { tmps := #[.agg #[.string a0_0, .int .i64 3, .int .i64 a0_2, .int .i64 a0_3, .slice A0_4 l0_4.length c0_4, .slice A0_5 l0_5.length c0_5, .slice A0_6 l0_6.length c0_6, .int .i64 a0_7, .int .i64 a0_8, .int .i64 a0_9, .int .i64 a0_10, .int .i64 a0_11, .int .i64 a0_12, .int .i64 a0_13, .int .i64 a0_14, .int .i64 a0_15, .int .i64 a0_16, .int .i64 a0_17], .agg #[.int .i64 a1_0, .int .i64 a1_1, .int .i64 a1_2, .int .i64 a1_3, .int .i64 a1_4], .agg #[.int .i64 a2_0, .int .i64 a2_1], .pointer (some ⟨gL, 0, none⟩), .pointer (some ⟨gK, 0, none⟩), .pointer (some ⟨gV, 0, none⟩), .pointer (some ⟨gR, 0, none⟩), .pointer (some ⟨g1, 0, none⟩), .pointer (some ⟨g2, 0, none⟩), .int .i64 x, undef, undef, .pointer (some ⟨gL, 1, none⟩), .int .i64 3, .bool false, undef, .agg #[.string a0_0, .int .i64 3, .int .i64 a0_2, .int .i64 a0_3, .slice A0_4 l0_4.length c0_4, .slice A0_5 l0_5.length c0_5, .slice A0_6 l0_6.length c0_6, .int .i64 a0_7, .int .i64 a0_8, .int .i64 a0_9, .int .i64 a0_10, .int .i64 a0_11, .int .i64 a0_12, .int .i64 a0_13, .int .i64 a0_14, .int .i64 a0_15, .int .i64 a0_16, .int .i64 a0_17], .agg #[.int .i64 a2_0, .int .i64 a2_1], .func (.func 33) #[] #[.pointer (some ⟨g7, 0, none⟩), .pointer (some ⟨g6, 0, none⟩)], .int .i64 x, undef, undef, undef, undef, undef, undef, undef, undef, undef, undef, undef, undef, undef, undef, undef, undef, undef, undef, undef, undef, undef, undef, undef, undef, undef, undef, undef, undef, undef, undef], defers := [] }) ?assign ?body ?done ?stop
    case assign =>
      intro l x W K hK
      gi_wp2
      exact hK
    case body =>
      rintro l pre x W hm _
      have hu3 := Try.underlying3
      gi_wp2
      gi_loopw [20] (fun i wr => ∃ k : Nat, k ≤ 2 ∧ i = .int .i64 k ∧ MS w gL gK gR g1 g2 #[.string a0_0, .int .i64 3, .int .i64 a0_2, .int .i64 a0_3, .slice A0_4 l0_4.length c0_4, .slice A0_5 l0_5.length c0_5, .slice A0_6 l0_6.length c0_6, .int .i64 a0_7, .int .i64 a0_8, .int .i64 a0_9, .int .i64 a0_10, .int .i64 a0_11, .int .i64 a0_12, .int .i64 a0_13, .int .i64 a0_14, .int .i64 a0_15, .int .i64 a0_16, .int .i64 a0_17] #[.int .i64 a1_0, .int .i64 a1_1, .int .i64 a1_2, .int .i64 a1_3, .int .i64 a1_4] (if k = 0 then mfold a0_13 a0_14 a1_3 a1_4 pre else if k = 1 then mstep a0_13 a0_14 a1_3 a1_4 x 0 (mfold a0_13 a0_14 a1_3 a1_4 pre) else mround a0_13 a0_14 a1_3 a1_4 (mfold a0_13 a0_14 a1_3 a1_4 pre) x) wr ∧ KO g1 g2 W wr)
        (fun i _ => 2 - (intOf i).toNat)
      case atStart => exact ⟨0, by omega, rfl, hm, KO.refl _ _ _⟩
      case round =>
        obtain ⟨k, hk, rfl, hms, hko⟩ := hrel
        have hk3 : k = 0 ∨ k = 1 ∨ k = 2 := by omega
        have ck3 := (blk_cell hms.bk 3).trans (show _ = some (.int .i64 a1_3) from rfl)
        have ck4 := (blk_cell hms.bk 4).trans (show _ = some (.int .i64 a1_4) from rfl)
        rcases hk3 with rfl | rfl | rfl
        · by_cases hin : a1_3 ≤ (0 : Int) ∧ (0 : Int) ≤ a1_4
          · rcases Bool.eq_false_or_eq_true (siph a0_13 a0_14 false x) with hsi | hsi
            ·
--LEAF y0t
              as_aux_lemma =>
              gi_wp2_with (first
                | (refine ⟨trivial, ?_⟩; gi_at_call 22; refine (CallsIn.inRound l (has_yes _ a1_3 a1_4 0 _ hin)).mono ?_; rintro e w1 ⟨rfl, hb1⟩; have m1 := hms.below hb1; have k1 := hko.trans (KO.below hb1); have cL0 := (blk_cell m1.bl 0).trans rfl; have cL1 := (blk_cell m1.bl 1).trans rfl; have cL2 := (blk_cell m1.bl 2).trans rfl; have cL3 := (blk_cell m1.bl 3).trans rfl; have cL4 := (blk_cell m1.bl 4).trans rfl; have cL5 := (blk_cell m1.bl 5).trans rfl; have cL6 := (blk_cell m1.bl 6).trans rfl; have cL7 := (blk_cell m1.bl 7).trans rfl; have cL8 := (blk_cell m1.bl 8).trans rfl; have cL9 := (blk_cell m1.bl 9).trans rfl; have cL10 := (blk_cell m1.bl 10).trans rfl; have cL11 := (blk_cell m1.bl 11).trans rfl; have cL12 := (blk_cell m1.bl 12).trans rfl; have cL13 := (blk_cell m1.bl 13).trans rfl; have cL14 := (blk_cell m1.bl 14).trans rfl; have cL15 := (blk_cell m1.bl 15).trans rfl; have cL16 := (blk_cell m1.bl 16).trans rfl; have cL17 := (blk_cell m1.bl 17).trans rfl)
                | (refine ⟨trivial, ?_⟩; gi_at_call 14; refine (CallsIn.inRound l (siph_is _ a0_0 a0_2 a0_3 A0_4 c0_4 l0_4 A0_5 c0_5 l0_5 A0_6 c0_6 l0_6 a0_7 a0_8 a0_9 a0_10 a0_11 a0_12 a0_13 a0_14 a0_15 a0_16 a0_17 false x _ hsi w1 (Kd.C_below hr0_4 m1.hb) hc0_4 (Kd.C_below hr0_5 m1.hb) hc0_5 (Kd.C_below hr0_6 m1.hb) hc0_6)).mono ?_; rintro e w2 ⟨rfl, hb2⟩; have m2 := m1.below hb2; have k2 := k1.trans (KO.below hb2); have c1 := (blk_cell m2.b1 0).trans rfl; have f1 := blk_frozen m2.b1 0; have c2 := (blk_cell m2.b2 0).trans rfl; have f2 := blk_frozen m2.b2 0))
              refine reg13 l _ g1 g2 _ _ _ hne.2.2.2.2.1 w2 _ c1 f1 c2 f2 ?_
              gi_wp2
              go_roundw
              case rel => exact ⟨1, by omega, by simp, m2.put ⟨hne.2.2.2.2.2.1, hne.2.2.2.2.2.2.1⟩ ⟨hne.2.2.2.2.2.2.2.1, hne.2.2.2.2.2.2.2.2.1⟩ ⟨hne.2.2.2.2.2.2.2.2.2.1, hne.2.2.2.2.2.2.2.2.2.2.1⟩ hne.2.2.2.2.1 hgb.1 hgb.2.1 _ _ (by simp [mround, mstep, mnum, hin, hsi, mn, mx]), k2.trans (KO.put _ _ _)⟩
              case measure => simp [intOf]
--ENDLEAF
            ·
--LEAF y0f
              as_aux_lemma =>
              gi_wp2_with (first
                | (refine ⟨trivial, ?_⟩; gi_at_call 22; refine (CallsIn.inRound l (has_yes _ a1_3 a1_4 0 _ hin)).mono ?_; rintro e w1 ⟨rfl, hb1⟩; have m1 := hms.below hb1; have k1 := hko.trans (KO.below hb1); have cL0 := (blk_cell m1.bl 0).trans rfl; have cL1 := (blk_cell m1.bl 1).trans rfl; have cL2 := (blk_cell m1.bl 2).trans rfl; have cL3 := (blk_cell m1.bl 3).trans rfl; have cL4 := (blk_cell m1.bl 4).trans rfl; have cL5 := (blk_cell m1.bl 5).trans rfl; have cL6 := (blk_cell m1.bl 6).trans rfl; have cL7 := (blk_cell m1.bl 7).trans rfl; have cL8 := (blk_cell m1.bl 8).trans rfl; have cL9 := (blk_cell m1.bl 9).trans rfl; have cL10 := (blk_cell m1.bl 10).trans rfl; have cL11 := (blk_cell m1.bl 11).trans rfl; have cL12 := (blk_cell m1.bl 12).trans rfl; have cL13 := (blk_cell m1.bl 13).trans rfl; have cL14 := (blk_cell m1.bl 14).trans rfl; have cL15 := (blk_cell m1.bl 15).trans rfl; have cL16 := (blk_cell m1.bl 16).trans rfl; have cL17 := (blk_cell m1.bl 17).trans rfl)
                | (refine ⟨trivial, ?_⟩; gi_at_call 14; refine (CallsIn.inRound l (siph_is _ a0_0 a0_2 a0_3 A0_4 c0_4 l0_4 A0_5 c0_5 l0_5 A0_6 c0_6 l0_6 a0_7 a0_8 a0_9 a0_10 a0_11 a0_12 a0_13 a0_14 a0_15 a0_16 a0_17 false x _ hsi w1 (Kd.C_below hr0_4 m1.hb) hc0_4 (Kd.C_below hr0_5 m1.hb) hc0_5 (Kd.C_below hr0_6 m1.hb) hc0_6)).mono ?_; rintro e w2 ⟨rfl, hb2⟩; have m2 := m1.below hb2; have k2 := k1.trans (KO.below hb2); have c1 := (blk_cell m2.b1 0).trans rfl; have f1 := blk_frozen m2.b1 0; have c2 := (blk_cell m2.b2 0).trans rfl; have f2 := blk_frozen m2.b2 0))
              refine reg13 l _ g1 g2 _ _ _ hne.2.2.2.2.1 w2 _ c1 f1 c2 f2 ?_
              gi_wp2
              go_roundw
              case rel => exact ⟨1, by omega, by simp, m2.put ⟨hne.2.2.2.2.2.1, hne.2.2.2.2.2.2.1⟩ ⟨hne.2.2.2.2.2.2.2.1, hne.2.2.2.2.2.2.2.2.1⟩ ⟨hne.2.2.2.2.2.2.2.2.2.1, hne.2.2.2.2.2.2.2.2.2.2.1⟩ hne.2.2.2.2.1 hgb.1 hgb.2.1 _ _ (by simp [mround, mstep, mnum, hin, hsi, mn, mx]), k2.trans (KO.put _ _ _)⟩
              case measure => simp [intOf]
--ENDLEAF
          ·
--LEAF n0
            as_aux_lemma =>
            gi_wp2_with (refine ⟨trivial, ?_⟩; gi_at_call 22; refine (CallsIn.inRound l (has_no _ a1_3 a1_4 0 _ hin)).mono ?_; rintro e w1 ⟨rfl, hb1⟩; have m1 := hms.below hb1; have k1 := hko.trans (KO.below hb1))
            go_roundw
            case rel => exact ⟨1, by omega, by simp, by simpa [mround, mstep, hin] using m1, k1⟩
            case measure => simp [intOf]
--ENDLEAF
        · by_cases hin : a1_3 ≤ (1 : Int) ∧ (1 : Int) ≤ a1_4
          · rcases Bool.eq_false_or_eq_true (siph a0_13 a0_14 true x) with hsi | hsi
            ·
--LEAF y1t
              as_aux_lemma =>
              gi_wp2_with (first
                | (refine ⟨trivial, ?_⟩; gi_at_call 22; refine (CallsIn.inRound l (has_yes _ a1_3 a1_4 1 _ hin)).mono ?_; rintro e w1 ⟨rfl, hb1⟩; have m1 := hms.below hb1; have k1 := hko.trans (KO.below hb1); have cL0 := (blk_cell m1.bl 0).trans rfl; have cL1 := (blk_cell m1.bl 1).trans rfl; have cL2 := (blk_cell m1.bl 2).trans rfl; have cL3 := (blk_cell m1.bl 3).trans rfl; have cL4 := (blk_cell m1.bl 4).trans rfl; have cL5 := (blk_cell m1.bl 5).trans rfl; have cL6 := (blk_cell m1.bl 6).trans rfl; have cL7 := (blk_cell m1.bl 7).trans rfl; have cL8 := (blk_cell m1.bl 8).trans rfl; have cL9 := (blk_cell m1.bl 9).trans rfl; have cL10 := (blk_cell m1.bl 10).trans rfl; have cL11 := (blk_cell m1.bl 11).trans rfl; have cL12 := (blk_cell m1.bl 12).trans rfl; have cL13 := (blk_cell m1.bl 13).trans rfl; have cL14 := (blk_cell m1.bl 14).trans rfl; have cL15 := (blk_cell m1.bl 15).trans rfl; have cL16 := (blk_cell m1.bl 16).trans rfl; have cL17 := (blk_cell m1.bl 17).trans rfl)
                | (refine ⟨trivial, ?_⟩; gi_at_call 14; refine (CallsIn.inRound l (siph_is _ a0_0 a0_2 a0_3 A0_4 c0_4 l0_4 A0_5 c0_5 l0_5 A0_6 c0_6 l0_6 a0_7 a0_8 a0_9 a0_10 a0_11 a0_12 a0_13 a0_14 a0_15 a0_16 a0_17 true x _ hsi w1 (Kd.C_below hr0_4 m1.hb) hc0_4 (Kd.C_below hr0_5 m1.hb) hc0_5 (Kd.C_below hr0_6 m1.hb) hc0_6)).mono ?_; rintro e w2 ⟨rfl, hb2⟩; have m2 := m1.below hb2; have k2 := k1.trans (KO.below hb2); have c1 := (blk_cell m2.b1 0).trans rfl; have f1 := blk_frozen m2.b1 0; have c2 := (blk_cell m2.b2 0).trans rfl; have f2 := blk_frozen m2.b2 0))
              refine reg13 l _ g1 g2 _ _ _ hne.2.2.2.2.1 w2 _ c1 f1 c2 f2 ?_
              gi_wp2
              go_roundw
              case rel => exact ⟨2, by omega, by simp, m2.put ⟨hne.2.2.2.2.2.1, hne.2.2.2.2.2.2.1⟩ ⟨hne.2.2.2.2.2.2.2.1, hne.2.2.2.2.2.2.2.2.1⟩ ⟨hne.2.2.2.2.2.2.2.2.2.1, hne.2.2.2.2.2.2.2.2.2.2.1⟩ hne.2.2.2.2.1 hgb.1 hgb.2.1 _ _ (by simp [mround, mstep, mnum, hin, hsi, mn, mx]), k2.trans (KO.put _ _ _)⟩
              case measure => simp [intOf]
--ENDLEAF
            ·
--LEAF y1f
              as_aux_lemma =>
              gi_wp2_with (first
                | (refine ⟨trivial, ?_⟩; gi_at_call 22; refine (CallsIn.inRound l (has_yes _ a1_3 a1_4 1 _ hin)).mono ?_; rintro e w1 ⟨rfl, hb1⟩; have m1 := hms.below hb1; have k1 := hko.trans (KO.below hb1); have cL0 := (blk_cell m1.bl 0).trans rfl; have cL1 := (blk_cell m1.bl 1).trans rfl; have cL2 := (blk_cell m1.bl 2).trans rfl; have cL3 := (blk_cell m1.bl 3).trans rfl; have cL4 := (blk_cell m1.bl 4).trans rfl; have cL5 := (blk_cell m1.bl 5).trans rfl; have cL6 := (blk_cell m1.bl 6).trans rfl; have cL7 := (blk_cell m1.bl 7).trans rfl; have cL8 := (blk_cell m1.bl 8).trans rfl; have cL9 := (blk_cell m1.bl 9).trans rfl; have cL10 := (blk_cell m1.bl 10).trans rfl; have cL11 := (blk_cell m1.bl 11).trans rfl; have cL12 := (blk_cell m1.bl 12).trans rfl; have cL13 := (blk_cell m1.bl 13).trans rfl; have cL14 := (blk_cell m1.bl 14).trans rfl; have cL15 := (blk_cell m1.bl 15).trans rfl; have cL16 := (blk_cell m1.bl 16).trans rfl; have cL17 := (blk_cell m1.bl 17).trans rfl)
                | (refine ⟨trivial, ?_⟩; gi_at_call 14; refine (CallsIn.inRound l (siph_is _ a0_0 a0_2 a0_3 A0_4 c0_4 l0_4 A0_5 c0_5 l0_5 A0_6 c0_6 l0_6 a0_7 a0_8 a0_9 a0_10 a0_11 a0_12 a0_13 a0_14 a0_15 a0_16 a0_17 true x _ hsi w1 (Kd.C_below hr0_4 m1.hb) hc0_4 (Kd.C_below hr0_5 m1.hb) hc0_5 (Kd.C_below hr0_6 m1.hb) hc0_6)).mono ?_; rintro e w2 ⟨rfl, hb2⟩; have m2 := m1.below hb2; have k2 := k1.trans (KO.below hb2); have c1 := (blk_cell m2.b1 0).trans rfl; have f1 := blk_frozen m2.b1 0; have c2 := (blk_cell m2.b2 0).trans rfl; have f2 := blk_frozen m2.b2 0))
              refine reg13 l _ g1 g2 _ _ _ hne.2.2.2.2.1 w2 _ c1 f1 c2 f2 ?_
              gi_wp2
              go_roundw
              case rel => exact ⟨2, by omega, by simp, m2.put ⟨hne.2.2.2.2.2.1, hne.2.2.2.2.2.2.1⟩ ⟨hne.2.2.2.2.2.2.2.1, hne.2.2.2.2.2.2.2.2.1⟩ ⟨hne.2.2.2.2.2.2.2.2.2.1, hne.2.2.2.2.2.2.2.2.2.2.1⟩ hne.2.2.2.2.1 hgb.1 hgb.2.1 _ _ (by simp [mround, mstep, mnum, hin, hsi, mn, mx]), k2.trans (KO.put _ _ _)⟩
              case measure => simp [intOf]
--ENDLEAF
          ·
--LEAF n1
            as_aux_lemma =>
            gi_wp2_with (refine ⟨trivial, ?_⟩; gi_at_call 22; refine (CallsIn.inRound l (has_no _ a1_3 a1_4 1 _ hin)).mono ?_; rintro e w1 ⟨rfl, hb1⟩; have m1 := hms.below hb1; have k1 := hko.trans (KO.below hb1))
            go_roundw
            case rel => exact ⟨2, by omega, by simp, by simpa [mround, mstep, hin] using m1, k1⟩
            case measure => simp [intOf]
--ENDLEAF
        ·
--LEAF e2
          as_aux_lemma =>
          gi_wp2
          exact ⟨hko.1, hko.2, by dsimp only; rw [mfold_snoc]; simpa using hms⟩
--ENDLEAF
    case done =>
--LEAF done
      rintro D xs W hD rfl hm hK
      generalize mfold a0_13 a0_14 a1_3 a1_4 (turnsL a2_0 a2_1 [a2_0, s, a0_13, a0_14, t, a2_1]) = m at h hm
      obtain ⟨ml, mh⟩ := m
      dsimp only at h
      have c1 := (blk_cell hm.b1 0).trans (show _ = some (.int .i64 ml) from rfl)
      have c2 := (blk_cell hm.b2 0).trans (show _ = some (.int .i64 mh) from rfl)
      have ck0 := (blk_cell hm.bk 0).trans (show _ = some (.int .i64 a1_0) from rfl)
      have ck1 := (blk_cell hm.bk 1).trans (show _ = some (.int .i64 a1_1) from rfl)
      have ck2 := (blk_cell hm.bk 2).trans (show _ = some (.int .i64 a1_2) from rfl)
      have ck3 := (blk_cell hm.bk 3).trans (show _ = some (.int .i64 a1_3) from rfl)
      have ck4 := (blk_cell hm.bk 4).trans (show _ = some (.int .i64 a1_4) from rfl)
      have cr0 := (blk_cell hm.br 0).trans (show _ = some (.int .i64 0) from rfl)
      have fk0 := blk_frozen hm.bk 0
      have fr0 := blk_frozen hm.br 0
      have cr1 := (blk_cell hm.br 1).trans (show _ = some (.int .i64 0) from rfl)
      have fk1 := blk_frozen hm.bk 1
      have fr1 := blk_frozen hm.br 1
      have cr2 := (blk_cell hm.br 2).trans (show _ = some (.int .i64 0) from rfl)
      have fk2 := blk_frozen hm.bk 2
      have fr2 := blk_frozen hm.br 2
      have cr3 := (blk_cell hm.br 3).trans (show _ = some (.int .i64 0) from rfl)
      have fk3 := blk_frozen hm.bk 3
      have fr3 := blk_frozen hm.br 3
      have cr4 := (blk_cell hm.br 4).trans (show _ = some (.int .i64 0) from rfl)
      have fk4 := blk_frozen hm.bk 4
      have fr4 := blk_frozen hm.br 4
      have hkr : ¬ (gK = gR) := hne.2.2.2.2.2.2.2.2.2.2.2
      have hrk : ¬ (gR = gK) := fun e => hkr e.symm
      by_cases hle : ml ≤ mh
      · rw [if_pos hle] at h
        simp only [Option.some.injEq, Prod.mk.injEq] at h
        obtain ⟨rfl, rfl, rfl, rfl, rfl⟩ := h
        as_aux_lemma =>
        gi_wp2
        have bR := blk_put (blk_put (blk_put (blk_put (blk_put (blk_far (p := ⟨gK, 4, none⟩) (blk_far (p := ⟨gK, 3, none⟩) hm.br hrk (.int .i64 ml)) hrk (.int .i64 mh)) 0 (.int .i64 a1_0) rfl) 1 (.int .i64 a1_1) rfl) 2 (.int .i64 a1_2) rfl) 3 (.int .i64 ml) rfl) 4 (.int .i64 mh) rfl
        have hB := below_set (j := 4) (v := .int .i64 mh) (below_set (j := 3) (v := .int .i64 ml) (below_set (j := 2) (v := .int .i64 a1_2) (below_set (j := 1) (v := .int .i64 a1_1) (below_set (j := 0) (v := .int .i64 a1_0) (below_set (j := 4) (v := .int .i64 mh) (below_set (j := 3) (v := .int .i64 ml) hm.hb hgb.2.2.2) hgb.2.2.2) hgb.2.2.1) hgb.2.2.1) hgb.2.2.1) hgb.2.2.1) hgb.2.2.1
        have hK' := ((((((((KeepsOthers.setCell W ⟨gK, 3, none⟩ (.int .i64 ml)).trans (KeepsOthers.setCell _ ⟨gK, 4, none⟩ (.int .i64 mh))).trans (KeepsOthers.setCell _ ⟨gR, 0, none⟩ (.int .i64 a1_0))).trans (KeepsOthers.setCell _ ⟨gR, 1, none⟩ (.int .i64 a1_1))).trans (KeepsOthers.setCell _ ⟨gR, 2, none⟩ (.int .i64 a1_2))).trans (KeepsOthers.setCell _ ⟨gR, 3, none⟩ (.int .i64 ml))).trans (KeepsOthers.setCell _ ⟨gR, 4, none⟩ (.int .i64 mh))).same D _ hK rfl)
        have hRD : gR ≠ D := by intro e; subst e; rw [hm.br] at hK; cases hK
        refine ⟨by simp, .inl ⟨_, _, rfl, run_takeDeferred hK', ?_⟩⟩
        exact ⟨_, res16 _ gR _ _ _ _ _ _ rfl ((World.putObj_heap_other hRD).trans bR), rfl, (by have q_ := hB.trans (belowK_b (w := w) (Nat.le_refl _) _ D _ (.deferred none) (by omega) hK' rfl rfl); first | exact q_ | (rw [← hgL]; exact q_))⟩
      · rw [if_neg hle] at h
        simp only [Option.some.injEq, Prod.mk.injEq] at h
        obtain ⟨rfl, rfl, rfl, rfl, rfl⟩ := h
        as_aux_lemma =>
        gi_wp2
        have bR := blk_put (blk_put (blk_put (blk_put (blk_put hm.br 0 (.int .i64 a1_0) rfl) 1 (.int .i64 a1_1) rfl) 2 (.int .i64 a1_2) rfl) 3 (.int .i64 a1_3) rfl) 4 (.int .i64 a1_4) rfl
        have hB := below_set (j := 4) (v := .int .i64 a1_4) (below_set (j := 3) (v := .int .i64 a1_3) (below_set (j := 2) (v := .int .i64 a1_2) (below_set (j := 1) (v := .int .i64 a1_1) (below_set (j := 0) (v := .int .i64 a1_0) hm.hb hgb.2.2.1) hgb.2.2.1) hgb.2.2.1) hgb.2.2.1) hgb.2.2.1
        have hK' := ((((((KeepsOthers.setCell W ⟨gR, 0, none⟩ (.int .i64 a1_0)).trans (KeepsOthers.setCell _ ⟨gR, 1, none⟩ (.int .i64 a1_1))).trans (KeepsOthers.setCell _ ⟨gR, 2, none⟩ (.int .i64 a1_2))).trans (KeepsOthers.setCell _ ⟨gR, 3, none⟩ (.int .i64 a1_3))).trans (KeepsOthers.setCell _ ⟨gR, 4, none⟩ (.int .i64 a1_4))).same D _ hK rfl)
        have hRD : gR ≠ D := by intro e; subst e; rw [hm.br] at hK; cases hK
        refine ⟨by simp, .inl ⟨_, _, rfl, run_takeDeferred hK', ?_⟩⟩
        exact ⟨_, res16 _ gR _ _ _ _ _ _ rfl ((World.putObj_heap_other hRD).trans bR), rfl, (by have q_ := hB.trans (belowK_b (w := w) (Nat.le_refl _) _ D _ (.deferred none) (by omega) hK' rfl rfl); first | exact q_ | (rw [← hgL]; exact q_))⟩
--ENDLEAF
    case stop =>
      rintro D c pre W _ _ h _
      exact h.elim
  · rw [if_neg hk] at h
    have hk2 : decide (a0_1 = 3) = false := decide_eq_false hk
--LEAF neg
    simp only [Option.some.injEq, Prod.mk.injEq] at h
    obtain ⟨rfl, rfl, rfl, rfl, rfl⟩ := h
    as_aux_lemma =>
    gi_wp2
    exact ⟨_, res16 _ (w.heap.size + 1 + 1 + 1) _ _ _ _ _ _ rfl (blk_at (by simp only [World.size_alloc])), rfl, (by repeat (first | exact Below.refl _ _ | apply below_alloc))⟩
--ENDLEAF
end Go.Proofs.Ytacpiaiohcblfaa.Fn
