/- The litres of the places (closures over a place and the cells): by hand. -/
import Derived.RangeFuncNested
import Derived.Shelf.Abstract
import Derived.Shelf.RegionOpen
import Derived.WalkKit
import Derived.OwnWalkIn
import Derived.TacticsInMore
import Derived.LoopNIn
import Derived.LoopIn
import Derived.Test.YtpklgbnihgljmaaFn6
namespace Go.Proofs.Ytpklgbnihgljmaa.Fn
open Go.RowKit Go.Shelf Go.Proofs.YtpklgbnihgljmaaW.PrintWords Go.Proofs.YtpklgbnihgljmaaW.PrintLast Go.Proofs.YtpklgbnihgljmaaW.PrintMore
attribute [local go_sem] Oper.semAt_some
attribute [local go_sem] max2_int min2_int max_two min_two max_three min_three max_four min_four
set_option maxRecDepth 100000
set_option linter.unusedVariables false
set_option linter.unusedSimpArgs false

def selE (hi : Bool) (s : S40) : Int := if hi = true then s.f1 else s.f0
def mstep (k : Nat) (hi : Bool) (lc : List S40) (n : Int) (c : S63) : Option Int :=
  if 0 ≤ c.f0 ∧ c.f0 < (lc.length : Int) then (rain_litres.f k (selE hi (rd_T40 lc c.f0)) c.f1).bind fun q => exact_Add.f n q else some n
def msum (k : Nat) (hi : Bool) (lr : List S63) (lc : List S40) : Nat → Int → Int → Option Int
  | 0, _, _ => none
  | f + 1, i, n => if i < (lr.length : Int) then (if 0 ≤ i then (mstep k hi lc n (rd_T63 lr i)).bind fun m => msum k hi lr lc f (wrap64 (i + 1)) m else none) else some n
theorem msum_nn {k : Nat} {hi : Bool} {lr : List S63} {lc : List S40} {f : Nat} {i n r : Int} (h : msum k hi lr lc f i n = some r) : 0 ≤ i := by
  cases f with
  | zero => simp [msum] at h
  | succ f =>
    simp only [msum] at h
    by_cases g : i < (lr.length : Int)
    · rw [if_pos g] at h
      by_cases g2 : 0 ≤ i
      · exact g2
      · rw [if_neg g2] at h; cases h
    · omega
theorem end_lo (n : Nat) (a b : Int) (w : World) : CallsIn Fence.wide n Try.prog 32 #[.agg #[.int .i64 a, .int .i64 b]] w fun e w' => e = .returned (.int .i64 a) ∧ Below w.heap.size w w' := by
  refine callsIn_of_wp Try.func32 rfl trivial ?_ rfl
  simp only [Try.ntmps32, List.size_toArray, List.length_cons, List.length_nil, Nat.reduceAdd, Nat.reduceSub, Array.replicate_succ, Array.replicate_zero, List.push_toArray, List.append_toArray, List.nil_append, List.cons_append]
  have hu40 := Try.underlying40
  gi_wp2
  go_ret
  exact ⟨rfl, below_alloc (Below.refl _ _) _⟩
theorem end_hi (n : Nat) (a b : Int) (w : World) : CallsIn Fence.wide n Try.prog 33 #[.agg #[.int .i64 a, .int .i64 b]] w fun e w' => e = .returned (.int .i64 b) ∧ Below w.heap.size w w' := by
  refine callsIn_of_wp Try.func33 rfl trivial ?_ rfl
  simp only [Try.ntmps33, List.size_toArray, List.length_cons, List.length_nil, Nat.reduceAdd, Nat.reduceSub, Array.replicate_succ, Array.replicate_zero, List.push_toArray, List.append_toArray, List.nil_append, List.cons_append]
  have hu40 := Try.underlying40
  gi_wp2
  go_ret
  exact ⟨rfl, below_alloc (Below.refl _ _) _⟩
theorem lit_in (n k : Nat) (a b r : Int) (h : rain_litres.f k a b = some r) (w : World) : CallsIn Fence.wide n Try.prog 31 #[.int .i64 a, .int .i64 b] w fun e w' => e = .returned (.int .i64 r) ∧ Below w.heap.size w w' :=
  callsIn_wide.2 ((rain_litres.calls k a b r w h).mono fun e w' q => ⟨q.1, q.2.below⟩)
theorem add_in (n : Nat) (a b r : Int) (h : exact_Add.f a b = some r) (w : World) : CallsIn Fence.wide n Try.prog 20 #[.int .i64 a, .int .i64 b] w fun e w' => e = .returned (.int .i64 r) ∧ Below w.heap.size w w' :=
  callsIn_wide.2 ((exact_Add.calls a b r w h).mono fun e w' q => ⟨q.1, q.2.below⟩)
set_option maxHeartbeats 4000000 in
theorem mesh_lo (k gp gc : Nat) (Ar : Option Addr) (cr : Nat) (lr : List S63) (Ac : Option Addr) (cc : Nat) (lc : List S40) (r : Int) (w : World)
    (hp : w.cell? ⟨gp, 11, none⟩ = some (.slice Ar lr.length cr)) (hc : w.cell? ⟨gc, 0, none⟩ = some (.slice Ac lc.length cc)) (hR : Kd.C k63 w Ar lr.length lr) (hC : Kd.C k40 w Ac lc.length lc)
    (h : msum k false lr lc k 0 0 = some r) :
    CallsIn Fence.wide 3 Try.prog 30 #[.func (.func 32) #[] #[], .pointer (some ⟨gp, 0, none⟩), .pointer (some ⟨gc, 0, none⟩)] w fun e w' => e = .returned (.int .i64 (mn r 1125899906842624)) ∧ Below w.heap.size w w' := by
  refine callsIn_of_wp Try.func30 rfl trivial ?_ rfl
  simp only [Try.ntmps30, List.size_toArray, List.length_cons, List.length_nil, Nat.reduceAdd, Nat.reduceSub, Array.replicate_succ, Array.replicate_zero, List.push_toArray, List.append_toArray, List.nil_append, List.cons_append]
  have hu56 := Try.underlying56
  have hu54 := Try.underlying54
  have hu63 := Try.underlying63
  have hu33 := Try.underlying33
  have hu40 := Try.underlying40
  have hmx : Try.prog.follows .mixedOrders = true := by kernel_rfl
  gi_wp2
  gi_loopw [5, 11] (fun v5 v11 wr => ∃ (i n : Int) (f : Nat), v5 = .int .i64 n ∧ v11 = .int .i64 i ∧ i ≤ 9223372036854775807 ∧ msum k false lr lc f i n = some r ∧ Below w.heap.size w wr)
    (fun _ v11 _ => lr.length - (intOf v11).toNat)
  case atStart => exact ⟨0, 0, k, rfl, rfl, by omega, h, Below.refl _ _⟩
  case round =>
    obtain ⟨i, n, f, rfl, rfl, hi1, hm, hB⟩ := hrel
    have hi0 := msum_nn hm
    cases f with
    | zero => simp [msum] at hm
    | succ f =>
    simp only [msum] at hm
    have hgc := (hB.cell (p := ⟨gc, 0, none⟩) (World.block_lt_of_cell? _ _ hc)).trans hc
    by_cases hlt : i < (lr.length : Int)
    · rw [if_pos hlt, if_pos hi0] at hm
      obtain ⟨m, hms, hmr⟩ := Option.bind_eq_some_iff.mp hm
      have hn0 := msum_nn hmr
      have hwi : wrap64 (i + 1) = i + 1 := by unfold wrap64 at hn0 ⊢; omega
      have hRw := Kd.C_below hR hB
      obtain ⟨ad, e, hx0, hx1⟩ := at_T63 hRw i hi0 hlt
      subst e
      unfold mstep at hms
      by_cases h0 : 0 ≤ (rd_T63 lr i).f0
      · by_cases h1 : (rd_T63 lr i).f0 < (lc.length : Int)
        · rw [if_pos ⟨h0, h1⟩] at hms
          obtain ⟨q, hq, hqa⟩ := Option.bind_eq_some_iff.mp hms
          have hBa := below_alloc hB (.cells #[.int .i64 (rd_T63 lr i).f0, .int .i64 (rd_T63 lr i).f1] 63)
          have hgc2 := (hBa.cell (p := ⟨gc, 0, none⟩) (World.block_lt_of_cell? _ _ hc)).trans hc
          obtain ⟨ad2, e2, hy0, hy1⟩ := at_T40 (Kd.C_below hC hBa) (rd_T63 lr i).f0 h0 h1
          subst e2
          gi_wp2
          have g0 : (wr.alloc (.cells #[.int .i64 (rd_T63 lr i).f0, .int .i64 (rd_T63 lr i).f1] 63)).cell? ⟨wr.heap.size, 0, none⟩ = some (.int .i64 (rd_T63 lr i).f0) := (blk_cell (blk_new wr _) 0).trans rfl
          have g1 : (wr.alloc (.cells #[.int .i64 (rd_T63 lr i).f0, .int .i64 (rd_T63 lr i).f1] 63)).cell? ⟨wr.heap.size, 1, none⟩ = some (.int .i64 (rd_T63 lr i).f1) := (blk_cell (blk_new wr _) 1).trans rfl
          generalize (wr.alloc (.cells #[.int .i64 (rd_T63 lr i).f0, .int .i64 (rd_T63 lr i).f1] 63)) = wa at g0 g1 hgc2 hy0 hy1 hBa ⊢
          gi_region_with_o (first
            | (refine ⟨trivial, ?_⟩; gi_at_call 32; refine (end_lo _ _ _ _).mono ?_; rintro e w1 ⟨rfl, hb1⟩; have g11 := (hb1.cell (p := ⟨wr.heap.size, 1, none⟩) (World.block_lt_of_cell? _ _ g1)).trans g1)
            | (refine ⟨trivial, ?_⟩; gi_at_call 31; refine (lit_in _ k _ _ q hq _).mono ?_; rintro e w2 ⟨rfl, hb2⟩)
            | (refine ⟨trivial, ?_⟩; gi_at_call 20; refine (add_in _ n q m hqa _).mono ?_; rintro e w3 ⟨rfl, hb3⟩))
          all_goals (
            have hC1 : Below w.heap.size w w1 := by first | exact below_then (below_drew hBa) (below_drew hBa).size hb1 | exact below_then hBa hBa.size hb1
            have hC2 := below_then hC1 hC1.size hb2
            have hC3 := below_then hC2 hC2.size hb3
            clear hb1 hb2 hb3 hC1 hC2
            gi_wp2
            go_roundw
            case rel => exact ⟨i + 1, m, f, rfl, by first | rfl | rw [hwi] | simp [hwi], by unfold wrap64 at hwi; omega, by rw [← hwi]; exact hmr, hC3⟩
            case measure => simp [intOf]; omega)
        · rw [if_neg (by omega)] at hms
          obtain rfl := Option.some.inj hms
          have hBa := below_alloc hB (.cells #[.int .i64 (rd_T63 lr i).f0, .int .i64 (rd_T63 lr i).f1] 63)
          have hgc2 := (hBa.cell (p := ⟨gc, 0, none⟩) (World.block_lt_of_cell? _ _ hc)).trans hc
          gi_wp2
          go_roundw
          case rel => exact ⟨i + 1, n, f, rfl, by first | rfl | rw [hwi] | simp [hwi], by unfold wrap64 at hwi; omega, by rw [← hwi]; exact hmr, hBa⟩
          case measure => simp [intOf]; omega
      · rw [if_neg (by omega)] at hms
        obtain rfl := Option.some.inj hms
        have hBa := below_alloc hB (.cells #[.int .i64 (rd_T63 lr i).f0, .int .i64 (rd_T63 lr i).f1] 63)
        gi_wp2
        go_roundw
        case rel => exact ⟨i + 1, n, f, rfl, by first | rfl | rw [hwi] | simp [hwi], by unfold wrap64 at hwi; omega, by rw [← hwi]; exact hmr, hBa⟩
        case measure => simp [intOf]; omega
    · rw [if_neg hlt] at hm
      obtain rfl := Option.some.inj hm
      gi_wp2
      all_goals go_ret
      all_goals exact ⟨by unfold mn; split <;> first | rfl | omega, hB⟩
set_option maxHeartbeats 4000000 in
theorem mesh_hi (k gp gc : Nat) (Ar : Option Addr) (cr : Nat) (lr : List S63) (Ac : Option Addr) (cc : Nat) (lc : List S40) (r : Int) (w : World)
    (hp : w.cell? ⟨gp, 11, none⟩ = some (.slice Ar lr.length cr)) (hc : w.cell? ⟨gc, 0, none⟩ = some (.slice Ac lc.length cc)) (hR : Kd.C k63 w Ar lr.length lr) (hC : Kd.C k40 w Ac lc.length lc)
    (h : msum k true lr lc k 0 0 = some r) :
    CallsIn Fence.wide 3 Try.prog 30 #[.func (.func 33) #[] #[], .pointer (some ⟨gp, 0, none⟩), .pointer (some ⟨gc, 0, none⟩)] w fun e w' => e = .returned (.int .i64 (mn r 1125899906842624)) ∧ Below w.heap.size w w' := by
  refine callsIn_of_wp Try.func30 rfl trivial ?_ rfl
  simp only [Try.ntmps30, List.size_toArray, List.length_cons, List.length_nil, Nat.reduceAdd, Nat.reduceSub, Array.replicate_succ, Array.replicate_zero, List.push_toArray, List.append_toArray, List.nil_append, List.cons_append]
  have hu56 := Try.underlying56
  have hu54 := Try.underlying54
  have hu63 := Try.underlying63
  have hu33 := Try.underlying33
  have hu40 := Try.underlying40
  have hmx : Try.prog.follows .mixedOrders = true := by kernel_rfl
  gi_wp2
  gi_loopw [5, 11] (fun v5 v11 wr => ∃ (i n : Int) (f : Nat), v5 = .int .i64 n ∧ v11 = .int .i64 i ∧ i ≤ 9223372036854775807 ∧ msum k true lr lc f i n = some r ∧ Below w.heap.size w wr)
    (fun _ v11 _ => lr.length - (intOf v11).toNat)
  case atStart => exact ⟨0, 0, k, rfl, rfl, by omega, h, Below.refl _ _⟩
  case round =>
    obtain ⟨i, n, f, rfl, rfl, hi1, hm, hB⟩ := hrel
    have hi0 := msum_nn hm
    cases f with
    | zero => simp [msum] at hm
    | succ f =>
    simp only [msum] at hm
    have hgc := (hB.cell (p := ⟨gc, 0, none⟩) (World.block_lt_of_cell? _ _ hc)).trans hc
    by_cases hlt : i < (lr.length : Int)
    · rw [if_pos hlt, if_pos hi0] at hm
      obtain ⟨m, hms, hmr⟩ := Option.bind_eq_some_iff.mp hm
      have hn0 := msum_nn hmr
      have hwi : wrap64 (i + 1) = i + 1 := by unfold wrap64 at hn0 ⊢; omega
      have hRw := Kd.C_below hR hB
      obtain ⟨ad, e, hx0, hx1⟩ := at_T63 hRw i hi0 hlt
      subst e
      unfold mstep at hms
      by_cases h0 : 0 ≤ (rd_T63 lr i).f0
      · by_cases h1 : (rd_T63 lr i).f0 < (lc.length : Int)
        · rw [if_pos ⟨h0, h1⟩] at hms
          obtain ⟨q, hq, hqa⟩ := Option.bind_eq_some_iff.mp hms
          have hBa := below_alloc hB (.cells #[.int .i64 (rd_T63 lr i).f0, .int .i64 (rd_T63 lr i).f1] 63)
          have hgc2 := (hBa.cell (p := ⟨gc, 0, none⟩) (World.block_lt_of_cell? _ _ hc)).trans hc
          obtain ⟨ad2, e2, hy0, hy1⟩ := at_T40 (Kd.C_below hC hBa) (rd_T63 lr i).f0 h0 h1
          subst e2
          gi_wp2
          have g0 : (wr.alloc (.cells #[.int .i64 (rd_T63 lr i).f0, .int .i64 (rd_T63 lr i).f1] 63)).cell? ⟨wr.heap.size, 0, none⟩ = some (.int .i64 (rd_T63 lr i).f0) := (blk_cell (blk_new wr _) 0).trans rfl
          have g1 : (wr.alloc (.cells #[.int .i64 (rd_T63 lr i).f0, .int .i64 (rd_T63 lr i).f1] 63)).cell? ⟨wr.heap.size, 1, none⟩ = some (.int .i64 (rd_T63 lr i).f1) := (blk_cell (blk_new wr _) 1).trans rfl
          generalize (wr.alloc (.cells #[.int .i64 (rd_T63 lr i).f0, .int .i64 (rd_T63 lr i).f1] 63)) = wa at g0 g1 hgc2 hy0 hy1 hBa ⊢
          gi_region_with_o (first
            | (refine ⟨trivial, ?_⟩; gi_at_call 33; refine (end_hi _ _ _ _).mono ?_; rintro e w1 ⟨rfl, hb1⟩; have g11 := (hb1.cell (p := ⟨wr.heap.size, 1, none⟩) (World.block_lt_of_cell? _ _ g1)).trans g1)
            | (refine ⟨trivial, ?_⟩; gi_at_call 31; refine (lit_in _ k _ _ q hq _).mono ?_; rintro e w2 ⟨rfl, hb2⟩)
            | (refine ⟨trivial, ?_⟩; gi_at_call 20; refine (add_in _ n q m hqa _).mono ?_; rintro e w3 ⟨rfl, hb3⟩))
          all_goals (
            have hC1 : Below w.heap.size w w1 := by first | exact below_then (below_drew hBa) (below_drew hBa).size hb1 | exact below_then hBa hBa.size hb1
            have hC2 := below_then hC1 hC1.size hb2
            have hC3 := below_then hC2 hC2.size hb3
            clear hb1 hb2 hb3 hC1 hC2
            gi_wp2
            go_roundw
            case rel => exact ⟨i + 1, m, f, rfl, by first | rfl | rw [hwi] | simp [hwi], by unfold wrap64 at hwi; omega, by rw [← hwi]; exact hmr, hC3⟩
            case measure => simp [intOf]; omega)
        · rw [if_neg (by omega)] at hms
          obtain rfl := Option.some.inj hms
          have hBa := below_alloc hB (.cells #[.int .i64 (rd_T63 lr i).f0, .int .i64 (rd_T63 lr i).f1] 63)
          have hgc2 := (hBa.cell (p := ⟨gc, 0, none⟩) (World.block_lt_of_cell? _ _ hc)).trans hc
          gi_wp2
          go_roundw
          case rel => exact ⟨i + 1, n, f, rfl, by first | rfl | rw [hwi] | simp [hwi], by unfold wrap64 at hwi; omega, by rw [← hwi]; exact hmr, hBa⟩
          case measure => simp [intOf]; omega
      · rw [if_neg (by omega)] at hms
        obtain rfl := Option.some.inj hms
        have hBa := below_alloc hB (.cells #[.int .i64 (rd_T63 lr i).f0, .int .i64 (rd_T63 lr i).f1] 63)
        gi_wp2
        go_roundw
        case rel => exact ⟨i + 1, n, f, rfl, by first | rfl | rw [hwi] | simp [hwi], by unfold wrap64 at hwi; omega, by rw [← hwi]; exact hmr, hBa⟩
        case measure => simp [intOf]; omega
    · rw [if_neg hlt] at hm
      obtain rfl := Option.some.inj hm
      gi_wp2
      all_goals go_ret
      all_goals exact ⟨by unfold mn; split <;> first | rfl | omega, hB⟩
/-! ### rain.Mesh -/
def mesh_l (q : Nat) (ps : List S56) (lc : List S40) : Nat → List S40 → Int → Option (List S40)
  | 0, _, _ => none
  | f + 1, out, i => if i < (ps.length : Int) then (if 0 ≤ i then ((msum q false (rd_T56 ps i).f11 lc q 0 0).bind fun a => ((msum q true (rd_T56 ps i).f11 lc q 0 0).bind fun b => (if out.length < 8796093022208 then (mesh_l q ps lc f (out ++ [(⟨mn a 1125899906842624, mn b 1125899906842624⟩ : S40)]) (wrap64 (i + 1))) else none))) else none) else some out
def rain_Mesh.f (k : Nat) (a0_0 : ByteArray) (l0_1 : List ByteArray) (a0_2 : Int) (l0_3 : List (S56)) (l0_4 : List (S104)) (l0_5 : List (S106)) (l0_6 : List (S67)) (l0_7 : List (S108)) (l0_8 : List (S110)) (l0_9 : List Int) (a0_10 : Int) (l1 : List S40) : Option (List S40) := mesh_l k l0_3 l1 k ([] : List S40) 0
theorem mstep_mono (k : Nat) (hi : Bool) (lc : List S40) (n : Int) (c : S63) : LeO (mstep k hi lc n c) (mstep (k + 1) hi lc n c) := by
  unfold mstep
  split
  · exact LeO.bind (rain_litres.mono _ _ _) (fun _ => LeO.refl _)
  · exact LeO.refl _
theorem msum_mono (k : Nat) (hi : Bool) (lr : List S63) (lc : List S40) : ∀ f i n, LeO (msum k hi lr lc f i n) (msum (k + 1) hi lr lc (f + 1) i n)
  | 0, i, n => fun r h => by simp [msum] at h
  | f + 1, i, n => by
    have ih := msum_mono k hi lr lc f
    unfold msum
    split
    · split
      · exact LeO.bind (mstep_mono _ _ _ _ _) (fun m => ih _ m)
      · exact LeO.none _
    · exact LeO.refl _
theorem mesh_l_mono (q : Nat) (ps : List S56) (lc : List S40) : ∀ f out i, LeO (mesh_l q ps lc f out i) (mesh_l (q + 1) ps lc (f + 1) out i)
  | 0, out, i => fun r h => by simp [mesh_l] at h
  | f + 1, out, i => by
    have ih := mesh_l_mono q ps lc f
    unfold mesh_l
    split
    · split
      · refine LeO.bind (msum_mono _ _ _ _ _ _ _) (fun a => LeO.bind (msum_mono _ _ _ _ _ _ _) (fun b => ?_))
        split
        · exact ih _ _
        · exact LeO.none _
      · exact LeO.none _
    · exact LeO.refl _
theorem rain_Mesh.mono : ∀ (a0_0 : ByteArray) (l0_1 : List ByteArray) (a0_2 : Int) (l0_3 : List (S56)) (l0_4 : List (S104)) (l0_5 : List (S106)) (l0_6 : List (S67)) (l0_7 : List (S108)) (l0_8 : List (S110)) (l0_9 : List Int) (a0_10 : Int) (l1 : List S40) (k : Nat), LeO (rain_Mesh.f k a0_0 l0_1 a0_2 l0_3 l0_4 l0_5 l0_6 l0_7 l0_8 l0_9 a0_10 l1) (rain_Mesh.f (k + 1) a0_0 l0_1 a0_2 l0_3 l0_4 l0_5 l0_6 l0_7 l0_8 l0_9 a0_10 l1) := by
  intros
  exact mesh_l_mono _ _ _ _ _ _
set_option maxHeartbeats 8000000 in
theorem rain_Mesh.calls (k : Nat) (a0_0 : ByteArray) (A0_1 : Option Addr) (c0_1 : Nat) (l0_1 : List ByteArray) (a0_2 : Int) (A0_3 : Option Addr) (c0_3 : Nat) (l0_3 : List (S56)) (A0_4 : Option Addr) (c0_4 : Nat) (l0_4 : List (S104)) (A0_5 : Option Addr) (c0_5 : Nat) (l0_5 : List (S106)) (A0_6 : Option Addr) (c0_6 : Nat) (l0_6 : List (S67)) (A0_7 : Option Addr) (c0_7 : Nat) (l0_7 : List (S108)) (A0_8 : Option Addr) (c0_8 : Nat) (l0_8 : List (S110)) (A0_9 : Option Addr) (c0_9 : Nat) (l0_9 : List Int) (a0_10 : Int) (A1 : Option Addr) (c1 : Nat) (l1 : List S40) (r : List S40) (w : World) (hr0_1 : Kd.C Kd.string w A0_1 l0_1.length l0_1) (hc0_1 : l0_1.length ≤ c0_1) (hr0_3 : Kd.C k56 w A0_3 l0_3.length l0_3) (hc0_3 : l0_3.length ≤ c0_3) (hr0_4 : Kd.C k104 w A0_4 l0_4.length l0_4) (hc0_4 : l0_4.length ≤ c0_4) (hr0_5 : Kd.C k106 w A0_5 l0_5.length l0_5) (hc0_5 : l0_5.length ≤ c0_5) (hr0_6 : Kd.C k67 w A0_6 l0_6.length l0_6) (hc0_6 : l0_6.length ≤ c0_6) (hr0_7 : Kd.C k108 w A0_7 l0_7.length l0_7) (hc0_7 : l0_7.length ≤ c0_7) (hr0_8 : Kd.C k110 w A0_8 l0_8.length l0_8) (hc0_8 : l0_8.length ≤ c0_8) (hr0_9 : Kd.C (Kd.int .i64) w A0_9 l0_9.length l0_9) (hc0_9 : l0_9.length ≤ c0_9) (hr1 : Kd.C k40 w A1 l1.length l1) (hc1 : l1.length ≤ c1) (h : rain_Mesh.f k a0_0 l0_1 a0_2 l0_3 l0_4 l0_5 l0_6 l0_7 l0_8 l0_9 a0_10 l1 = some r) :
    Calls Try.prog 13 #[.agg #[.string a0_0, .slice A0_1 l0_1.length c0_1, .int .i64 a0_2, .slice A0_3 l0_3.length c0_3, .slice A0_4 l0_4.length c0_4, .slice A0_5 l0_5.length c0_5, .slice A0_6 l0_6.length c0_6, .slice A0_7 l0_7.length c0_7, .slice A0_8 l0_8.length c0_8, .slice A0_9 l0_9.length c0_9, .int .i64 a0_10], .slice A1 l1.length c1] w fun e w' => ∃ v0_ : Value, e = .returned (v0_) ∧ Kd.R k40 40 w' w.heap.size (fun _ => True) v0_ r ∧ Below w.heap.size w w' := by
  have hu31 := Try.underlying31
  have hu56 := Try.underlying56
  have hu40 := Try.underlying40
  have hu33 := Try.underlying33
  have hu23 := Try.underlying23
  have H : mesh_l k l0_3 l1 k ([] : List S40) 0 = some r := h
  clear h
  refine (callsIn_wide (n := 3)).1 ?_
  refine callsIn_of_wp Try.func13 rfl trivial ?_ rfl
  simp only [Try.ntmps13, List.size_toArray, List.length_cons, List.length_nil, Nat.reduceAdd, Nat.reduceSub, Array.replicate_succ, Array.replicate_zero, List.push_toArray, List.append_toArray, List.nil_append, List.cons_append]
  gi_wp2
  have BB : ((w.alloc (.cells #[.string a0_0, .slice A0_1 l0_1.length c0_1, .int .i64 a0_2, .slice A0_3 l0_3.length c0_3, .slice A0_4 l0_4.length c0_4, .slice A0_5 l0_5.length c0_5, .slice A0_6 l0_6.length c0_6, .slice A0_7 l0_7.length c0_7, .slice A0_8 l0_8.length c0_8, .slice A0_9 l0_9.length c0_9, .int .i64 a0_10] 31)).alloc (.cells #[.slice A1 l1.length c1] 33)).heap[w.heap.size]? = some (.cells #[.string a0_0, .slice A0_1 l0_1.length c0_1, .int .i64 a0_2, .slice A0_3 l0_3.length c0_3, .slice A0_4 l0_4.length c0_4, .slice A0_5 l0_5.length c0_5, .slice A0_6 l0_6.length c0_6, .slice A0_7 l0_7.length c0_7, .slice A0_8 l0_8.length c0_8, .slice A0_9 l0_9.length c0_9, .int .i64 a0_10] 31 (0, 0)) := blk_alloc (blk_new w _) _
  have BC : ((w.alloc (.cells #[.string a0_0, .slice A0_1 l0_1.length c0_1, .int .i64 a0_2, .slice A0_3 l0_3.length c0_3, .slice A0_4 l0_4.length c0_4, .slice A0_5 l0_5.length c0_5, .slice A0_6 l0_6.length c0_6, .slice A0_7 l0_7.length c0_7, .slice A0_8 l0_8.length c0_8, .slice A0_9 l0_9.length c0_9, .int .i64 a0_10] 31)).alloc (.cells #[.slice A1 l1.length c1] 33)).heap[w.heap.size + 1]? = some (.cells #[.slice A1 l1.length c1] 33 (0, 0)) := by have q := blk_new (w.alloc (.cells #[.string a0_0, .slice A0_1 l0_1.length c0_1, .int .i64 a0_2, .slice A0_3 l0_3.length c0_3, .slice A0_4 l0_4.length c0_4, .slice A0_5 l0_5.length c0_5, .slice A0_6 l0_6.length c0_6, .slice A0_7 l0_7.length c0_7, .slice A0_8 l0_8.length c0_8, .slice A0_9 l0_9.length c0_9, .int .i64 a0_10] 31)) (.cells #[.slice A1 l1.length c1] 33); rwa [World.size_alloc] at q
  have HB := below_alloc (below_alloc (Below.refl w.heap.size w) (.cells #[.string a0_0, .slice A0_1 l0_1.length c0_1, .int .i64 a0_2, .slice A0_3 l0_3.length c0_3, .slice A0_4 l0_4.length c0_4, .slice A0_5 l0_5.length c0_5, .slice A0_6 l0_6.length c0_6, .slice A0_7 l0_7.length c0_7, .slice A0_8 l0_8.length c0_8, .slice A0_9 l0_9.length c0_9, .int .i64 a0_10] 31)) (.cells #[.slice A1 l1.length c1] 33)
  refine wpIn_wide.2 ?_
  have H0 := Aside0.mk H
  have BC0 := Aside0.mk BC
  have HB0 := Aside0.mk HB
  clear H BB BC HB
  go_loopg [5, 12] k (fun kq v5 v12 w' => ∃ (x5 : List S40) (x12 : Int), v12 = .int .i64 x12 ∧ Aside0 (mesh_l k l0_3 l1 kq x5 x12 = some r) ∧ Aside0 (Kd.R k40 40 w' w.heap.size (fun _ => True) v5 x5) ∧ Aside0 (w'.heap[w.heap.size + 1]? = some (.cells #[.slice A1 l1.length c1] 33 (0, 0))) ∧ Aside0 (Below w.heap.size w w'))
  case atStart => exact ⟨[], 0, rfl, H0, ⟨Kd.R_nil _ _ _ _ _⟩, BC0, HB0⟩
  case round =>
    obtain ⟨x5, x12, rfl, HA, HO, BC, HB⟩ := hrel
    cases gk with
    | zero => exact absurd HA.out (by simp [mesh_l])
    | succ k1 =>
      have H := HA.out
      clear HA
      simp only [mesh_l] at H
      by_cases c8 : x12 < (l0_3.length : Int)
      · rw [if_pos c8] at H
        by_cases c10 : 0 ≤ x12
        · rw [if_pos c10] at H
          obtain ⟨a, Ha, H⟩ := Option.bind_eq_some_iff.mp H
          obtain ⟨b, Hb, H⟩ := Option.bind_eq_some_iff.mp H
          by_cases c12 : x5.length < 8796093022208
          · rw [if_pos c12] at H
            have H' := Aside0.mk H
            clear H
            obtain ⟨ad, A4, c4, A5, c5, A11, c11, e, h0, h1, h2, h3, h4, h5, h6, h7, h8, h9, h10, h11, hx4, hx5, hx6, hx7, hx8, hx9⟩ := at_T56 (Kd.C_below hr0_3 HB.out) x12 c10 c8
            cases e
            have P0 := blk_new wr (.cells #[.string (rd_T56 l0_3 x12).f0, .int .i64 (rd_T56 l0_3 x12).f1, .int .i64 (rd_T56 l0_3 x12).f2, .int .i64 (rd_T56 l0_3 x12).f3, .slice A4 (rd_T56 l0_3 x12).f4.length c4, .slice A5 (rd_T56 l0_3 x12).f5.length c5, .int .i64 (rd_T56 l0_3 x12).f6, .int .i64 (rd_T56 l0_3 x12).f7, .int .i64 (rd_T56 l0_3 x12).f8, .int .i64 (rd_T56 l0_3 x12).f9, .int .i64 (rd_T56 l0_3 x12).f10, .slice A11 (rd_T56 l0_3 x12).f11.length c11] 56)
            have pp := (blk_cell P0 11).trans (show _ = some (.slice A11 (rd_T56 l0_3 x12).f11.length c11) from rfl)
            have pc := (blk_cell (blk_alloc BC.out (.cells #[.string (rd_T56 l0_3 x12).f0, .int .i64 (rd_T56 l0_3 x12).f1, .int .i64 (rd_T56 l0_3 x12).f2, .int .i64 (rd_T56 l0_3 x12).f3, .slice A4 (rd_T56 l0_3 x12).f4.length c4, .slice A5 (rd_T56 l0_3 x12).f5.length c5, .int .i64 (rd_T56 l0_3 x12).f6, .int .i64 (rd_T56 l0_3 x12).f7, .int .i64 (rd_T56 l0_3 x12).f8, .int .i64 (rd_T56 l0_3 x12).f9, .int .i64 (rd_T56 l0_3 x12).f10, .slice A11 (rd_T56 l0_3 x12).f11.length c11] 56)) 0).trans (show _ = some (.slice A1 l1.length c1) from rfl)
            have bc0 := blk_alloc BC.out (.cells #[.string (rd_T56 l0_3 x12).f0, .int .i64 (rd_T56 l0_3 x12).f1, .int .i64 (rd_T56 l0_3 x12).f2, .int .i64 (rd_T56 l0_3 x12).f3, .slice A4 (rd_T56 l0_3 x12).f4.length c4, .slice A5 (rd_T56 l0_3 x12).f5.length c5, .int .i64 (rd_T56 l0_3 x12).f6, .int .i64 (rd_T56 l0_3 x12).f7, .int .i64 (rd_T56 l0_3 x12).f8, .int .i64 (rd_T56 l0_3 x12).f9, .int .i64 (rd_T56 l0_3 x12).f10, .slice A11 (rd_T56 l0_3 x12).f11.length c11] 56)
            have hBa := below_alloc HB.out (.cells #[.string (rd_T56 l0_3 x12).f0, .int .i64 (rd_T56 l0_3 x12).f1, .int .i64 (rd_T56 l0_3 x12).f2, .int .i64 (rd_T56 l0_3 x12).f3, .slice A4 (rd_T56 l0_3 x12).f4.length c4, .slice A5 (rd_T56 l0_3 x12).f5.length c5, .int .i64 (rd_T56 l0_3 x12).f6, .int .i64 (rd_T56 l0_3 x12).f7, .int .i64 (rd_T56 l0_3 x12).f8, .int .i64 (rd_T56 l0_3 x12).f9, .int .i64 (rd_T56 l0_3 x12).f10, .slice A11 (rd_T56 l0_3 x12).f11.length c11] 56)
            have kR := Kd.C_below hx9 (below_alloc (Below.refl wr.heap.size wr) (.cells #[.string (rd_T56 l0_3 x12).f0, .int .i64 (rd_T56 l0_3 x12).f1, .int .i64 (rd_T56 l0_3 x12).f2, .int .i64 (rd_T56 l0_3 x12).f3, .slice A4 (rd_T56 l0_3 x12).f4.length c4, .slice A5 (rd_T56 l0_3 x12).f5.length c5, .int .i64 (rd_T56 l0_3 x12).f6, .int .i64 (rd_T56 l0_3 x12).f7, .int .i64 (rd_T56 l0_3 x12).f8, .int .i64 (rd_T56 l0_3 x12).f9, .int .i64 (rd_T56 l0_3 x12).f10, .slice A11 (rd_T56 l0_3 x12).f11.length c11] 56))
            have kC := Kd.C_below hr1 hBa
            have hd8 : decide (x12 < (l0_3.length : Int)) = true := decide_eq_true c8
            obtain ⟨yv, hyv⟩ : ∃ y_ : List S40, y_ = (x5 ++ [(⟨mn a 1125899906842624, mn b 1125899906842624⟩ : S40)]) := ⟨_, rfl⟩
            rw [← hyv] at H'
            have Nyv := Aside0.mk hyv
            clear hyv
            go_wp2_with (first
              | (go_at_call 30; (with_reducible refine (callsIn_wide.1 (mesh_lo k wr.heap.size (w.heap.size + 1) A11 c11 (rd_T56 l0_3 x12).f11 A1 c1 l1 a _ pp pc kR kC Ha)).mono ?_); rintro e w1 ⟨rfl, hb1⟩; have pp1 := (hb1.cell (p := ⟨wr.heap.size, 11, none⟩) (World.block_lt_of_cell? _ _ pp)).trans pp; have pc1 := (hb1.cell (p := ⟨w.heap.size + 1, 0, none⟩) (World.block_lt_of_cell? _ _ pc)).trans pc; have kR1 := Kd.C_below kR hb1; have kC1 := Kd.C_below kC hb1; have bc1 := blk_below bc0 hb1; have HB1 := below_then hBa hBa.size hb1; have HO1 := Aside0.mk (Kd.R_below (Kd.R_alloc HO.out _) hb1); clear HO; clear pp pc kR kC Ha)
              | (go_at_call 30; (with_reducible refine (callsIn_wide.1 (mesh_hi k wr.heap.size (w.heap.size + 1) A11 c11 (rd_T56 l0_3 x12).f11 A1 c1 l1 b _ pp1 pc1 kR1 kC1 Hb)).mono ?_); rintro e w2 ⟨rfl, hb2⟩; have bc2 := blk_below bc1 hb2; have HB2 := Aside0.mk (below_then HB1 HB1.size hb2); have HO2 := Aside0.mk (Kd.R_below HO1.out hb2); clear HO1; clear pp1 pc1 kR1 kC1 Hb)
              | ((with_reducible refine gate_builtin (b := .append) (xs := #[.tmp 17, .tmp 23]) rfl ?_); (try (refine gate_guard (by rfl) ?_; dsimp only)); at_builtin; refine Kd.R_append k40 (w0 := w) w.heap.size rfl (.tmp 17) (.tmp 23) 33 40 (.agg #[(.int .i64 0), (.int .i64 0)]) 16 rfl Try.underlying33 info40 rfl (by decide) (by omega) u5 x5 (⟨mn a 1125899906842624, mn b 1125899906842624⟩ : S40) [.int .i64 (mn a 1125899906842624), .int .i64 (mn b 1125899906842624)] (fun _ => True) (fun _ => False) rfl rfl ?aP (fun _ hk => hk.elim) ?aF ?aO ?aB ?aS ?aL ?_; (case aP => exact k40_mkM _ _ _ (⟨mn a 1125899906842624, mn b 1125899906842624⟩ : S40)); (case aB => exact (by repeat (first | exact HB2.out | apply below_alloc | apply pw_below_drewN | apply below_drew1))); (case aF => exact (fun _ _ => trivial)); (case aO => exact (by (with_reducible repeat (first | apply Kd.R_alloc | apply Kd.R_drewN | apply Kd.R_drew)); exact HO2.out)); (case aS => exact (below_size (by repeat (first | exact HB2.out | apply below_alloc | apply pw_below_drewN | apply below_drew1)))); (case aL => omega); intro v9_ w9_ ho hb hg hat; rw [← Nyv.out] at ho; have BC9 := Aside0.mk (blk_grown (g := w.heap.size + 1) (o := .cells #[.slice A1 l1.length c1] 33 (0, 0)) (by (with_reducible repeat (first | refine blk_drewN ?_ _ | refine blk_drew ?_ | refine blk_alloc ?_ _)); exact bc2) hg (Kd.R_ne HO2.out bc2 (by decide))); have HB9 := Aside0.mk hb; have HO9 := Aside0.mk ho; clear ho hb hg hat))
            go_roundg k1
            case measure => omega
            case rel => exact ⟨yv, wrap64 (x12 + 1), (by first | rfl | (simp; done)), H', HO9, BC9, HB9⟩
          · rw [if_neg c12] at H; cases H
        · rw [if_neg c10] at H; cases H
      · rw [if_neg c8] at H
        have hd : decide (x12 < (l0_3.length : Int)) = false := decide_eq_false c8
        obtain rfl := Option.some.inj H
        go_wp2
        gi_wp2
        go_ret
        exact ⟨_, rfl, HO.out, HB.out⟩
end Go.Proofs.Ytpklgbnihgljmaa.Fn
