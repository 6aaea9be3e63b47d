/- sort.Search, as curve.at and curve.Least call it, with a closure over their own boxes: of points in order it answers how many lie below. -/
import Derived.Test.YtmkekbehipaopaaFn0
import Derived.Shelf.SlSorted.Search
import Derived.Shelf.Lay
import Derived.RegionTactic
import Derived.Ground.SlsoProg
namespace Go.Proofs
open Go.Shelf Go.RowKit Go.Lib Go.Sort
shelf_lay SlLaysO.n16 Slso 16 at Try as Try.search
end Go.Proofs
namespace Go.Proofs.Ytmkekbehipaopaa.Fn
open Go.Shelf Go.RowKit Go.Lib Go.Sort Go.Proofs.YtmkekbehipaopaaW.PrintWords Go.Proofs.YtmkekbehipaopaaW.PrintLast Go.Proofs.YtmkekbehipaopaaW.PrintMore
set_option linter.unusedVariables false
set_option linter.unusedSimpArgs false

def asc (l : List Int) : Bool := decide (l.Pairwise (· ≤ ·)) && decide (l.length < 4611686018427387904)
def search_x.f (l : List S37) (x : Int) : Option Int := if asc (l.map S37.f0) = true then some ((l.map S37.f0).countP (fun y => !decide (x ≤ y)) : Nat) else none
def search_y.f (l : List S37) (y : Int) : Option Int := if asc (l.map S37.f1) = true then some ((l.map S37.f1).countP (fun z => !decide (y ≤ z)) : Nat) else none

theorem countP_getD (l : List Int) (f : Int → Bool) : (List.range l.length).countP (fun i => f (l.getD i 0)) = l.countP f := by
  have h : l = (List.range l.length).map (fun i => l.getD i 0) := by
    apply List.ext_getElem
    · simp
    · intro i h1 h2
      simp [List.getD_eq_getElem?_getD, h1]
  conv => rhs; rw [h]
  rw [List.countP_map]
  rfl
theorem asc_le {l : List Int} (h : asc l = true) (a b : Nat) (hab : a ≤ b) (hb : b < l.length) : l.getD a 0 ≤ l.getD b 0 := by
  unfold asc at h
  rw [Bool.and_eq_true, decide_eq_true_iff] at h
  rcases Nat.lt_or_ge a b with h2 | h2
  · have := List.pairwise_iff_getElem.1 h.1 a b (by omega) hb h2
    simpa [List.getD_eq_getElem?_getD, hb, show a < l.length by omega] using this
  · have : a = b := by omega
    subst this; omega
theorem asc_lt {l : List Int} (h : asc l = true) : l.length < 4611686018427387904 := by
  unfold asc at h
  rw [Bool.and_eq_true] at h
  exact of_decide_eq_true h.2
theorem rd_f0 (l : List S37) (i : Nat) : (rd_T37 l (i : Int)).f0 = (l.map S37.f0).getD i 0 := by
  unfold rd_T37
  rw [Int.toNat_natCast]
  simp only [List.getD_eq_getElem?_getD, List.getElem?_map]
  cases l[i]? <;> rfl
theorem rd_f1 (l : List S37) (i : Nat) : (rd_T37 l (i : Int)).f1 = (l.map S37.f1).getD i 0 := by
  unfold rd_T37
  rw [Int.toNat_natCast]
  simp only [List.getD_eq_getElem?_getD, List.getElem?_map]
  cases l[i]? <;> rfl

theorem box_fst (w : World) (u v : Value) (s t : TypeId) : ((w.alloc (.cells #[u] s)).alloc (.cells #[v] t)).cell? ⟨w.heap.size, 0, none⟩ = some u := cell_alloc_sl _ (cell_new_sl w u s)
theorem box_snd (w : World) (u v : Value) (s t : TypeId) : ((w.alloc (.cells #[u] s)).alloc (.cells #[v] t)).cell? ⟨w.heap.size + 1, 0, none⟩ = some v := by
  have := cell_new_sl (w.alloc (.cells #[u] s)) v t
  rwa [World.size_alloc] at this
theorem cell_drew1 {w : World} {a : Addr} {v : Value} (h : w.cell? a = some v) : w.drew.cell? a = some v := h

set_option maxHeartbeats 2000000 in
theorem closure31 (b1 b2 : Nat) (A0 : Option Addr) (c0 : Nat) (l0 : List S37) (x : Int) (i : Nat) (W : World) (hi : i < l0.length)
    (ha : W.cell? ⟨b1, 0, none⟩ = some (.slice A0 l0.length c0)) (hx : W.cell? ⟨b2, 0, none⟩ = some (.int .i64 x)) (hC : Kd.C k37 W A0 l0.length l0) :
    Calls Try.prog 31 (#[.int .i64 i] ++ #[.pointer (some ⟨b1, 0, none⟩), .pointer (some ⟨b2, 0, none⟩)]) W fun e w' => e = .returned (.bool (decide (x ≤ (rd_T37 l0 (i : Int)).f0))) ∧ ∃ q, w' = W.drewN q := by
  have hiz : (i : Int) < (l0.length : Int) := by omega
  obtain ⟨ad, rfl, h0, h1⟩ := at_T37 hC (i : Int) (by omega) hiz
  generalize rd_T37 l0 (i : Int) = y at h0 h1 ⊢
  rw [Int.toNat_natCast] at h0 h1
  have hu37 := Try.underlying37
  clear hC
  go_enter Try.func31, Try.ntmps31
  go_wp2
  go_region
  all_goals go_wp2
  all_goals go_ret
  all_goals exact ⟨by first | rfl | simp, 1, rfl⟩

set_option maxHeartbeats 2000000 in
theorem search_x.calls (b1 b2 : Nat) (A0 : Option Addr) (c0 : Nat) (l0 : List S37) (x r : Int) (w : World)
    (h1 : w.cell? ⟨b1, 0, none⟩ = some (.slice A0 l0.length c0)) (h2 : w.cell? ⟨b2, 0, none⟩ = some (.int .i64 x))
    (hr0 : Kd.C k37 w A0 l0.length l0) (h : search_x.f l0 x = some r) :
    Calls Try.prog 22 #[.int .i64 (l0.length : Int), .func (.func 31) #[] #[.pointer (some ⟨b1, 0, none⟩), .pointer (some ⟨b2, 0, none⟩)]] w
      fun e w' => e = .returned (.int .i64 r) ∧ Below w.heap.size w w' := by
  have hb1 := World.block_lt_of_cell? _ _ h1
  have hb2 := World.block_lt_of_cell? _ _ h2
  unfold search_x.f at h
  by_cases ha : asc (l0.map S37.f0) = true
  · rw [if_pos ha] at h
    injection h with h
    subst h
    have hlen := asc_lt ha
    rw [List.length_map] at hlen
    have eg : ∀ args w, (callFunc 31 args).run Try.prog w = .ok (.enter 31 args) w := enters_of Try.func31 (by kernel_rfl) rfl
    have hS := Any.sort_Search Try.search 31 #[.pointer (some ⟨b1, 0, none⟩), .pointer (some ⟨b2, 0, none⟩)] l0.length (fun i => decide (x ≤ (l0.map S37.f0).getD i 0)) w eg hlen
      (fun m os i hi => (closure31 b1 b2 A0 c0 l0 x i _ hi (cell_grown hb1 h1 m os) (cell_grown hb2 h2 m os) (Kd.C_below hr0 (below_grown_sl w.heap.size w m os (Nat.le_refl _)))).mono
        fun _ _ ⟨he, q, hq⟩ => ⟨by rw [he, rd_f0], q, #[], by rw [hq, grow_empty]⟩)
      (fun a b hab hb h => by have := asc_le ha a b hab (by rw [List.length_map]; exact hb); simp only [decide_eq_true_eq] at h ⊢; omega)
    have e : (List.range l0.length).countP (fun i => !decide (x ≤ (l0.map S37.f0).getD i 0)) = (l0.map S37.f0).countP (fun y => !decide (x ≤ y)) := by
      have := countP_getD (l0.map S37.f0) (fun y => !decide (x ≤ y))
      rwa [List.length_map] at this
    rw [e] at hS
    exact hS.mono fun e w' ⟨he, q, os, hq⟩ => ⟨he, by rw [hq]; exact below_grown_sl w.heap.size w q os (Nat.le_refl _)⟩
  · rw [if_neg ha] at h; cases h

set_option maxHeartbeats 2000000 in
theorem closure23 (b1 b2 : Nat) (A0 : Option Addr) (c0 : Nat) (l0 : List S37) (x : Int) (i : Nat) (W : World) (hi : i < l0.length)
    (ha : W.cell? ⟨b1, 0, none⟩ = some (.slice A0 l0.length c0)) (hx : W.cell? ⟨b2, 0, none⟩ = some (.int .i64 x)) (hC : Kd.C k37 W A0 l0.length l0) :
    Calls Try.prog 23 (#[.int .i64 i] ++ #[.pointer (some ⟨b1, 0, none⟩), .pointer (some ⟨b2, 0, none⟩)]) W fun e w' => e = .returned (.bool (decide (x ≤ (rd_T37 l0 (i : Int)).f1))) ∧ ∃ q, w' = W.drewN q := by
  have hiz : (i : Int) < (l0.length : Int) := by omega
  obtain ⟨ad, rfl, h0, h1⟩ := at_T37 hC (i : Int) (by omega) hiz
  generalize rd_T37 l0 (i : Int) = y at h0 h1 ⊢
  rw [Int.toNat_natCast] at h0 h1
  have hu37 := Try.underlying37
  clear hC
  go_enter Try.func23, Try.ntmps23
  go_wp2
  go_region
  all_goals go_wp2
  all_goals go_ret
  all_goals exact ⟨by first | rfl | simp, 1, rfl⟩

set_option maxHeartbeats 2000000 in
theorem search_y.calls (b1 b2 : Nat) (A0 : Option Addr) (c0 : Nat) (l0 : List S37) (x r : Int) (w : World)
    (h1 : w.cell? ⟨b1, 0, none⟩ = some (.slice A0 l0.length c0)) (h2 : w.cell? ⟨b2, 0, none⟩ = some (.int .i64 x))
    (hr0 : Kd.C k37 w A0 l0.length l0) (h : search_y.f l0 x = some r) :
    Calls Try.prog 22 #[.int .i64 (l0.length : Int), .func (.func 23) #[] #[.pointer (some ⟨b1, 0, none⟩), .pointer (some ⟨b2, 0, none⟩)]] w
      fun e w' => e = .returned (.int .i64 r) ∧ Below w.heap.size w w' := by
  have hb1 := World.block_lt_of_cell? _ _ h1
  have hb2 := World.block_lt_of_cell? _ _ h2
  unfold search_y.f at h
  by_cases ha : asc (l0.map S37.f1) = true
  · rw [if_pos ha] at h
    injection h with h
    subst h
    have hlen := asc_lt ha
    rw [List.length_map] at hlen
    have eg : ∀ args w, (callFunc 23 args).run Try.prog w = .ok (.enter 23 args) w := enters_of Try.func23 (by kernel_rfl) rfl
    have hS := Any.sort_Search Try.search 23 #[.pointer (some ⟨b1, 0, none⟩), .pointer (some ⟨b2, 0, none⟩)] l0.length (fun i => decide (x ≤ (l0.map S37.f1).getD i 0)) w eg hlen
      (fun m os i hi => (closure23 b1 b2 A0 c0 l0 x i _ hi (cell_grown hb1 h1 m os) (cell_grown hb2 h2 m os) (Kd.C_below hr0 (below_grown_sl w.heap.size w m os (Nat.le_refl _)))).mono
        fun _ _ ⟨he, q, hq⟩ => ⟨by rw [he, rd_f1], q, #[], by rw [hq, grow_empty]⟩)
      (fun a b hab hb h => by have := asc_le ha a b hab (by rw [List.length_map]; exact hb); simp only [decide_eq_true_eq] at h ⊢; omega)
    have e : (List.range l0.length).countP (fun i => !decide (x ≤ (l0.map S37.f1).getD i 0)) = (l0.map S37.f1).countP (fun y => !decide (x ≤ y)) := by
      have := countP_getD (l0.map S37.f1) (fun y => !decide (x ≤ y))
      rwa [List.length_map] at this
    rw [e] at hS
    exact hS.mono fun e w' ⟨he, q, os, hq⟩ => ⟨he, by rw [hq]; exact below_grown_sl w.heap.size w q os (Nat.le_refl _)⟩
  · rw [if_neg ha] at h; cases h
end Go.Proofs.Ytmkekbehipaopaa.Fn
