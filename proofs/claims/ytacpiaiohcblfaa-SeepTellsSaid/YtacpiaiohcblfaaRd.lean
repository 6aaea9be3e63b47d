/- How the values of a law's arguments read as whole numbers, lists and structures: from the claim's reading of an argument to the printed functions' own. -/
import Derived.Test.YtacpiaiohcblfaaFn0
import Derived.ProofKit
import Derived.ChangeArms
import Derived.Deep.Slices
set_option linter.unusedVariables false
namespace Go.Proofs.Ytacpiaiohcblfaa.Rd
open Go.RowKit Go.Proofs.YtacpiaiohcblfaaW.PrintWords

/-- What reads at type t reads as a kind's values, and these are well formed. -/
def Opens {α : Type} (K : Kd α) (W : α → Prop) (P : Program) (t : TypeId) : Prop :=
  ∀ {H : Type} (enc : TypeId × Value → H) (w : World) (base : Nat) (spare : Nat → Bool) (held : Bool) (fuel : Nat) (cs : List Value) (x : DataW H × List MemPlace),
    DataW.trod enc P w base spare held fuel t cs = some x → ∃ y, K.K w y cs ∧ W y

section
variable {P : Program} {t : TypeId}

theorem opens_int {k : IntKind} (hu : P.underlying t = some (.int k)) : Opens (Kd.int k) (fun n => (Lit.int k n).wf = true) P t := by
  intro H enc w base spare held fuel cs x h
  obtain ⟨n, rfl, _, hw⟩ := DataW.trod_int hu h
  exact ⟨n, rfl, hw⟩
theorem opens_bool (hu : P.underlying t = some .bool) : Opens Kd.bool (fun _ => True) P t := by
  intro H enc w base spare held fuel cs x h
  obtain ⟨b, rfl, _⟩ := DataW.trod_bool hu h
  exact ⟨b, rfl, trivial⟩
theorem opens_string (hu : P.underlying t = some .string) : Opens Kd.string (fun s => s.size ≤ maxLen) P t := by
  intro H enc w base spare held fuel cs x h
  obtain ⟨s, rfl, _, hs⟩ := DataW.trod_string hu h
  exact ⟨s, rfl, hs⟩

theorem list_of {α : Type} (R : α → Nat → Prop) : ∀ n : Nat, (∀ i, i < n → ∃ y, R y i) → ∃ ys : List α, ys.length = n ∧ ∀ i y, ys[i]? = some y → R y i
  | 0, _ => ⟨[], rfl, fun i y h => by simp at h⟩
  | n + 1, h => by
    obtain ⟨ys, hl, hy⟩ := list_of R n fun i hi => h i (by omega)
    obtain ⟨y, hr⟩ := h n (by omega)
    refine ⟨ys ++ [y], by simp [hl], fun i z hz => ?_⟩
    by_cases hi : i < n
    · rw [List.getElem?_append_left (by omega)] at hz
      exact hy i z hz
    · rw [List.getElem?_append_right (by omega)] at hz
      have : i - ys.length = 0 := by
        rcases Nat.eq_zero_or_pos (i - ys.length) with h0 | h0
        · exact h0
        · rw [List.getElem?_eq_none (by simp; omega)] at hz; cases hz
      rw [this] at hz
      simp at hz
      obtain rfl := hz
      obtain rfl : i = n := by omega
      exact hr

theorem mapM_cell {w : World} {a : Addr} : ∀ {n : Nat} {cs : List Value}, ((List.range n).mapM fun i => w.cell? (a.add i)) = some cs → cs.length = n ∧ ∀ i u, cs[i]? = some u → w.cell? (a.add i) = some u := by
  intro n cs h
  have hl : cs.length = n := by simpa using mapM_some_length h
  refine ⟨hl, fun i u hu => ?_⟩
  have hi : i < n := by
    have := (List.getElem?_eq_some_iff.1 hu).1
    omega
  have := mapM_some_get h i i (by simp [hi])
  rw [this, hu]

theorem opens_slice {α : Type} {K : Kd α} {W : α → Prop} {e : TypeId} {q : Nat} (hu : P.underlying t = some (.slice e)) (hs : P.cellsOf e = K.sz) (h : Opens K W P e) :
    Opens (Kd.slice q K) (fun l => l.length ≤ maxLen ∧ ∀ y, y ∈ l → W y) P t := by
  intro H enc w base spare held fuel cs x hx
  rcases Deep.open_slice hu hx with ⟨rfl, _⟩ | ⟨a, len, cap, m, n, D, Pl, rfl, hb, hl, hc, hm, _, hel⟩
  · exact ⟨[], ⟨none, 0, rfl, Nat.le_refl _, rfl, by simp, fun h0 => absurd h0 (Nat.lt_irrefl 0)⟩, Nat.zero_le _, fun y hy => by simp at hy⟩
  · have hlm : len ≤ m := by rw [hm]; split <;> omega
    obtain ⟨ys, hyl, hy⟩ := list_of (fun y i => ∃ c, c.length = K.sz ∧ K.K w y c ∧ W y ∧ ∀ j u, c[j]? = some u → w.cell? (a.add (i * K.sz + j)) = some u) len fun i hi => by
      obtain ⟨cs', h1, h2⟩ := hel i (by omega)
      obtain ⟨y, hk, hw⟩ := h enc w base spare held n cs' _ h2
      refine ⟨y, cs', K.K_len hk, hk, hw, fun j u hu' => ?_⟩
      unfold World.cells? at h1
      split at h1
      · have := (mapM_cell h1).2 j u hu'
        rw [Deep.add_add, hs] at this
        exact this
      · cases h1
    have hml : maxLen = 9223372036854775807 := rfl
    refine ⟨ys, ⟨some a, cap, by rw [hyl], by omega, rfl, by omega, fun _ => ⟨a, rfl, fun j p hp => ?_⟩⟩, by omega, fun y hmem => ?_⟩
    · obtain ⟨c, c1, c2, _, c4⟩ := hy j p hp
      exact ⟨c, c1, c2, c4⟩
    · obtain ⟨i, hi, rfl⟩ := List.getElem_of_mem hmem
      obtain ⟨c, _, _, c3, _⟩ := hy i _ (List.getElem?_eq_getElem hi)
      exact c3

/-! ### structures -/
def OpensF {α : Type} (K : Kd α) (W : α → Prop) (P : Program) (fs : List Field) (off : Nat) : Prop :=
  ∀ {H : Type} (enc : TypeId × Value → H) (w : World) (base : Nat) (spare : Nat → Bool) (held : Bool) (fuel : Nat) (cs : List Value),
    (∀ f, f ∈ fs → ∃ x, DataW.trod enc P w base spare held fuel f.type ((cs.drop f.offset).take (P.cellsOf f.type)) = some x) → cs.length = off + K.sz → ∃ y, K.K w y (cs.drop off) ∧ W y

theorem opensF_last {α : Type} {K : Kd α} {W : α → Prop} {f : Field} {off : Nat} (ho : f.offset = off) (hs : P.cellsOf f.type = K.sz) (h : Opens K W P f.type) : OpensF K W P [f] off := by
  intro H enc w base spare held fuel cs hx hl
  obtain ⟨x, hx⟩ := hx f (by simp)
  obtain ⟨y, hk, hw⟩ := h enc w base spare held fuel _ _ hx
  refine ⟨y, ?_, hw⟩
  rw [ho, hs, List.take_of_length_le (by rw [List.length_drop]; omega)] at hk
  exact hk
theorem opensF_cons {α β : Type} {K : Kd α} {W : α → Prop} {L : Kd β} {V : β → Prop} {f : Field} {fs : List Field} {off off2 : Nat} (ho : f.offset = off) (hs : P.cellsOf f.type = K.sz) (h2 : off2 = off + K.sz)
    (h : Opens K W P f.type) (hr : OpensF L V P fs off2) : OpensF (Kd.pair K L) (fun p => W p.1 ∧ V p.2) P (f :: fs) off := by
  intro H enc w base spare held fuel cs hx hl
  have hl : cs.length = off + (K.sz + L.sz) := hl
  obtain ⟨x, hx0⟩ := hx f (by simp)
  obtain ⟨y, hk, hw⟩ := h enc w base spare held fuel _ _ hx0
  obtain ⟨z, hk2, hw2⟩ := hr enc w base spare held fuel cs (fun g hg => hx g (by simp [hg])) (by omega)
  refine ⟨(y, z), ⟨(cs.drop off).take K.sz, cs.drop off2, ?_, ?_, hk2⟩, hw, hw2⟩
  · rw [h2, ← List.drop_drop, List.take_append_drop]
  · rw [ho, hs] at hk
    exact hk
theorem opens_struct {α : Type} {K : Kd α} {W : α → Prop} {fs : Array Field} (hu : P.underlying t = some (.struct fs)) (hs : P.cellsOf t = K.sz) (h : OpensF K W P fs.toList 0) : Opens K W P t := by
  intro H enc w base spare held fuel cs x hx
  obtain ⟨xs, n, rfl, _, hl, hxl, hf⟩ := DataW.trod_struct hu hx
  have := h enc w base spare held n cs (fun f hm => by
    obtain ⟨i, hi, rfl⟩ := List.getElem_of_mem hm
    have hi' : i < fs.size := by simpa using hi
    have e := hf i (fs[i]) (by simp [hi'])
    refine ⟨xs[i]'(by omega), ?_⟩
    rw [List.getElem?_eq_getElem (by omega)] at e
    simpa using e) (by omega)
  rw [List.drop_zero] at this
  exact this
theorem opens_iso {α β : Type} {K : Kd α} {W : α → Prop} {f : β → α} (g : α → β) (hg : ∀ p, f (g p) = p) (h : Opens K W P t) : Opens (Kd.iso K f) (fun b => W (f b)) P t := by
  intro H enc w base spare held fuel cs x hx
  obtain ⟨y, hk, hw⟩ := h enc w base spare held fuel cs x hx
  refine ⟨g y, ?_, ?_⟩
  · show K.K w (f (g y)) cs
    rw [hg]; exact hk
  · show W (f (g y))
    rw [hg]; exact hw
theorem opens_of {α : Type} {K : Kd α} {W V : α → Prop} (h : Opens K W P t) (hv : ∀ y, W y → V y) : Opens K V P t := by
  intro H enc w base spare held fuel cs x hx
  obtain ⟨y, hk, hw⟩ := h enc w base spare held fuel cs x hx
  exact ⟨y, hk, hv y hw⟩
end

/-- A value of several cells is a structure. -/
theorem agg_of {v : Value} {cs : List Value} (h : v.cells.toList = cs) (hn : cs.length ≠ 1) : v = .agg cs.toArray := by
  cases v <;> first | (exfalso; apply hn; rw [← h]; rfl) | (rename_i a; have : a.toList = cs := h; rw [← this])
theorem slice_inj {a b : Option Addr} {m n c d : Nat} (h : [Value.slice a m c] = [Value.slice b n d]) : a = b ∧ m = n ∧ c = d := by
  injection h with h _
  injection h with h1 h2 h3
  exact ⟨h1, h2, h3⟩
end Go.Proofs.Ytacpiaiohcblfaa.Rd
