import Derived.Test.YtmkekbehipaopaaCurveMore
import Derived.Test.YtmkekbehipaopaaRdT
import Derived.Test.YtmkekbehipaopaaFn18
set_option maxRecDepth 100000
set_option linter.unusedVariables false
namespace Go.Proofs.Ytmkekbehipaopaa.Pure
open Go.RowKit Go.Proofs.Ytmkekbehipaopaa.Fn Go.Proofs.Ytmkekbehipaopaa.Rd Go.Proofs.Ytmkekbehipaopaa.Div Go.Proofs.Ytmkekbehipaopaa.Exact Go.Proofs.Ytmkekbehipaopaa.Curve Go.Proofs.YtmkekbehipaopaaW.PrintWords Go.Proofs.YtmkekbehipaopaaW.PrintLast Go.Proofs.YtmkekbehipaopaaW.PrintMore

theorem take_snoc (m : List S37) (i : Nat) (h : i < m.length) : m.take i ++ [m.getD i z37] = m.take (i + 1) := by
  rw [List.getD_eq_getElem?_getD, List.getElem?_eq_getElem h, Option.getD_some, List.take_append_getElem]
/-! ### All points raised -/
def rp (u : Int) (p : S37) : S37 := ⟨p.f0, p.f1 + u⟩
def raise (u : Int) (l : List S37) : List S37 := l.map (rp u)
theorem raise_get (u : Int) (l : List S37) (j : Nat) (hj : j < l.length) : (raise u l).getD j z37 = rp u (l.getD j z37) := by
  unfold raise
  rw [List.getD_eq_getElem?_getD, List.getD_eq_getElem?_getD, List.getElem?_map, List.getElem?_eq_getElem hj]; rfl
theorem raise_len (u : Int) (l : List S37) : (raise u l).length = l.length := by unfold raise; rw [List.length_map]
theorem raise_px (u : Int) (l : List S37) (j : Nat) (hj : j < l.length) : px (raise u l) j = px l j := by unfold px; rw [raise_get u l j hj]; rfl
theorem raise_py (u : Int) (l : List S37) (j : Nat) (hj : j < l.length) : py (raise u l) j = py l j + u := by unfold py; rw [raise_get u l j hj]; rfl
theorem raise_R {u : Int} {l : List S37} (h : R l) (hu : 0 ≤ u) (ht : py l (l.length - 1) + u ≤ 1125899906842624) : R (raise u l) := by
  refine ⟨fun j hj => ?_, by rw [raise_len]; exact h.2.1, by rw [raise_len]; exact h.2.2⟩
  rw [raise_len] at hj
  have p := h.1 j hj
  have q := (incr h j (l.length - 1) (by omega) (by omega)).2
  refine ⟨?_, fun h0 => ?_⟩
  · have p1 := p.1
    rw [raise_px u l j hj, raise_py u l j hj]; omega
  · rw [raise_px u l j hj, raise_py u l j hj, raise_px u l (j - 1) (by omega), raise_py u l (j - 1) (by omega)]
    have := p.2 h0
    omega
/-- Two curves whose segments around x have the same ends up to a shift. -/
theorem same_seg {a b : List S37} (ha : R a) (hb : R b) (i j : Nat) (i0 : 0 < i) (j0 : 0 < j) (hi : i < a.length) (hj : j < b.length) (u x : Int)
    (x1 : px a (i - 1) = px b (j - 1)) (x2 : px a i = px b j) (y1 : py a (i - 1) = py b (j - 1) + u) (y2 : py a i = py b j + u) (h1 : px b (j - 1) ≤ x) (h2 : x ≤ px b j) : V a x = V b x + u ∧ W a x = W b x := by
  have e1 := val_seg ha i i0 hi x (by omega) (by omega)
  have e2 := val_seg hb j j0 hj x (by omega) (by omega)
  have n : num a i x = num b j x := by unfold num; rw [x1, y1, y2]; congr 1; omega
  have l : len a i = len b j := by unfold len; rw [x1, x2]
  rw [e1.1, e1.2, e2.1, e2.2, n, l, y1]; omega
theorem raise_V {u : Int} {l : List S37} (h : R l) (hu : 0 ≤ u) (ht : py l (l.length - 1) + u ≤ 1125899906842624) (x : Int) : V (raise u l) x = V l x + u ∧ W (raise u l) x = W l x := by
  have g := raise_R h hu ht
  have n := raise_len u l
  have hn := h.2.1
  rcases where_ h x with a | a | ⟨i, i0, hi, h1, h2⟩
  · have e1 := val_left h x a
    have e2 := val_left g x (by rw [raise_px u l 0 hn]; exact a)
    rw [e1.1, e1.2, e2.1, e2.2, raise_py u l 0 hn]; exact ⟨rfl, rfl⟩
  · have e1 := val_right h x a
    have e2 := val_right g x (by rw [n, raise_px u l _ (by omega)]; exact a)
    rw [e1.1, e1.2, e2.1, e2.2, n, raise_py u l _ (by omega)]; exact ⟨rfl, rfl⟩
  · exact same_seg g h i i i0 i0 (by omega) hi u x (raise_px u l _ (by omega)) (raise_px u l _ hi) (raise_py u l _ (by omega)) (raise_py u l _ hi) (by omega) h2
theorem raise_step (u : Int) (l : List S37) (i : Nat) (hi : i < l.length) : (raise u l).take i ++ [(⟨(rd_T37 l (i : Int)).f0, (rd_T37 l (i : Int)).f1 + u⟩ : S37)] = (raise u l).take (i + 1) := by
  rw [← take_snoc (raise u l) i (by rw [raise_len]; exact hi), raise_get u l i hi]; rfl
/-! ### One more point on a level piece -/
def pt (l : List S37) (i : Nat) : S37 := ⟨px l i + 1, py l i⟩
def ins (l : List S37) (i : Nat) : List S37 := l.take (i + 1) ++ (pt l i :: l.drop (i + 1))
theorem ins_len (l : List S37) (i : Nat) (hi : i < l.length) : (ins l i).length = l.length + 1 := by
  unfold ins; rw [List.length_append, List.length_cons, List.length_take, List.length_drop]; omega
theorem ins_lt (l : List S37) (i j : Nat) (hi : i < l.length) (hj : j ≤ i) : (ins l i).getD j z37 = l.getD j z37 := by
  unfold ins
  rw [List.getD_eq_getElem?_getD, List.getD_eq_getElem?_getD, List.getElem?_append_left (by rw [List.length_take]; omega), List.getElem?_take, if_pos (by omega)]
theorem ins_at (l : List S37) (i : Nat) (hi : i < l.length) : (ins l i).getD (i + 1) z37 = pt l i := by
  unfold ins
  rw [List.getD_eq_getElem?_getD, List.getElem?_append_right (by rw [List.length_take]; omega), List.length_take, show i + 1 - min (i + 1) l.length = 0 by omega]; rfl
theorem ins_gt (l : List S37) (i j : Nat) (hi : i < l.length) (hj : i < j) : (ins l i).getD (j + 1) z37 = l.getD j z37 := by
  unfold ins
  rw [List.getD_eq_getElem?_getD, List.getD_eq_getElem?_getD, List.getElem?_append_right (by rw [List.length_take]; omega), List.length_take, show j + 1 - min (i + 1) l.length = (j - i - 1) + 1 by omega, List.getElem?_cons_succ, List.getElem?_drop, show i + 1 + (j - i - 1) = j by omega]
section
variable {l : List S37} {i : Nat}
theorem ins_px_lt (hi : i < l.length) (j : Nat) (hj : j ≤ i) : px (ins l i) j = px l j ∧ py (ins l i) j = py l j := by unfold px py; rw [ins_lt l i j hi hj]; exact ⟨rfl, rfl⟩
theorem ins_px_at (hi : i < l.length) : px (ins l i) (i + 1) = px l i + 1 ∧ py (ins l i) (i + 1) = py l i := by
  have e := ins_at l i hi
  have e1 := congrArg S37.f0 e
  have e2 := congrArg S37.f1 e
  exact ⟨e1, e2⟩
theorem ins_px_gt (hi : i < l.length) (j : Nat) (hj : i < j) : px (ins l i) (j + 1) = px l j ∧ py (ins l i) (j + 1) = py l j := by unfold px py; rw [ins_gt l i j hi hj]; exact ⟨rfl, rfl⟩
theorem ins_R (h : R l) (hl : l.length ≤ 31) (hi : i + 1 < l.length) (hy : py l (i + 1) = py l i) (hx : px l (i + 1) - px l i ≥ 2) : R (ins l i) := by
  have n := ins_len l i (by omega)
  refine ⟨fun j hj => ?_, by omega, by omega⟩
  have pi := (h.1 i (by omega)).1
  have pi1 := (h.1 (i + 1) hi).1
  rcases Nat.lt_trichotomy j (i + 1) with a | a | a
  · have e := ins_px_lt (l := l) (i := i) (by omega) j (by omega)
    have p := h.1 j (by omega)
    refine ⟨by rw [e.1, e.2]; exact p.1, fun h0 => ?_⟩
    have e2 := ins_px_lt (l := l) (i := i) (by omega) (j - 1) (by omega)
    rw [e.1, e.2, e2.1, e2.2]; exact p.2 h0
  · subst a
    have e := ins_px_at (l := l) (i := i) (by omega)
    have e2 := ins_px_lt (l := l) (i := i) (by omega) i (Nat.le_refl i)
    refine ⟨by rw [e.1, e.2]; omega, fun h0 => ?_⟩
    rw [show i + 1 - 1 = i by omega, e.1, e.2, e2.1, e2.2]; omega
  · obtain ⟨m, rfl⟩ : ∃ m, j = m + 1 := ⟨j - 1, by omega⟩
    have e := ins_px_gt (l := l) (i := i) (by omega) m (by omega)
    have p := h.1 m (by omega)
    refine ⟨by rw [e.1, e.2]; exact p.1, fun h0 => ?_⟩
    rw [show m + 1 - 1 = m by omega, e.1, e.2]
    rcases Nat.lt_or_ge (i + 1) m with b | b
    · have e2 := ins_px_gt (l := l) (i := i) (by omega) (m - 1) (by omega)
      rw [show m - 1 + 1 = m by omega] at e2
      rw [e2.1, e2.2]; exact p.2 (by omega)
    · have : m = i + 1 := by omega
      subst this
      have e2 := ins_px_at (l := l) (i := i) (by omega)
      rw [e2.1, e2.2]; omega
theorem flat {a : List S37} (ha : R a) (j : Nat) (j0 : 0 < j) (hj : j < a.length) (hy : py a j = py a (j - 1)) (x : Int) (h1 : px a (j - 1) ≤ x) (h2 : x ≤ px a j) : V a x = py a j ∧ W a x = 0 := by
  have e := val_seg ha j j0 hj x h1 h2
  rw [e.1, e.2]
  unfold num
  rw [hy, Int.sub_self, Int.zero_mul, Int.zero_ediv, Int.zero_emod]; omega
theorem ins_V (h : R l) (hl : l.length ≤ 31) (hi : i + 1 < l.length) (hy : py l (i + 1) = py l i) (hx : px l (i + 1) - px l i ≥ 2) (x : Int) : V (ins l i) x = V l x ∧ W (ins l i) x = W l x := by
  have g := ins_R h hl hi hy hx
  have n := ins_len l i (by omega)
  have hn := h.2.1
  have e0 := ins_px_lt (l := l) (i := i) (by omega) i (Nat.le_refl i)
  have e1 := ins_px_at (l := l) (i := i) (by omega)
  have e2 := ins_px_gt (l := l) (i := i) (by omega) (i + 1) (by omega)
  rcases where_ h x with a | a | ⟨m, m0, hm, h1, h2⟩
  · have f1 := val_left h x a
    have q := ins_px_lt (l := l) (i := i) (by omega) 0 (by omega)
    have f2 := val_left g x (by rw [q.1]; exact a)
    rw [f1.1, f1.2, f2.1, f2.2, q.2]; exact ⟨rfl, rfl⟩
  · have f1 := val_right h x a
    have q := ins_px_gt (l := l) (i := i) (by omega) (l.length - 1) (by omega)
    rw [show l.length - 1 + 1 = l.length by omega] at q
    have n2 : (ins l i).length - 1 = l.length := by omega
    have f2 := val_right g x (by rw [n2, q.1]; exact a)
    rw [f1.1, f1.2, f2.1, f2.2, n2, q.2]; exact ⟨rfl, rfl⟩
  · rcases Nat.lt_trichotomy m (i + 1) with b | b | b
    · have q := ins_px_lt (l := l) (i := i) (by omega) m (by omega)
      have q2 := ins_px_lt (l := l) (i := i) (by omega) (m - 1) (by omega)
      have := same_seg g h m m m0 m0 (by omega) hm 0 x q2.1 q.1 (by rw [q2.2]; omega) (by rw [q.2]; omega) (by omega) h2
      rw [this.1, this.2]; exact ⟨by omega, rfl⟩
    · subst b
      rw [show i + 1 - 1 = i by omega] at h1
      have f := flat h (i + 1) (by omega) hi (by rw [show i + 1 - 1 = i by omega]; exact hy) x (by rw [show i + 1 - 1 = i by omega]; omega) h2
      rcases Int.lt_or_le (px l i + 1) x with c | c
      · have f2 := flat g (i + 2) (by omega) (by omega) (by rw [show i + 2 - 1 = i + 1 by omega, show i + 2 = i + 1 + 1 from rfl, e2.2, e1.2]; exact hy) x (by rw [show i + 2 - 1 = i + 1 by omega, e1.1]; omega) (by rw [show i + 2 = i + 1 + 1 from rfl, e2.1]; exact h2)
        rw [f.1, f.2, f2.1, f2.2, show i + 2 = i + 1 + 1 from rfl, e2.2]; exact ⟨rfl, rfl⟩
      · have f2 := flat g (i + 1) (by omega) (by omega) (by rw [show i + 1 - 1 = i by omega, e1.2, e0.2]) x (by rw [show i + 1 - 1 = i by omega, e0.1]; omega) (by rw [e1.1]; exact c)
        rw [f.1, f.2, f2.1, f2.2, e1.2]; exact ⟨hy.symm, rfl⟩
    · have q := ins_px_gt (l := l) (i := i) (by omega) m (by omega)
      have q2 := ins_px_gt (l := l) (i := i) (by omega) (m - 1) (by omega)
      rw [show m - 1 + 1 = m by omega] at q2
      have := same_seg g h (m + 1) m (by omega) m0 (by omega) hm 0 x (by rw [show m + 1 - 1 = m by omega]; exact q2.1) q.1 (by rw [show m + 1 - 1 = m by omega, q2.2]; omega) (by rw [q.2]; omega) (by omega) h2
      rw [this.1, this.2]; exact ⟨by omega, rfl⟩
/-- Every point of the longer curve lies on the shorter one. -/
theorem ins_pt (h : R l) (hl : l.length ≤ 31) (hi : i + 1 < l.length) (hy : py l (i + 1) = py l i) (hx : px l (i + 1) - px l i ≥ 2) (j : Nat) (hj : j < (ins l i).length) : V l (px (ins l i) j) = py (ins l i) j ∧ W l (px (ins l i) j) = 0 := by
  have g := ins_R h hl hi hy hx
  have e := ins_V h hl hi hy hx (px (ins l i) j)
  have p := val_point g j hj
  rw [← e.1, ← e.2]; exact p
theorem U_same {a b : List S37} {x : Int} (h : V a x = V b x ∧ W a x = W b x) : U a x = U b x := by unfold U; rw [h.1, h.2]
theorem un_of {a b c d : List S37} (ha : R c) (hd : R d) (h1 : ∀ x, V a x = V c x ∧ W a x = W c x) (h2 : ∀ x, V b x = V d x ∧ W b x = W d x) (h : Un a b) : Un c d := by
  refine ⟨ha, hd, fun j hj => ?_, fun j hj => ?_⟩
  · have q := (under_all h (px c j)).1
    rw [(h1 _).1, (h2 _).1, (val_point ha j hj).1] at q; exact q
  · have q := (under_all h (px d j)).2
    rw [U_same (h1 _), U_same (h2 _), U_whole (val_point hd j hj).2, (val_point hd j hj).1] at q; exact q
theorem pts_j5 (k : Nat) (hk : 300 ≤ k) {m d : List S37} (hl : R l) (hm : R m) (hd : R d) (h : ∀ x, V m x = V l x ∧ W m x = W l x) : bournelaw10_CurvePoints.j5 (k + 1) l d true m true = some true := by
  have n1 := hl.2.2
  have n2 := hm.2.2
  have n3 := hd.2.2
  have h' : ∀ x, V l x = V m x ∧ W l x = W m x := fun x => ⟨(h x).1.symm, (h x).2.symm⟩
  have s : ∀ x, V d x = V d x ∧ W d x = W d x := fun x => ⟨rfl, rfl⟩
  simp only [bournelaw10_CurvePoints.j5]
  obtain ⟨r1, e1, i1⟩ := Under_spec m d k (by omega) (by omega) (by omega)
  obtain ⟨r2, e2, i2⟩ := Under_spec l d k (by omega) (by omega) (by omega)
  obtain ⟨r3, e3, i3⟩ := Under_spec d m k (by omega) (by omega) (by omega)
  obtain ⟨r4, e4, i4⟩ := Under_spec d l k (by omega) (by omega) (by omega)
  have q1 : r2 = r1 := by rw [Bool.eq_iff_iff, i1, i2]; exact ⟨un_of hm hd h' s, un_of hl hd h s⟩
  have q2 : r4 = r3 := by rw [Bool.eq_iff_iff, i3, i4]; exact ⟨un_of hd hm s h', un_of hd hl s h⟩
  subst q1 q2
  rw [if_pos trivial, if_pos trivial, e1, bs, e2, bs, if_pos (by simp), e3, bs, e4, bs]; simp
theorem ins_state (l : List S37) (i j : Nat) (hi : i < l.length) (hj : j < l.length) :
    ((ins l i).take (if j ≤ i then j else j + 1) ++ [(⟨(rd_T37 l (j : Int)).f0, (rd_T37 l (j : Int)).f1⟩ : S37)]) = (ins l i).take (if j ≤ i then j + 1 else j + 2) := by
  have n := ins_len l i hi
  by_cases h : j ≤ i
  · rw [if_pos h, if_pos h, ← take_snoc (ins l i) j (by omega), ins_lt l i j hi h]; rfl
  · rw [if_neg h, if_neg h, ← take_snoc (ins l i) (j + 1) (by omega), ins_gt l i j hi (by omega)]; rfl
theorem pts_l1 {d : List S37} (h : R l) (hl : l.length ≤ 31) (hi : i + 1 < l.length) (hy : py l (i + 1) = py l i) (hx : px l (i + 1) - px l i ≥ 2) (hd : R d) (x : Int) : ∀ (n k j : Nat), l.length - j = n → j ≤ l.length → n + 402 ≤ k →
    bournelaw10_CurvePoints.l1 k l d x (i : Int) true ((ins l i).take (if j ≤ i then j else j + 1)) (j : Int) = some true := by
  have g := ins_R h hl hi hy hx
  have nl := ins_len l i (by omega)
  have v := ins_V h hl hi hy hx
  intro n
  induction n with
  | zero =>
    intro k j hn hj hk
    obtain ⟨k, rfl⟩ : ∃ m, k = m + 2 := ⟨k - 2, by omega⟩
    have e : (ins l i).take (if j ≤ i then j else j + 1) = ins l i := by rw [if_neg (by omega)]; exact List.take_of_length_le (by omega)
    rw [e]
    simp only [bournelaw10_CurvePoints.l1]
    rw [if_neg (by omega), At_spec _ _ _ (by omega) (by omega), bs, At_spec _ _ _ (by omega) (by omega), bs, rb_true g, rb_true h, if_pos rfl, if_pos rfl, if_pos (v x).1]
    obtain ⟨r1, e1, i1⟩ := Under_spec (ins l i) l (k + 1) (by omega) (by omega) (by omega)
    obtain ⟨r2, e2, i2⟩ := Under_spec l (ins l i) (k + 1) (by omega) (by omega) (by omega)
    have t1 := i1.2 (un_of g h (fun _ => ⟨rfl, rfl⟩) v (under_refl g))
    have t2 := i2.2 (un_of h g v (fun _ => ⟨rfl, rfl⟩) (under_refl g))
    subst t1 t2
    rw [e1, bs, if_pos rfl, e2, bs]
    exact pts_j5 k (by omega) h g hd v
  | succ n ih =>
    intro k j hn hj hk
    obtain ⟨k, rfl⟩ : ∃ m, k = m + 1 := ⟨k - 1, by omega⟩
    have hlt : j < l.length := by omega
    have nx := ih k (j + 1) (by omega) (by omega) (by omega)
    have lt1 : ((ins l i).take (if j ≤ i then j else j + 1)).length < 8796093022208 := by rw [List.length_take]; omega
    simp only [bournelaw10_CurvePoints.l1]
    rw [if_pos (by omega), if_pos (by omega), if_pos lt1, ins_state l i j (by omega) hlt, bs, wis ((j : Int) + 1) (by omega), show (j : Int) + 1 = ((j + 1 : Nat) : Int) from rfl]
    by_cases c : (j : Int) = (i : Int)
    · have c2 : j = i := by omega
      subst c2
      have lt2 : ((ins l j).take (j + 1)).length < 8796093022208 := by rw [List.length_take]; omega
      rw [if_pos rfl, if_pos (by omega), if_pos (by omega), if_pos (Nat.le_refl j), if_pos lt2]
      have p := (h.1 j hlt).1
      have e : (ins l j).take (j + 1) ++ [(⟨wrap64 (((rd_T37 l (j : Int)).f0) + 1), (rd_T37 l (j : Int)).f1⟩ : S37)] = (ins l j).take (if j + 1 ≤ j then j + 1 else j + 1 + 1) := by
        rw [if_neg (by omega), ← take_snoc (ins l j) (j + 1) (by omega), ins_at l j hlt, rd0, rd1, wis _ (by omega)]; rfl
      rw [e]; exact nx
    · rw [if_neg c]
      have e : (if j ≤ i then j + 1 else j + 2) = (if j + 1 ≤ i then j + 1 else j + 1 + 1) := by
        by_cases q : j ≤ i
        · rw [if_pos q, if_pos (by omega)]
        · rw [if_neg q, if_neg (by omega)]
      rw [e]; exact nx
theorem pts_j2 (k : Nat) (hk : 500 ≤ k) {d : List S37} (h : R l) (hl : l.length ≤ 31) (hd : R d) (x p : Int) : bournelaw10_CurvePoints.j2 (k + 2) l d x p true false = some true := by
  have hn := h.2.1
  simp only [bournelaw10_CurvePoints.j2]
  have bad : bournelaw10_CurvePoints.j3 (k + 1) l d x p true true = some true := by
    simp only [bournelaw10_CurvePoints.j3]; rw [if_pos trivial]
  rw [if_neg (by decide)]
  by_cases a : p < 0
  · rw [if_pos a]; exact bad
  rw [if_neg a, wis _ (by omega)]
  by_cases b : p ≥ (l.length : Int) - 1
  · rw [if_pos b]; exact bad
  obtain ⟨i, rfl⟩ : ∃ i : Nat, p = (i : Int) := ⟨p.toNat, by omega⟩
  have hi : i + 1 < l.length := by omega
  rw [if_neg b, wis _ (by omega), show (i : Int) + 1 = ((i + 1 : Nat) : Int) from rfl, if_pos (by omega), if_pos (by omega), if_pos (by omega), if_pos (by omega), rd1, rd1, rd0, rd0]
  by_cases ny : ¬ py l (i + 1) = py l i
  · rw [if_neg ny]; exact bad
  have hy := Classical.not_not.1 ny
  have p1 := (h.1 i (by omega)).1
  have p2 := (h.1 (i + 1) hi).1
  rw [if_pos hy, wis _ (by omega)]
  by_cases hx : px l (i + 1) - px l i < 2
  · rw [decide_eq_true hx]; exact bad
  rw [decide_eq_false hx]
  simp only [bournelaw10_CurvePoints.j3]
  rw [if_neg (by decide)]
  have := pts_l1 h hl hi hy (by omega) hd x l.length k 0 (by omega) (by omega) (by omega)
  rw [if_pos (by omega)] at this
  exact this
theorem pts_l0 {d : List S37} (h : R l) (hl : l.length ≤ 31) (hd : R d) (x p u : Int) (hu : 0 ≤ u) (hu2 : u ≤ 1000) (ht : py l (l.length - 1) + u ≤ 1125899906842624) : ∀ (n k j : Nat), l.length - j = n → j ≤ l.length → n + 602 ≤ k →
    bournelaw10_CurvePoints.l0 k l d x p u true ((raise u l).take j) (j : Int) = some true := by
  have g := raise_R h hu ht
  have nl := raise_len u l
  have v := raise_V h hu ht x
  intro n
  induction n with
  | zero =>
    intro k j hn hj hk
    obtain ⟨k, rfl⟩ : ∃ m, k = m + 3 := ⟨k - 3, by omega⟩
    have e : (raise u l).take j = raise u l := List.take_of_length_le (by omega)
    have b1 := (V_low h x).1
    have b2 := (V_high h x).1
    have p1 := (h.1 0 h.2.1).1
    have p2 := (h.1 (l.length - 1) (by have := h.2.1; omega)).1
    have hn0 := h.2.1
    rw [e]
    simp only [bournelaw10_CurvePoints.l0]
    rw [if_neg (by omega), At_spec _ _ _ (by omega) (by omega), bs, At_spec _ _ _ (by omega) (by omega), bs, rb_true g, rb_true h, if_pos rfl, if_pos rfl, wis (V l x + u) (by omega), if_pos v.1]
    obtain ⟨r1, e1, i1⟩ := Under_spec l (raise u l) (k + 2) (by omega) (by omega) (by omega)
    obtain ⟨r2, e2, i2⟩ := Under_spec (raise u l) l (k + 2) (by omega) (by omega) (by omega)
    have t1 := i1.2 ⟨h, g, fun j hj => by rw [(raise_V h hu ht _).1, (val_point h j hj).1]; omega, fun j hj => by
      rw [nl] at hj
      rw [raise_px u l j hj, raise_py u l j hj, U_whole (val_point h j hj).2, (val_point h j hj).1]; omega⟩
    subst t1
    rw [e1, bs, if_pos rfl]
    by_cases c : u > 0
    · rw [if_pos c, e2, bs]
      have t2 : r2 = false := by
        cases r2 with
        | false => rfl
        | true =>
          have q := (under_all (i2.1 rfl) x).1
          omega
      subst t2
      exact pts_j2 k (by omega) h hl hd x p
    · rw [if_neg c]; exact pts_j2 k (by omega) h hl hd x p
  | succ n ih =>
    intro k j hn hj hk
    obtain ⟨k, rfl⟩ : ∃ m, k = m + 1 := ⟨k - 1, by omega⟩
    have hlt : j < l.length := by omega
    have nx := ih k (j + 1) (by omega) (by omega) (by omega)
    have lt1 : ((raise u l).take j).length < 8796093022208 := by rw [List.length_take]; omega
    have pj := (h.1 j hlt).1
    simp only [bournelaw10_CurvePoints.l0]
    rw [if_pos (by omega), if_pos (by omega), if_pos lt1, wis (((rd_T37 l (j : Int)).f1) + u) (by rw [rd1]; omega), raise_step u l j hlt, wis _ (by omega), show (j : Int) + 1 = ((j + 1 : Nat) : Int) from rfl]
    exact nx
end
theorem points (k : Nat) (hk : 900 ≤ k) (l d : List S37) (x p u : Int) : bournelaw10_CurvePoints.f k l d x p u = some true := by
  obtain ⟨k, rfl⟩ : ∃ m, k = m + 1 := ⟨k - 1, by omega⟩
  unfold bournelaw10_CurvePoints.f bournelaw10_small.f
  rw [bs]
  have bad : bournelaw10_CurvePoints.j0 (k + 1) l d x p u true true = some true := by
    simp only [bournelaw10_CurvePoints.j0]; rw [if_pos trivial]
  by_cases h0 : (l.length : Int) > 31
  · rw [if_pos h0]; exact bad
  rw [if_neg h0, right_spec l _ (by omega) (by omega), bs]
  by_cases nh : ¬ R l
  · rw [rb_false nh, if_neg (by decide)]; exact bad
  have h := Classical.not_not.1 nh
  rw [rb_true h, if_pos rfl]
  by_cases h1 : (d.length : Int) > 40
  · rw [if_pos h1]; exact bad
  rw [if_neg h1, right_spec d _ (by omega) (by omega), bs]
  by_cases nd : ¬ R d
  · rw [rb_false nd, if_neg (by decide)]; exact bad
  have hd := Classical.not_not.1 nd
  rw [rb_true hd, if_pos rfl]
  by_cases u0 : u < 0
  · rw [if_pos u0]; exact bad
  rw [if_neg u0]
  by_cases u1 : u > 1000
  · rw [if_pos u1]; exact bad
  have hn := h.2.1
  have pp := (h.1 (l.length - 1) (by omega)).1
  rw [if_neg u1, wis ((l.length : Int) - 1) (by omega), show (l.length : Int) - 1 = ((l.length - 1 : Nat) : Int) by omega, if_pos (by omega), if_pos (by omega), rd1, wis _ (by omega)]
  by_cases t : py l (l.length - 1) + u > 1125899906842624
  · rw [decide_eq_true t]; exact bad
  rw [decide_eq_false t]
  simp only [bournelaw10_CurvePoints.j0]
  rw [if_neg (by decide)]
  exact pts_l0 h (by omega) hd x p u (by omega) (by omega) (by omega) l.length k 0 (by omega) (by omega) (by omega)
theorem CurvePoints : bournelaw10_CurvePoints.Pure :=
  fun l0 l1 a2 a3 a4 _ _ _ _ _ _ _ => ⟨900, points 900 (Nat.le_refl _) l0 l1 a2 a3 a4⟩
end Go.Proofs.Ytmkekbehipaopaa.Pure
