/- A store of a whole value into a box of one's own, as one event (a store of many fields walked cell by cell is dear to the kernel). -/
import Derived.Test.YtacpiaiohcblfaaFn0
namespace Go.Proofs.Ytacpiaiohcblfaa.Fn
open Go.RowKit Go.Proofs.YtacpiaiohcblfaaW.PrintWords Go.Proofs.YtacpiaiohcblfaaW.PrintLast Go.Proofs.YtacpiaiohcblfaaW.PrintMore
theorem setCells_whole {g : Nat} {t : TypeId} : ∀ (vs pre rest : List Value) (w : World), rest.length = vs.length → w.heap[g]? = some (.cells (pre ++ rest).toArray t (0, 0)) →
    (w.setCells g pre.length vs).heap[g]? = some (.cells (pre ++ vs).toArray t (0, 0))
  | [], pre, rest, w, hl, h => by
    obtain rfl : rest = [] := List.eq_nil_of_length_eq_zero (by simpa using hl)
    exact h
  | v :: r, pre, [], w, hl, h => by simp at hl
  | v :: r, pre, x :: rest, w, hl, h => by
    have h1 : (w.setCell ⟨g, pre.length, none⟩ v).heap[g]? = some (.cells (pre ++ [v] ++ rest).toArray t (0, 0)) := by
      refine blk_put h pre.length v ?_
      rw [List.setIfInBounds_toArray, List.set_append_right _ _ (Nat.le_refl _), Nat.sub_self]
      simp
    have h2 := setCells_whole r (pre ++ [v]) rest _ (by simpa using hl) h1
    rw [List.length_append] at h2
    show ((w.setCell ⟨g, pre.length, none⟩ v).setCells g (pre.length + 1) r).heap[g]? = _
    rw [show pre ++ v :: r = pre ++ [v] ++ r by simp]
    exact h2
theorem below_setCells {B : Nat} {w0 : World} {g : Nat} (hg : B ≤ g) : ∀ (vs : List Value) (o : Nat) {w : World}, Below B w0 w → Below B w0 (w.setCells g o vs)
  | [], _, _, h => h
  | v :: r, o, _, h => below_setCells hg r (o + 1) (h.setCell (p := ⟨g, o, none⟩) hg v)
section
variable {P : Program} {ops : Array Oper} {rest : List Oper} {o : Oper} {a : Act} {Q : Exit → Act → World → Prop}
theorem gate_store {W : World} (t : TypeId) (p : Tmp) {x : Operand} (_ho : o.op = .store t (.tmp p) x) (h : wpList P ops Q (o :: rest) a W) : wpList P ops Q (o :: rest) a W := h
theorem box_store {w0 W : World} {base : Nat} (hgd : o.guard = none) (hN : o.dst = none) {t : TypeId} {p x : Operand} (ho : o.op = .store t p x) {g : Nat} {e : TypeId} {cs cs' : Array Value} (hh : W.heap[g]? = some (.cells cs e (0, 0)))
    (haddr : a.eval p = .pointer (some ⟨g, 0, none⟩)) {u : Value} (hx : a.eval x = u) (hu : u.cells.toList = cs'.toList) (ht : (P.info? t).map (·.size) = some cs'.toList.length) (hl : cs.toList.length = cs'.toList.length)
    (h1 : ∀ q ∈ cs'.toList, q.oneCell' = true) (HB : Below base w0 W) (hb : base ≤ g)
    (h : ∀ w1, w1.heap[g]? = some (.cells cs' e (0, 0)) → Below base w0 w1 → (∀ k, k ≠ g → w1.heap[k]? = W.heap[k]?) → wpList P ops Q rest a w1) : wpList P ops Q (o :: rest) a W := by
  have hrun := run_store_run (P := P) (o := 0) t u cs'.toList hh hu ht (by rw [← hl]; simp) h1
  refine wpList_plain hgd fun K hK => ?_
  unfold Oper.wp execOp
  simp only [ho, haddr, hx, Sem.run_bind, Sem.run_pure, Result.andThen_ok, hrun]
  show K (a.put o.dst undef) _
  rw [hN]
  refine hK a _ (h _ ?_ ?_ (fun k hk => setCells_far _ 0 k hk))
  · exact setCells_whole cs'.toList [] cs.toList W hl (by simpa using hh)
  · exact below_setCells hb cs'.toList 0 HB
theorem gate_load {W : World} (t : TypeId) (p : Tmp) (_ho : o.op = .load t (.tmp p)) (h : wpList P ops Q (o :: rest) a W) : wpList P ops Q (o :: rest) a W := h
theorem wanted_none {y : Nat → Option Bool} (h : o.guard = none) : Region.wanted o y = true := by simp [Region.wanted, h]
theorem box_load {W : World} (hw : Region.wanted o (yielded ops a.tmps) = true) {t : TypeId} {p : Operand} (ho : o.op = .load t p) {g : Nat} {e : TypeId} {cs : Array Value} (hh : W.heap[g]? = some (.cells cs e (0, 0))) (hx : a.eval p = .pointer (some ⟨g, 0, none⟩))
    {d : TypeDesc} (hu : P.underlying t = some d) (hd : (match d with | .struct _ | .array _ _ => true | _ => false) = true) (hi : (P.info? t).map (·.size) = some cs.size)
    (h : wpList P ops Q rest (a.put o.dst (.agg cs)) W) : wpList P ops Q (o :: rest) a W :=
  wpList_step fun _ hK => by rw [if_pos hw]; exact wp_load_row t p ho g hx e cs (0, 0) d hh hu hd hi (hK _ _ h)
end
/-- The cells of block g from i on. -/
def CellsAt (w : World) (g : Nat) : Nat → List Value → Prop
  | _, [] => True
  | i, v :: r => w.cell? ⟨g, i, none⟩ = some v ∧ CellsAt w g (i + 1) r
theorem CellsAt.get {w : World} {g : Nat} : ∀ {l : List Value} {i j : Nat} {v : Value}, CellsAt w g i l → l[j]? = some v → w.cell? ⟨g, i + j, none⟩ = some v
  | [], _, _, _, _, h => by simp at h
  | u :: r, i, 0, v, hc, h => by
    have e : u = v := by simpa using h
    rw [← e]; exact hc.1
  | u :: r, i, j + 1, v, hc, h => by
    have := CellsAt.get (l := r) (j := j) hc.2 (by simpa using h)
    rwa [show i + (j + 1) = i + 1 + j by omega]
theorem run_load_cells {P : Program} {a : Act} {o : Oper} {t : TypeId} {p : Operand} (ho : o.op = .load t p) {g : Nat} {w : World} {cs : List Value} (hx : a.eval p = .pointer (some ⟨g, 0, none⟩)) {d : TypeDesc} (hu : P.underlying t = some d)
    (hd : (match d with | .struct _ | .array _ _ => true | _ => false) = true) (hi : (P.info? t).map (·.size) = some cs.length) (hc : CellsAt w g 0 cs) : (execOp a.eval o).run P w = .ok (.value (.agg cs.toArray)) w := by
  have hl : (loadCells ⟨g, 0, none⟩ cs.length).run P w = .ok cs.toArray w :=
    run_loadCells_list (P := P) w ⟨g, 0, none⟩ cs (fun j v hv => by
      have hadd : (⟨g, 0, none⟩ : Addr).add j = ⟨g, j, none⟩ := by unfold Addr.add; split <;> simp_all
      rw [hadd]
      have := hc.get hv
      rwa [Nat.zero_add] at this)
  obtain ⟨i, hq, hs⟩ := Option.map_eq_some_iff.1 hi
  have hagg : (isAgg t).run P w = .ok true w := by
    unfold isAgg
    rw [Sem.run_bind, run_underlying hu w]
    cases d <;> simp_all
  unfold execOp
  simp only [ho, hx]
  simp [Instr.loadAt, Instr.sureAddr, loadVar, Sem.run_bind, hagg, sizeOf, typeInfo, hq, hs, hl]
theorem load18 {P : Program} {a : Act} {o : Oper} {t : TypeId} {p : Operand} (ho : o.op = .load t p) {g : Nat} {w : World} (hx : a.eval p = .pointer (some ⟨g, 0, none⟩)) {d : TypeDesc} (hu : P.underlying t = some d)
    (hd : (match d with | .struct _ | .array _ _ => true | _ => false) = true) (hi : (P.info? t).map (·.size) = some 18) {v0 v1 v2 v3 v4 v5 v6 v7 v8 v9 v10 v11 v12 v13 v14 v15 v16 v17 : Value}
    (h0 : w.cell? ⟨g, 0, none⟩ = some v0) (h1 : w.cell? ⟨g, 1, none⟩ = some v1) (h2 : w.cell? ⟨g, 2, none⟩ = some v2) (h3 : w.cell? ⟨g, 3, none⟩ = some v3) (h4 : w.cell? ⟨g, 4, none⟩ = some v4) (h5 : w.cell? ⟨g, 5, none⟩ = some v5) (h6 : w.cell? ⟨g, 6, none⟩ = some v6) (h7 : w.cell? ⟨g, 7, none⟩ = some v7) (h8 : w.cell? ⟨g, 8, none⟩ = some v8) (h9 : w.cell? ⟨g, 9, none⟩ = some v9) (h10 : w.cell? ⟨g, 10, none⟩ = some v10) (h11 : w.cell? ⟨g, 11, none⟩ = some v11) (h12 : w.cell? ⟨g, 12, none⟩ = some v12) (h13 : w.cell? ⟨g, 13, none⟩ = some v13) (h14 : w.cell? ⟨g, 14, none⟩ = some v14) (h15 : w.cell? ⟨g, 15, none⟩ = some v15) (h16 : w.cell? ⟨g, 16, none⟩ = some v16) (h17 : w.cell? ⟨g, 17, none⟩ = some v17) :
    (execOp a.eval o).run P w = .ok (.value (.agg #[v0, v1, v2, v3, v4, v5, v6, v7, v8, v9, v10, v11, v12, v13, v14, v15, v16, v17])) w :=
  run_load_cells (cs := [v0, v1, v2, v3, v4, v5, v6, v7, v8, v9, v10, v11, v12, v13, v14, v15, v16, v17]) ho hx hu hd hi ⟨h0, h1, h2, h3, h4, h5, h6, h7, h8, h9, h10, h11, h12, h13, h14, h15, h16, h17, trivial⟩
end Go.Proofs.Ytacpiaiohcblfaa.Fn
