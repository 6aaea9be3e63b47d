/- A region of two loads and two stores, whatever its order. -/
import Derived.RangeFuncNested
import Derived.RangeFuncBound
import Derived.RangeFuncCalls
import Derived.RangeFuncLeaves
import Derived.Shelf.Abstract
import Derived.Shelf.RegionOpen
import Derived.WalkKit
import Derived.OwnWalkIn
import Derived.TacticsInMore
import Derived.LoopNIn
import Derived.LoopIn
import Derived.Laws.PanicsMore
import Derived.Test.YtacpiaiohcblfaaFn0
namespace Go.Proofs.Ytacpiaiohcblfaa.Fn
open Go.RowKit Go.Shelf Go.Proofs.YtacpiaiohcblfaaW.PrintWords Go.Proofs.YtacpiaiohcblfaaW.PrintLast Go.Proofs.YtacpiaiohcblfaaW.PrintMore
attribute [local go_sem] Oper.semAt_some
attribute [local go_sem] max2_int min2_int max_two min_two max_three min_three max_four min_four
set_option maxRecDepth 100000
set_option linter.unusedVariables false
set_option maxHeartbeats 8000000 in
theorem reg13 (l m : Nat) (g1 g2 : Nat) (a b n : Int) (hne : g1 ≠ g2) (W : World) {t0 t1 t2 t3 t4 t5 t6 t9 t10 t12 t13 t14 t15 t16 t17 t18 t19 t20 t21 t22 t23 t24 t25 t26 t27 t28 t29 t30 t31 t32 t33 t34 t35 t36 t37 t38 t39 t40 t41 t42 t43 t44 t45 t46 t47 t48 t49 : Value} (Q : Exit → Act → World → Prop)
    (c1 : W.cell? ⟨g1, 0, none⟩ = some (.int .i64 a)) (f1 : W.frozen? ⟨g1, 0, none⟩ = false) (c2 : W.cell? ⟨g2, 0, none⟩ = some (.int .i64 b)) (f2 : W.frozen? ⟨g2, 0, none⟩ = false)
    (hQ : Q .normal { tmps := #[t0, t1, t2, t3, t4, t5, t6, .pointer (some ⟨g1, 0, none⟩), .pointer (some ⟨g2, 0, none⟩), t9, t10, .int .i64 n, t12, t13, t14, t15, t16, t17, t18, t19, t20, t21, t22, t23, t24, t25, t26, t27, t28, t29, t30, t31, t32, t33, t34, .int .i64 a, .int .i64 n, .int .i64 (if n < a then n else a), .int .i64 b, .int .i64 n, .int .i64 (if b < n then n else b), t41, t42, t43, t44, t45, t46, t47, t48, t49], defers := [] } ((W.setCell ⟨g1, 0, none⟩ (.int .i64 (if n < a then n else a))).setCell ⟨g2, 0, none⟩ (.int .i64 (if b < n then n else b))).drew) :
    (Code.region 13 #[{ dst := some 35, op := Op.load 3 (Operand.tmp 7), type := 3, pos := "seep.go:65", after := #[], guard := none },
    { dst := some 36, op := Op.move (Operand.tmp 11), type := 3, pos := "seep.go:65", after := #[], guard := none },
    { dst := some 37, op := Op.call { callee := Callee.builtin Builtin.min, args := #[Operand.tmp 35, Operand.tmp 36], argTypes := #[3, 3] }, type := 3, pos := "seep.go:65", after := #[{ on := 0, ground := Ground.data }, { on := 1, ground := Ground.data }], guard := none },
    { dst := some 38, op := Op.load 3 (Operand.tmp 8), type := 3, pos := "seep.go:65", after := #[], guard := none },
    { dst := some 39, op := Op.move (Operand.tmp 11), type := 3, pos := "seep.go:65", after := #[], guard := none },
    { dst := some 40, op := Op.call { callee := Callee.builtin Builtin.max, args := #[Operand.tmp 38, Operand.tmp 39], argTypes := #[3, 3] }, type := 3, pos := "seep.go:65", after := #[{ on := 3, ground := Ground.data }, { on := 4, ground := Ground.data }], guard := none },
    { dst := none, op := Op.store 3 (Operand.tmp 7) (Operand.tmp 37), type := 0, pos := "seep.go:65", after := #[{ on := 2, ground := Ground.data }, { on := 0, ground := Ground.phase }, { on := 1, ground := Ground.phase }, { on := 2, ground := Ground.phase }, { on := 3, ground := Ground.textOnly Departure.inlinedCapture }, { on := 4, ground := Ground.textOnly Departure.lateStores }, { on := 5, ground := Ground.textOnly Departure.lateStoresUnsure }], guard := none },
    { dst := none, op := Op.store 3 (Operand.tmp 8) (Operand.tmp 40), type := 0, pos := "seep.go:65", after := #[{ on := 5, ground := Ground.data }, { on := 6, ground := Ground.chain }, { on := 0, ground := Ground.phase }, { on := 1, ground := Ground.phase }, { on := 2, ground := Ground.phase }, { on := 3, ground := Ground.phase }, { on := 4, ground := Ground.phase }, { on := 5, ground := Ground.phase }, { on := 6, ground := Ground.phase }], guard := none }] true).wpIn (Fence.wide.inRound l) m Try.prog Q { tmps := #[t0, t1, t2, t3, t4, t5, t6, .pointer (some ⟨g1, 0, none⟩), .pointer (some ⟨g2, 0, none⟩), t9, t10, .int .i64 n, t12, t13, t14, t15, t16, t17, t18, t19, t20, t21, t22, t23, t24, t25, t26, t27, t28, t29, t30, t31, t32, t33, t34, t35, t36, t37, t38, t39, t40, t41, t42, t43, t44, t45, t46, t47, t48, t49], defers := [] } W := by
  have hmx : Try.prog.follows .mixedOrders = true := by kernel_rfl
  have hu3 := Try.underlying3
  have c1' : W.drew.cell? ⟨g1, 0, none⟩ = some (.int .i64 a) := c1
  have c2' : W.drew.cell? ⟨g2, 0, none⟩ = some (.int .i64 b) := c2
  have f1' : W.drew.frozen? ⟨g1, 0, none⟩ = false := f1
  have f2' : W.drew.frozen? ⟨g2, 0, none⟩ = false := f2
  have hne' : ¬ (g1 = g2) := hne
  have hne2 : ¬ (g2 = g1) := fun e => hne e.symm
  gi_region_with_o (fail)
  all_goals (try go_bits)
  all_goals exact hQ
end Go.Proofs.Ytacpiaiohcblfaa.Fn
