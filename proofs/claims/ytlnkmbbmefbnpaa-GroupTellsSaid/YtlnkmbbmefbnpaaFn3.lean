-- written by this session's program myprint.py out of the translation; Lean checks it
import Derived.Test.YtlnkmbbmefbnpaaFn0
import Derived.Test.YtlnkmbbmefbnpaaFn2
namespace Go.Proofs.Ytlnkmbbmefbnpaa.Fn
open Go.RowKit Go.Proofs.YtlnkmbbmefbnpaaW.PrintWords Go.Proofs.YtlnkmbbmefbnpaaW.PrintLast Go.Proofs.YtlnkmbbmefbnpaaW.PrintMore
attribute [local go_sem] max2_int min2_int max_two min_two max_three min_three max_four min_four   -- for this text's walks alone
set_option linter.unusedVariables false
set_option linter.unusedSimpArgs false

/-! ### bournelaw04_small: function 8 -/
mutual
def bournelaw04_small.j0 : Nat → Int → Bool → Bool → Bool → Option (Bool)
  | 0, _, _, _, _ => none
  | k + 1, x1, x2, x4, x7 => (group_In.f k 4).bind fun t138 => (if t138 = true then ((group_In.f k 1).bind fun t139 => (if t139 = true then ((group_In.f k 2305843009213691578).bind fun t140 => (if t140 = true then (bournelaw04_small.j1 k x1 x2 x4 x7 false) else ((group_In.f k 0).bind fun t141 => (if t141 = true then (bournelaw04_small.j1 k x1 x2 x4 x7 false) else ((group_In.f k 2305843009213691583).bind fun t142 => (bournelaw04_small.j1 k x1 x2 x4 x7 (!t142))))))) else (bournelaw04_small.j1 k x1 x2 x4 x7 false))) else (bournelaw04_small.j1 k x1 x2 x4 x7 false))
def bournelaw04_small.j1 : Nat → Int → Bool → Bool → Bool → Bool → Option (Bool)
  | 0, _, _, _, _, _ => none
  | k + 1, x1, x2, x4, x7, x8 => (group_Mul.f k 2305843009213691578 2305843009213691578).bind fun t143 => (if t143 = 1 then ((group_Mul.f k (-1) 3).bind fun t144 => (if t144 = 2305843009213691576 then (if x1 = 1152921504606845790 then (if x2 = true then (if x4 = true then (some false) else (if x7 = true then (if x8 = true then ((group_AddQ.f 1152921504606845788 2).bind fun t145 => (if t145 = 1 then ((group_SubQ.f 0 1).bind fun t146 => (if t146 = 1152921504606845788 then ((group_MulQ.f k 1152921504606845788 1152921504606845788).bind fun t147 => (if t147 = 1 then (some true) else (some false))) else (some false))) else (some false))) else (some false)) else (some false))) else (some false)) else (some false)) else (some false))) else (some false))
end
def bournelaw04_small.f (k : Nat)  : Option (Bool) := (group_Inv.f k 2).bind fun bt127 => ((group_Inv.f k 2305843009213691579).bind fun bt129 => ((group_Inv.f k 4).bind fun bt131 => ((group_Exp.f k 4 3).bind fun t133 => (if t133 = 64 then ((group_Exp.f k 0 0).bind fun t134 => (if t134 = 1 then ((group_Exp.f k 0 (-1152921504606845789)).bind fun t135 => (if t135 = 1 then (if bt131.2 = true then ((group_Exp.f k 4 (-1)).bind fun t136 => (if t136 = bt131.1 then ((group_Exp.f k 2 1152921504606845789).bind fun t137 => (bournelaw04_small.j0 k bt127.1 bt127.2 bt129.2 (t137 == 2305843009213691578))) else (bournelaw04_small.j0 k bt127.1 bt127.2 bt129.2 false))) else (bournelaw04_small.j0 k bt127.1 bt127.2 bt129.2 false)) else (bournelaw04_small.j0 k bt127.1 bt127.2 bt129.2 false))) else (bournelaw04_small.j0 k bt127.1 bt127.2 bt129.2 false))) else (bournelaw04_small.j0 k bt127.1 bt127.2 bt129.2 false)))))
theorem bournelaw04_small.mono_l : ∀ k, (∀ y0 y1 y2 y3, LeO (bournelaw04_small.j0 k y0 y1 y2 y3) (bournelaw04_small.j0 (k + 1) y0 y1 y2 y3)) ∧ (∀ y0 y1 y2 y3 y4, LeO (bournelaw04_small.j1 k y0 y1 y2 y3 y4) (bournelaw04_small.j1 (k + 1) y0 y1 y2 y3 y4))
  | 0 => ⟨fun _ _ _ _ r h => by simp [bournelaw04_small.j0] at h, fun _ _ _ _ _ r h => by simp [bournelaw04_small.j1] at h⟩
  | k + 1 => by
    obtain ⟨ih0, ih1⟩ := bournelaw04_small.mono_l k
    refine ⟨?_, ?_⟩
    · intro y0 y1 y2 y3
      unfold bournelaw04_small.j0
      repeat' first
      | (with_reducible exact ih0 _ _ _ _)
      | (with_reducible exact ih1 _ _ _ _ _)
      | (with_reducible exact group_Exp.mono _ _ _)
      | (with_reducible exact group_In.mono _ _)
      | (with_reducible exact group_Inv.mono _ _)
      | (with_reducible exact group_Mul.mono _ _ _)
      | (with_reducible exact group_MulQ.mono _ _ _)
      | (with_reducible exact LeO.refl _)
      | (with_reducible exact LeO.none _)
      | (with_reducible refine LeO.ite ?_ ?_)
      | (with_reducible refine LeO.bind ?_ (fun _ => ?_))
      | exact ih0 _ _ _ _
      | exact ih1 _ _ _ _ _
      | exact group_Exp.mono _ _ _
      | exact group_In.mono _ _
      | exact group_Inv.mono _ _
      | exact group_Mul.mono _ _ _
      | exact group_MulQ.mono _ _ _
      | exact LeO.none _
      | refine LeO.ite ?_ ?_
      | refine LeO.bind ?_ (fun _ => ?_)
    · intro y0 y1 y2 y3 y4
      unfold bournelaw04_small.j1
      repeat' first
      | (with_reducible exact ih0 _ _ _ _)
      | (with_reducible exact ih1 _ _ _ _ _)
      | (with_reducible exact group_Exp.mono _ _ _)
      | (with_reducible exact group_In.mono _ _)
      | (with_reducible exact group_Inv.mono _ _)
      | (with_reducible exact group_Mul.mono _ _ _)
      | (with_reducible exact group_MulQ.mono _ _ _)
      | (with_reducible exact LeO.refl _)
      | (with_reducible exact LeO.none _)
      | (with_reducible refine LeO.ite ?_ ?_)
      | (with_reducible refine LeO.bind ?_ (fun _ => ?_))
      | exact ih0 _ _ _ _
      | exact ih1 _ _ _ _ _
      | exact group_Exp.mono _ _ _
      | exact group_In.mono _ _
      | exact group_Inv.mono _ _
      | exact group_Mul.mono _ _ _
      | exact group_MulQ.mono _ _ _
      | exact LeO.none _
      | refine LeO.ite ?_ ?_
      | refine LeO.bind ?_ (fun _ => ?_)
theorem bournelaw04_small.mono : ∀ k, LeO (bournelaw04_small.f k ) (bournelaw04_small.f (k + 1) ) := by
  intro  k
  obtain ⟨ih0, ih1⟩ := bournelaw04_small.mono_l k
  unfold bournelaw04_small.f
  repeat' first
      | (with_reducible exact ih0 _ _ _ _)
      | (with_reducible exact ih1 _ _ _ _ _)
      | (with_reducible exact group_Exp.mono _ _ _)
      | (with_reducible exact group_In.mono _ _)
      | (with_reducible exact group_Inv.mono _ _)
      | (with_reducible exact group_Mul.mono _ _ _)
      | (with_reducible exact group_MulQ.mono _ _ _)
      | (with_reducible exact LeO.refl _)
      | (with_reducible exact LeO.none _)
      | (with_reducible refine LeO.ite ?_ ?_)
      | (with_reducible refine LeO.bind ?_ (fun _ => ?_))
      | exact ih0 _ _ _ _
      | exact ih1 _ _ _ _ _
      | exact group_Exp.mono _ _ _
      | exact group_In.mono _ _
      | exact group_Inv.mono _ _
      | exact group_Mul.mono _ _ _
      | exact group_MulQ.mono _ _ _
      | exact LeO.none _
      | refine LeO.ite ?_ ?_
      | refine LeO.bind ?_ (fun _ => ?_)
set_option maxHeartbeats 8000000 in
set_option maxRecDepth 100000 in
theorem bournelaw04_small.calls (k : Nat)  (r : Bool) (w : World) (h : bournelaw04_small.f k  = some r) :
    Calls Try.prog 8 #[] w fun e w' => e = .returned (.bool r) ∧ Drawn0 w w' := by
  have H : ((group_Inv.f k 2).bind fun bt127 => ((group_Inv.f k 2305843009213691579).bind fun bt129 => ((group_Inv.f k 4).bind fun bt131 => ((group_Exp.f k 4 3).bind fun t133 => (if t133 = 64 then ((group_Exp.f k 0 0).bind fun t134 => (if t134 = 1 then ((group_Exp.f k 0 (-1152921504606845789)).bind fun t135 => (if t135 = 1 then (if bt131.2 = true then ((group_Exp.f k 4 (-1)).bind fun t136 => (if t136 = bt131.1 then ((group_Exp.f k 2 1152921504606845789).bind fun t137 => (bournelaw04_small.j0 k bt127.1 bt127.2 bt129.2 (t137 == 2305843009213691578))) else (bournelaw04_small.j0 k bt127.1 bt127.2 bt129.2 false))) else (bournelaw04_small.j0 k bt127.1 bt127.2 bt129.2 false)) else (bournelaw04_small.j0 k bt127.1 bt127.2 bt129.2 false))) else (bournelaw04_small.j0 k bt127.1 bt127.2 bt129.2 false))) else (bournelaw04_small.j0 k bt127.1 bt127.2 bt129.2 false)))))) = some r := h
  clear h
  replace H := Option.bind_eq_some_iff.mp H
  obtain ⟨⟨t127, t128⟩, A10, H⟩ := H
  replace H : ((group_Inv.f k 2305843009213691579).bind fun bt129 => ((group_Inv.f k 4).bind fun bt131 => ((group_Exp.f k 4 3).bind fun t133 => (if t133 = 64 then ((group_Exp.f k 0 0).bind fun t134 => (if t134 = 1 then ((group_Exp.f k 0 (-1152921504606845789)).bind fun t135 => (if t135 = 1 then (if bt131.2 = true then ((group_Exp.f k 4 (-1)).bind fun t136 => (if t136 = bt131.1 then ((group_Exp.f k 2 1152921504606845789).bind fun t137 => (bournelaw04_small.j0 k t127 t128 bt129.2 (t137 == 2305843009213691578))) else (bournelaw04_small.j0 k t127 t128 bt129.2 false))) else (bournelaw04_small.j0 k t127 t128 bt129.2 false)) else (bournelaw04_small.j0 k t127 t128 bt129.2 false))) else (bournelaw04_small.j0 k t127 t128 bt129.2 false))) else (bournelaw04_small.j0 k t127 t128 bt129.2 false))))) = some r := H
  have A1 := Aside0.mk A10
  clear A10
  replace H := Option.bind_eq_some_iff.mp H
  obtain ⟨⟨t129, t130⟩, A20, H⟩ := H
  replace H : ((group_Inv.f k 4).bind fun bt131 => ((group_Exp.f k 4 3).bind fun t133 => (if t133 = 64 then ((group_Exp.f k 0 0).bind fun t134 => (if t134 = 1 then ((group_Exp.f k 0 (-1152921504606845789)).bind fun t135 => (if t135 = 1 then (if bt131.2 = true then ((group_Exp.f k 4 (-1)).bind fun t136 => (if t136 = bt131.1 then ((group_Exp.f k 2 1152921504606845789).bind fun t137 => (bournelaw04_small.j0 k t127 t128 t130 (t137 == 2305843009213691578))) else (bournelaw04_small.j0 k t127 t128 t130 false))) else (bournelaw04_small.j0 k t127 t128 t130 false)) else (bournelaw04_small.j0 k t127 t128 t130 false))) else (bournelaw04_small.j0 k t127 t128 t130 false))) else (bournelaw04_small.j0 k t127 t128 t130 false)))) = some r := H
  have A2 := Aside0.mk A20
  clear A20
  replace H := Option.bind_eq_some_iff.mp H
  obtain ⟨⟨t131, t132⟩, A30, H⟩ := H
  replace H : ((group_Exp.f k 4 3).bind fun t133 => (if t133 = 64 then ((group_Exp.f k 0 0).bind fun t134 => (if t134 = 1 then ((group_Exp.f k 0 (-1152921504606845789)).bind fun t135 => (if t135 = 1 then (if t132 = true then ((group_Exp.f k 4 (-1)).bind fun t136 => (if t136 = t131 then ((group_Exp.f k 2 1152921504606845789).bind fun t137 => (bournelaw04_small.j0 k t127 t128 t130 (t137 == 2305843009213691578))) else (bournelaw04_small.j0 k t127 t128 t130 false))) else (bournelaw04_small.j0 k t127 t128 t130 false)) else (bournelaw04_small.j0 k t127 t128 t130 false))) else (bournelaw04_small.j0 k t127 t128 t130 false))) else (bournelaw04_small.j0 k t127 t128 t130 false))) = some r := H
  have A3 := Aside0.mk A30
  clear A30
  have HC4 := Aside0.mk H
  clear H
  go_enter Try.func8, Try.ntmps8
  go_upto_region 4 with (first | ((with_reducible refine gate_callee (f := 9) rfl ?_); refine goesL_ (some 10) rfl rfl Try.func9 (by kernel_rfl) rfl #[.int .i64 2] rfl (by (try simp only [List.map_toArray, List.map_cons, List.map_nil]); first | done | rfl | (simp only [List.length_drop, List.length_take]; rfl)) ?_; (with_reducible refine (group_Inv.calls k 2 t127 t128 _ A1.out).mono ?_); rintro e w' ⟨rfl, ⟨nd, rfl⟩⟩; refine ⟨_, rfl, ?_⟩) | ((with_reducible refine gate_callee (f := 9) rfl ?_); refine goesL_ (some 14) rfl rfl Try.func9 (by kernel_rfl) rfl #[.int .i64 2305843009213691579] rfl (by (try simp only [List.map_toArray, List.map_cons, List.map_nil]); first | done | rfl | (simp only [List.length_drop, List.length_take]; rfl)) ?_; (with_reducible refine (group_Inv.calls k 2305843009213691579 t129 t130 _ A2.out).mono ?_); rintro e w' ⟨rfl, ⟨nd, rfl⟩⟩; refine ⟨_, rfl, ?_⟩) | ((with_reducible refine gate_callee (f := 9) rfl ?_); refine goesL_ (some 18) rfl rfl Try.func9 (by kernel_rfl) rfl #[.int .i64 4] rfl (by (try simp only [List.map_toArray, List.map_cons, List.map_nil]); first | done | rfl | (simp only [List.length_drop, List.length_take]; rfl)) ?_; (with_reducible refine (group_Inv.calls k 4 t131 t132 _ A3.out).mono ?_); rintro e w' ⟨rfl, ⟨nd, rfl⟩⟩; refine ⟨_, rfl, ?_⟩))
  (try simp only [Act.put, List.setIfInBounds_toArray, List.set_cons_zero, List.set_cons_succ])
  go_cut [7] (fun v7 wc => ∃ (kq : Nat) (x7_3 : Bool), v7 = .bool x7_3 ∧ Aside0 (bournelaw04_small.j0 kq t127 t128 t130 x7_3 = some r) ∧ Aside0 (kq ≤ k) ∧ Drawn0 w wc)
  case first =>
    have H := HC4.out
    clear HC4
    replace H := Option.bind_eq_some_iff.mp H
    obtain ⟨t133, A50, H⟩ := H
    replace H : (if t133 = 64 then ((group_Exp.f k 0 0).bind fun t134 => (if t134 = 1 then ((group_Exp.f k 0 (-1152921504606845789)).bind fun t135 => (if t135 = 1 then (if t132 = true then ((group_Exp.f k 4 (-1)).bind fun t136 => (if t136 = t131 then ((group_Exp.f k 2 1152921504606845789).bind fun t137 => (bournelaw04_small.j0 k t127 t128 t130 (t137 == 2305843009213691578))) else (bournelaw04_small.j0 k t127 t128 t130 false))) else (bournelaw04_small.j0 k t127 t128 t130 false)) else (bournelaw04_small.j0 k t127 t128 t130 false))) else (bournelaw04_small.j0 k t127 t128 t130 false))) else (bournelaw04_small.j0 k t127 t128 t130 false)) = some r := H
    have A5 := Aside0.mk A50
    clear A50
    by_cases c6 : t133 = 64
    · rw [if_pos c6] at H
      have c6b0 : (t133 == 64) = true := beq_iff_eq.mpr c6
      have c6b1 : (t133 != 64) = false := bne_eq_false_iff_eq.mpr c6
      clear c6
      (first | rw [c6b0] | (simp only [i64_w, i32_w]; rw [c6b0]) | skip)
      replace H := Option.bind_eq_some_iff.mp H
      obtain ⟨t134, A70, H⟩ := H
      replace H : (if t134 = 1 then ((group_Exp.f k 0 (-1152921504606845789)).bind fun t135 => (if t135 = 1 then (if t132 = true then ((group_Exp.f k 4 (-1)).bind fun t136 => (if t136 = t131 then ((group_Exp.f k 2 1152921504606845789).bind fun t137 => (bournelaw04_small.j0 k t127 t128 t130 (t137 == 2305843009213691578))) else (bournelaw04_small.j0 k t127 t128 t130 false))) else (bournelaw04_small.j0 k t127 t128 t130 false)) else (bournelaw04_small.j0 k t127 t128 t130 false))) else (bournelaw04_small.j0 k t127 t128 t130 false)) = some r := H
      have A7 := Aside0.mk A70
      clear A70
      by_cases c8 : t134 = 1
      · rw [if_pos c8] at H
        have c8b0 : (t134 == 1) = true := beq_iff_eq.mpr c8
        have c8b1 : (t134 != 1) = false := bne_eq_false_iff_eq.mpr c8
        clear c8
        replace H := Option.bind_eq_some_iff.mp H
        obtain ⟨t135, A90, H⟩ := H
        replace H : (if t135 = 1 then (if t132 = true then ((group_Exp.f k 4 (-1)).bind fun t136 => (if t136 = t131 then ((group_Exp.f k 2 1152921504606845789).bind fun t137 => (bournelaw04_small.j0 k t127 t128 t130 (t137 == 2305843009213691578))) else (bournelaw04_small.j0 k t127 t128 t130 false))) else (bournelaw04_small.j0 k t127 t128 t130 false)) else (bournelaw04_small.j0 k t127 t128 t130 false)) = some r := H
        have A9 := Aside0.mk A90
        clear A90
        by_cases c10 : t135 = 1
        · rw [if_pos c10] at H
          have c10b0 : (t135 == 1) = true := beq_iff_eq.mpr c10
          have c10b1 : (t135 != 1) = false := bne_eq_false_iff_eq.mpr c10
          clear c10
          by_cases c11 : t132 = true
          · subst c11
            have H1 : ((group_Exp.f k 4 (-1)).bind fun t136 => (if t136 = t131 then ((group_Exp.f k 2 1152921504606845789).bind fun t137 => (bournelaw04_small.j0 k t127 t128 t130 (t137 == 2305843009213691578))) else (bournelaw04_small.j0 k t127 t128 t130 false))) = some r := by rw [if_pos rfl] at H; exact H
            clear H
            have H := H1
            clear H1
            replace H := Option.bind_eq_some_iff.mp H
            obtain ⟨t136, A120, H⟩ := H
            replace H : (if t136 = t131 then ((group_Exp.f k 2 1152921504606845789).bind fun t137 => (bournelaw04_small.j0 k t127 t128 t130 (t137 == 2305843009213691578))) else (bournelaw04_small.j0 k t127 t128 t130 false)) = some r := H
            have A12 := Aside0.mk A120
            clear A120
            by_cases c13 : t136 = t131
            · rw [if_pos c13] at H
              have c13b0 : (t136 == t131) = true := beq_iff_eq.mpr c13
              have c13b1 : (t136 != t131) = false := bne_eq_false_iff_eq.mpr c13
              clear c13
              replace H := Option.bind_eq_some_iff.mp H
              obtain ⟨t137, A140, H⟩ := H
              replace H : (bournelaw04_small.j0 k t127 t128 t130 (t137 == 2305843009213691578)) = some r := H
              have A14 := Aside0.mk A140
              clear A140
              have H' := Aside0.mk H
              clear H
              go_wp2_with (first | ((with_reducible refine gate_callee (f := 13) rfl ?_); refine goesL_ (some 21) rfl rfl Try.func13 (by kernel_rfl) rfl #[.int .i64 4, .int .i64 3] rfl (by (try simp only [List.map_toArray, List.map_cons, List.map_nil]); first | done | rfl | (simp only [List.length_drop, List.length_take]; rfl)) ?_; (with_reducible refine (group_Exp.calls k 4 3 t133 _ A5.out).mono ?_); rintro e w' ⟨rfl, ⟨nd, rfl⟩⟩; refine ⟨_, rfl, ?_⟩) | (go_at_call 13; (with_reducible refine (group_Exp.calls k 0 0 t134 _ A7.out).mono ?_); rintro e w' ⟨rfl, ⟨nd, rfl⟩⟩; (try clear A7)) | (go_at_call 13; (with_reducible refine (group_Exp.calls k 0 (-1152921504606845789) t135 _ A9.out).mono ?_); rintro e w' ⟨rfl, ⟨nd, rfl⟩⟩; (try clear A9)) | (go_at_call 13; (with_reducible refine (group_Exp.calls k 4 (-1) t136 _ A12.out).mono ?_); rintro e w' ⟨rfl, ⟨nd, rfl⟩⟩; (try clear A12)) | (go_at_call 13; (with_reducible refine (group_Exp.calls k 2 1152921504606845789 t137 _ A14.out).mono ?_); rintro e w' ⟨rfl, ⟨nd, rfl⟩⟩; (try clear A14)))
              go_meet
              case rel => exact ⟨_, ((t137 == 2305843009213691578)), (by first | rfl | (simp; done) | (simp [*]; done)), H', ⟨by first | omega | exact Nat.le_refl _⟩, by repeat (first | exact Drawn0.refl _ | apply Drawn0.step)⟩
            · rw [if_neg c13] at H
              have c13b0 : (t136 == t131) = false := beq_eq_false_iff_ne.mpr c13
              have c13b1 : (t136 != t131) = true := bne_iff_ne.mpr c13
              have H' := Aside0.mk H
              clear H
              go_wp2_with (first | ((with_reducible refine gate_callee (f := 13) rfl ?_); refine goesL_ (some 21) rfl rfl Try.func13 (by kernel_rfl) rfl #[.int .i64 4, .int .i64 3] rfl (by (try simp only [List.map_toArray, List.map_cons, List.map_nil]); first | done | rfl | (simp only [List.length_drop, List.length_take]; rfl)) ?_; (with_reducible refine (group_Exp.calls k 4 3 t133 _ A5.out).mono ?_); rintro e w' ⟨rfl, ⟨nd, rfl⟩⟩; refine ⟨_, rfl, ?_⟩) | (go_at_call 13; (with_reducible refine (group_Exp.calls k 0 0 t134 _ A7.out).mono ?_); rintro e w' ⟨rfl, ⟨nd, rfl⟩⟩; (try clear A7)) | (go_at_call 13; (with_reducible refine (group_Exp.calls k 0 (-1152921504606845789) t135 _ A9.out).mono ?_); rintro e w' ⟨rfl, ⟨nd, rfl⟩⟩; (try clear A9)) | (go_at_call 13; (with_reducible refine (group_Exp.calls k 4 (-1) t136 _ A12.out).mono ?_); rintro e w' ⟨rfl, ⟨nd, rfl⟩⟩; (try clear A12)))
              go_meet
              case rel => exact ⟨_, (false), (by first | rfl | (simp; done) | (simp [*]; done)), H', ⟨by first | omega | exact Nat.le_refl _⟩, by repeat (first | exact Drawn0.refl _ | apply Drawn0.step)⟩
          · replace c11 := Bool.eq_false_iff.mpr c11
            subst c11
            have H1 : (bournelaw04_small.j0 k t127 t128 t130 false) = some r := by rw [if_neg (show ¬ (false = true) by decide)] at H; exact H
            clear H
            have H := H1
            clear H1
            have H' := Aside0.mk H
            clear H
            go_wp2_with (first | ((with_reducible refine gate_callee (f := 13) rfl ?_); refine goesL_ (some 21) rfl rfl Try.func13 (by kernel_rfl) rfl #[.int .i64 4, .int .i64 3] rfl (by (try simp only [List.map_toArray, List.map_cons, List.map_nil]); first | done | rfl | (simp only [List.length_drop, List.length_take]; rfl)) ?_; (with_reducible refine (group_Exp.calls k 4 3 t133 _ A5.out).mono ?_); rintro e w' ⟨rfl, ⟨nd, rfl⟩⟩; refine ⟨_, rfl, ?_⟩) | (go_at_call 13; (with_reducible refine (group_Exp.calls k 0 0 t134 _ A7.out).mono ?_); rintro e w' ⟨rfl, ⟨nd, rfl⟩⟩; (try clear A7)) | (go_at_call 13; (with_reducible refine (group_Exp.calls k 0 (-1152921504606845789) t135 _ A9.out).mono ?_); rintro e w' ⟨rfl, ⟨nd, rfl⟩⟩; (try clear A9)))
            go_meet
            case rel => exact ⟨_, (false), (by first | rfl | (simp; done) | (simp [*]; done)), H', ⟨by first | omega | exact Nat.le_refl _⟩, by repeat (first | exact Drawn0.refl _ | apply Drawn0.step)⟩
        · rw [if_neg c10] at H
          have c10b0 : (t135 == 1) = false := beq_eq_false_iff_ne.mpr c10
          have c10b1 : (t135 != 1) = true := bne_iff_ne.mpr c10
          have H' := Aside0.mk H
          clear H
          go_wp2_with (first | ((with_reducible refine gate_callee (f := 13) rfl ?_); refine goesL_ (some 21) rfl rfl Try.func13 (by kernel_rfl) rfl #[.int .i64 4, .int .i64 3] rfl (by (try simp only [List.map_toArray, List.map_cons, List.map_nil]); first | done | rfl | (simp only [List.length_drop, List.length_take]; rfl)) ?_; (with_reducible refine (group_Exp.calls k 4 3 t133 _ A5.out).mono ?_); rintro e w' ⟨rfl, ⟨nd, rfl⟩⟩; refine ⟨_, rfl, ?_⟩) | (go_at_call 13; (with_reducible refine (group_Exp.calls k 0 0 t134 _ A7.out).mono ?_); rintro e w' ⟨rfl, ⟨nd, rfl⟩⟩; (try clear A7)) | (go_at_call 13; (with_reducible refine (group_Exp.calls k 0 (-1152921504606845789) t135 _ A9.out).mono ?_); rintro e w' ⟨rfl, ⟨nd, rfl⟩⟩; (try clear A9)))
          go_meet
          case rel => exact ⟨_, (false), (by first | rfl | (simp; done) | (simp [*]; done)), H', ⟨by first | omega | exact Nat.le_refl _⟩, by repeat (first | exact Drawn0.refl _ | apply Drawn0.step)⟩
      · rw [if_neg c8] at H
        have c8b0 : (t134 == 1) = false := beq_eq_false_iff_ne.mpr c8
        have c8b1 : (t134 != 1) = true := bne_iff_ne.mpr c8
        have H' := Aside0.mk H
        clear H
        go_wp2_with (first | ((with_reducible refine gate_callee (f := 13) rfl ?_); refine goesL_ (some 21) rfl rfl Try.func13 (by kernel_rfl) rfl #[.int .i64 4, .int .i64 3] rfl (by (try simp only [List.map_toArray, List.map_cons, List.map_nil]); first | done | rfl | (simp only [List.length_drop, List.length_take]; rfl)) ?_; (with_reducible refine (group_Exp.calls k 4 3 t133 _ A5.out).mono ?_); rintro e w' ⟨rfl, ⟨nd, rfl⟩⟩; refine ⟨_, rfl, ?_⟩) | (go_at_call 13; (with_reducible refine (group_Exp.calls k 0 0 t134 _ A7.out).mono ?_); rintro e w' ⟨rfl, ⟨nd, rfl⟩⟩; (try clear A7)))
        go_meet
        case rel => exact ⟨_, (false), (by first | rfl | (simp; done) | (simp [*]; done)), H', ⟨by first | omega | exact Nat.le_refl _⟩, by repeat (first | exact Drawn0.refl _ | apply Drawn0.step)⟩
    · rw [if_neg c6] at H
      have c6b0 : (t133 == 64) = false := beq_eq_false_iff_ne.mpr c6
      have c6b1 : (t133 != 64) = true := bne_iff_ne.mpr c6
      (first | rw [c6b0] | (simp only [i64_w, i32_w]; rw [c6b0]) | skip)
      have H' := Aside0.mk H
      clear H
      go_wp2_with (first | ((with_reducible refine gate_callee (f := 13) rfl ?_); refine goesL_ (some 21) rfl rfl Try.func13 (by kernel_rfl) rfl #[.int .i64 4, .int .i64 3] rfl (by (try simp only [List.map_toArray, List.map_cons, List.map_nil]); first | done | rfl | (simp only [List.length_drop, List.length_take]; rfl)) ?_; (with_reducible refine (group_Exp.calls k 4 3 t133 _ A5.out).mono ?_); rintro e w' ⟨rfl, ⟨nd, rfl⟩⟩; refine ⟨_, rfl, ?_⟩))
      go_meet
      case rel => exact ⟨_, (false), (by first | rfl | (simp; done) | (simp [*]; done)), H', ⟨by first | omega | exact Nat.le_refl _⟩, by repeat (first | exact Drawn0.refl _ | apply Drawn0.step)⟩
  case rest =>
    clear HC4
    try clear c1
    try clear p2
    try clear c6
    try clear c6b0
    try clear c6b1
    try clear c8
    try clear c8b0
    try clear c8b1
    try clear c9
    try clear c10
    try clear c10b0
    try clear c10b1
    try clear c11
    try clear c13
    try clear c13b0
    try clear c13b1
    obtain ⟨kq, x7_3, rfl, HA, HJ3, ⟨mc3, rfl⟩⟩ := hcut
    cases kq with
    | zero => exact absurd HA.out (by simp [bournelaw04_small.j0])
    | succ kj3 =>
      have H := HA.out
      clear HA
      simp only [bournelaw04_small.j0] at H
      have HC15 := Aside0.mk H
      clear H
      go_upto_region 5 with (fail)
      go_cut [8] (fun v8 wc => ∃ (kq : Nat) (x8_14 : Bool), v8 = .bool x8_14 ∧ Aside0 (bournelaw04_small.j1 kq t127 t128 t130 x7_3 x8_14 = some r) ∧ Aside0 (kq ≤ kj3) ∧ Drawn0 w wc)
      case first =>
        have H := HC15.out
        clear HC15
        replace H := Option.bind_eq_some_iff.mp H
        obtain ⟨t138, A160, H⟩ := H
        replace H : (if t138 = true then ((group_In.f kj3 1).bind fun t139 => (if t139 = true then ((group_In.f kj3 2305843009213691578).bind fun t140 => (if t140 = true then (bournelaw04_small.j1 kj3 t127 t128 t130 x7_3 false) else ((group_In.f kj3 0).bind fun t141 => (if t141 = true then (bournelaw04_small.j1 kj3 t127 t128 t130 x7_3 false) else ((group_In.f kj3 2305843009213691583).bind fun t142 => (bournelaw04_small.j1 kj3 t127 t128 t130 x7_3 (!t142))))))) else (bournelaw04_small.j1 kj3 t127 t128 t130 x7_3 false))) else (bournelaw04_small.j1 kj3 t127 t128 t130 x7_3 false)) = some r := H
        have A16 := Aside0.mk A160
        clear A160
        by_cases c17 : t138 = true
        · subst c17
          have H1 : ((group_In.f kj3 1).bind fun t139 => (if t139 = true then ((group_In.f kj3 2305843009213691578).bind fun t140 => (if t140 = true then (bournelaw04_small.j1 kj3 t127 t128 t130 x7_3 false) else ((group_In.f kj3 0).bind fun t141 => (if t141 = true then (bournelaw04_small.j1 kj3 t127 t128 t130 x7_3 false) else ((group_In.f kj3 2305843009213691583).bind fun t142 => (bournelaw04_small.j1 kj3 t127 t128 t130 x7_3 (!t142))))))) else (bournelaw04_small.j1 kj3 t127 t128 t130 x7_3 false))) = some r := by rw [if_pos rfl] at H; exact H
          clear H
          have H := H1
          clear H1
          replace H := Option.bind_eq_some_iff.mp H
          obtain ⟨t139, A180, H⟩ := H
          replace H : (if t139 = true then ((group_In.f kj3 2305843009213691578).bind fun t140 => (if t140 = true then (bournelaw04_small.j1 kj3 t127 t128 t130 x7_3 false) else ((group_In.f kj3 0).bind fun t141 => (if t141 = true then (bournelaw04_small.j1 kj3 t127 t128 t130 x7_3 false) else ((group_In.f kj3 2305843009213691583).bind fun t142 => (bournelaw04_small.j1 kj3 t127 t128 t130 x7_3 (!t142))))))) else (bournelaw04_small.j1 kj3 t127 t128 t130 x7_3 false)) = some r := H
          have A18 := Aside0.mk A180
          clear A180
          by_cases c19 : t139 = true
          · subst c19
            have H1 : ((group_In.f kj3 2305843009213691578).bind fun t140 => (if t140 = true then (bournelaw04_small.j1 kj3 t127 t128 t130 x7_3 false) else ((group_In.f kj3 0).bind fun t141 => (if t141 = true then (bournelaw04_small.j1 kj3 t127 t128 t130 x7_3 false) else ((group_In.f kj3 2305843009213691583).bind fun t142 => (bournelaw04_small.j1 kj3 t127 t128 t130 x7_3 (!t142))))))) = some r := by rw [if_pos rfl] at H; exact H
            clear H
            have H := H1
            clear H1
            replace H := Option.bind_eq_some_iff.mp H
            obtain ⟨t140, A200, H⟩ := H
            replace H : (if t140 = true then (bournelaw04_small.j1 kj3 t127 t128 t130 x7_3 false) else ((group_In.f kj3 0).bind fun t141 => (if t141 = true then (bournelaw04_small.j1 kj3 t127 t128 t130 x7_3 false) else ((group_In.f kj3 2305843009213691583).bind fun t142 => (bournelaw04_small.j1 kj3 t127 t128 t130 x7_3 (!t142)))))) = some r := H
            have A20 := Aside0.mk A200
            clear A200
            by_cases c21 : t140 = true
            · subst c21
              have H1 : (bournelaw04_small.j1 kj3 t127 t128 t130 x7_3 false) = some r := by rw [if_pos rfl] at H; exact H
              clear H
              have H := H1
              clear H1
              have H' := Aside0.mk H
              clear H
              go_wp2_with (first | ((with_reducible refine gate_callee (f := 15) rfl ?_); refine goesL_ (some 43) rfl rfl Try.func15 (by kernel_rfl) rfl #[.int .i64 4] rfl (by (try simp only [List.map_toArray, List.map_cons, List.map_nil]); first | done | rfl | (simp only [List.length_drop, List.length_take]; rfl)) ?_; (with_reducible refine (group_In.calls kj3 4 true _ A16.out).mono ?_); rintro e w' ⟨rfl, ⟨nd, rfl⟩⟩; refine ⟨_, rfl, ?_⟩) | (go_at_call 15; (with_reducible refine (group_In.calls kj3 1 true _ A18.out).mono ?_); rintro e w' ⟨rfl, ⟨nd, rfl⟩⟩; (try clear A18)) | (go_at_call 15; (with_reducible refine (group_In.calls kj3 2305843009213691578 true _ A20.out).mono ?_); rintro e w' ⟨rfl, ⟨nd, rfl⟩⟩; (try clear A20)))
              go_meet
              case rel => exact ⟨_, (false), (by first | rfl | (simp; done) | (simp [*]; done)), H', ⟨by have := HJ3.out; first | omega | exact Nat.le_refl _⟩, by repeat (first | exact Drawn0.refl _ | apply Drawn0.step)⟩
            · replace c21 := Bool.eq_false_iff.mpr c21
              subst c21
              have H1 : ((group_In.f kj3 0).bind fun t141 => (if t141 = true then (bournelaw04_small.j1 kj3 t127 t128 t130 x7_3 false) else ((group_In.f kj3 2305843009213691583).bind fun t142 => (bournelaw04_small.j1 kj3 t127 t128 t130 x7_3 (!t142))))) = some r := by rw [if_neg (show ¬ (false = true) by decide)] at H; exact H
              clear H
              have H := H1
              clear H1
              replace H := Option.bind_eq_some_iff.mp H
              obtain ⟨t141, A220, H⟩ := H
              replace H : (if t141 = true then (bournelaw04_small.j1 kj3 t127 t128 t130 x7_3 false) else ((group_In.f kj3 2305843009213691583).bind fun t142 => (bournelaw04_small.j1 kj3 t127 t128 t130 x7_3 (!t142)))) = some r := H
              have A22 := Aside0.mk A220
              clear A220
              by_cases c23 : t141 = true
              · subst c23
                have H1 : (bournelaw04_small.j1 kj3 t127 t128 t130 x7_3 false) = some r := by rw [if_pos rfl] at H; exact H
                clear H
                have H := H1
                clear H1
                have H' := Aside0.mk H
                clear H
                go_wp2_with (first | ((with_reducible refine gate_callee (f := 15) rfl ?_); refine goesL_ (some 43) rfl rfl Try.func15 (by kernel_rfl) rfl #[.int .i64 4] rfl (by (try simp only [List.map_toArray, List.map_cons, List.map_nil]); first | done | rfl | (simp only [List.length_drop, List.length_take]; rfl)) ?_; (with_reducible refine (group_In.calls kj3 4 true _ A16.out).mono ?_); rintro e w' ⟨rfl, ⟨nd, rfl⟩⟩; refine ⟨_, rfl, ?_⟩) | (go_at_call 15; (with_reducible refine (group_In.calls kj3 1 true _ A18.out).mono ?_); rintro e w' ⟨rfl, ⟨nd, rfl⟩⟩; (try clear A18)) | (go_at_call 15; (with_reducible refine (group_In.calls kj3 2305843009213691578 false _ A20.out).mono ?_); rintro e w' ⟨rfl, ⟨nd, rfl⟩⟩; (try clear A20)) | (go_at_call 15; (with_reducible refine (group_In.calls kj3 0 true _ A22.out).mono ?_); rintro e w' ⟨rfl, ⟨nd, rfl⟩⟩; (try clear A22)))
                go_meet
                case rel => exact ⟨_, (false), (by first | rfl | (simp; done) | (simp [*]; done)), H', ⟨by have := HJ3.out; first | omega | exact Nat.le_refl _⟩, by repeat (first | exact Drawn0.refl _ | apply Drawn0.step)⟩
              · replace c23 := Bool.eq_false_iff.mpr c23
                subst c23
                have H1 : ((group_In.f kj3 2305843009213691583).bind fun t142 => (bournelaw04_small.j1 kj3 t127 t128 t130 x7_3 (!t142))) = some r := by rw [if_neg (show ¬ (false = true) by decide)] at H; exact H
                clear H
                have H := H1
                clear H1
                replace H := Option.bind_eq_some_iff.mp H
                obtain ⟨t142, A240, H⟩ := H
                replace H : (bournelaw04_small.j1 kj3 t127 t128 t130 x7_3 (!t142)) = some r := H
                have A24 := Aside0.mk A240
                clear A240
                have H' := Aside0.mk H
                clear H
                go_wp2_with (first | ((with_reducible refine gate_callee (f := 15) rfl ?_); refine goesL_ (some 43) rfl rfl Try.func15 (by kernel_rfl) rfl #[.int .i64 4] rfl (by (try simp only [List.map_toArray, List.map_cons, List.map_nil]); first | done | rfl | (simp only [List.length_drop, List.length_take]; rfl)) ?_; (with_reducible refine (group_In.calls kj3 4 true _ A16.out).mono ?_); rintro e w' ⟨rfl, ⟨nd, rfl⟩⟩; refine ⟨_, rfl, ?_⟩) | (go_at_call 15; (with_reducible refine (group_In.calls kj3 1 true _ A18.out).mono ?_); rintro e w' ⟨rfl, ⟨nd, rfl⟩⟩; (try clear A18)) | (go_at_call 15; (with_reducible refine (group_In.calls kj3 2305843009213691578 false _ A20.out).mono ?_); rintro e w' ⟨rfl, ⟨nd, rfl⟩⟩; (try clear A20)) | (go_at_call 15; (with_reducible refine (group_In.calls kj3 0 false _ A22.out).mono ?_); rintro e w' ⟨rfl, ⟨nd, rfl⟩⟩; (try clear A22)) | (go_at_call 15; (with_reducible refine (group_In.calls kj3 2305843009213691583 t142 _ A24.out).mono ?_); rintro e w' ⟨rfl, ⟨nd, rfl⟩⟩; (try clear A24)))
                go_meet
                case rel => exact ⟨_, (!t142), (by first | rfl | (simp; done) | (simp [*]; done)), H', ⟨by have := HJ3.out; first | omega | exact Nat.le_refl _⟩, by repeat (first | exact Drawn0.refl _ | apply Drawn0.step)⟩
          · replace c19 := Bool.eq_false_iff.mpr c19
            subst c19
            have H1 : (bournelaw04_small.j1 kj3 t127 t128 t130 x7_3 false) = some r := by rw [if_neg (show ¬ (false = true) by decide)] at H; exact H
            clear H
            have H := H1
            clear H1
            have H' := Aside0.mk H
            clear H
            go_wp2_with (first | ((with_reducible refine gate_callee (f := 15) rfl ?_); refine goesL_ (some 43) rfl rfl Try.func15 (by kernel_rfl) rfl #[.int .i64 4] rfl (by (try simp only [List.map_toArray, List.map_cons, List.map_nil]); first | done | rfl | (simp only [List.length_drop, List.length_take]; rfl)) ?_; (with_reducible refine (group_In.calls kj3 4 true _ A16.out).mono ?_); rintro e w' ⟨rfl, ⟨nd, rfl⟩⟩; refine ⟨_, rfl, ?_⟩) | (go_at_call 15; (with_reducible refine (group_In.calls kj3 1 false _ A18.out).mono ?_); rintro e w' ⟨rfl, ⟨nd, rfl⟩⟩; (try clear A18)))
            go_meet
            case rel => exact ⟨_, (false), (by first | rfl | (simp; done) | (simp [*]; done)), H', ⟨by have := HJ3.out; first | omega | exact Nat.le_refl _⟩, by repeat (first | exact Drawn0.refl _ | apply Drawn0.step)⟩
        · replace c17 := Bool.eq_false_iff.mpr c17
          subst c17
          have H1 : (bournelaw04_small.j1 kj3 t127 t128 t130 x7_3 false) = some r := by rw [if_neg (show ¬ (false = true) by decide)] at H; exact H
          clear H
          have H := H1
          clear H1
          have H' := Aside0.mk H
          clear H
          go_wp2_with (first | ((with_reducible refine gate_callee (f := 15) rfl ?_); refine goesL_ (some 43) rfl rfl Try.func15 (by kernel_rfl) rfl #[.int .i64 4] rfl (by (try simp only [List.map_toArray, List.map_cons, List.map_nil]); first | done | rfl | (simp only [List.length_drop, List.length_take]; rfl)) ?_; (with_reducible refine (group_In.calls kj3 4 false _ A16.out).mono ?_); rintro e w' ⟨rfl, ⟨nd, rfl⟩⟩; refine ⟨_, rfl, ?_⟩))
          go_meet
          case rel => exact ⟨_, (false), (by first | rfl | (simp; done) | (simp [*]; done)), H', ⟨by have := HJ3.out; first | omega | exact Nat.le_refl _⟩, by repeat (first | exact Drawn0.refl _ | apply Drawn0.step)⟩
      case rest =>
        clear HC15
        try clear c1
        try clear c2
        try clear p2
        try clear c3
        try clear c6
        try clear c6b0
        try clear c6b1
        try clear c8
        try clear c8b0
        try clear c8b1
        try clear c9
        try clear c10
        try clear c10b0
        try clear c10b1
        try clear c11
        try clear c13
        try clear c13b0
        try clear c13b1
        try clear c15
        try clear c17
        try clear c19
        try clear c21
        try clear c23
        try clear p2
        obtain ⟨kq, x8_14, rfl, HA, HJ14, ⟨mc14, rfl⟩⟩ := hcut
        cases kq with
        | zero => exact absurd HA.out (by simp [bournelaw04_small.j1])
        | succ kj14 =>
          have H := HA.out
          clear HA
          simp only [bournelaw04_small.j1] at H
          replace H := Option.bind_eq_some_iff.mp H
          obtain ⟨t143, A250, H⟩ := H
          replace H : (if t143 = 1 then ((group_Mul.f kj14 (-1) 3).bind fun t144 => (if t144 = 2305843009213691576 then (if t127 = 1152921504606845790 then (if t128 = true then (if t130 = true then (some false) else (if x7_3 = true then (if x8_14 = true then ((group_AddQ.f 1152921504606845788 2).bind fun t145 => (if t145 = 1 then ((group_SubQ.f 0 1).bind fun t146 => (if t146 = 1152921504606845788 then ((group_MulQ.f kj14 1152921504606845788 1152921504606845788).bind fun t147 => (if t147 = 1 then (some true) else (some false))) else (some false))) else (some false))) else (some false)) else (some false))) else (some false)) else (some false)) else (some false))) else (some false)) = some r := H
          have A25 := Aside0.mk A250
          clear A250
          by_cases c26 : t143 = 1
          · rw [if_pos c26] at H
            have c26b0 : (t143 == 1) = true := beq_iff_eq.mpr c26
            have c26b1 : (t143 != 1) = false := bne_eq_false_iff_eq.mpr c26
            clear c26
            replace H := Option.bind_eq_some_iff.mp H
            obtain ⟨t144, A270, H⟩ := H
            replace H : (if t144 = 2305843009213691576 then (if t127 = 1152921504606845790 then (if t128 = true then (if t130 = true then (some false) else (if x7_3 = true then (if x8_14 = true then ((group_AddQ.f 1152921504606845788 2).bind fun t145 => (if t145 = 1 then ((group_SubQ.f 0 1).bind fun t146 => (if t146 = 1152921504606845788 then ((group_MulQ.f kj14 1152921504606845788 1152921504606845788).bind fun t147 => (if t147 = 1 then (some true) else (some false))) else (some false))) else (some false))) else (some false)) else (some false))) else (some false)) else (some false)) else (some false)) = some r := H
            have A27 := Aside0.mk A270
            clear A270
            by_cases c28 : t144 = 2305843009213691576
            · rw [if_pos c28] at H
              have c28b0 : (t144 == 2305843009213691576) = true := beq_iff_eq.mpr c28
              have c28b1 : (t144 != 2305843009213691576) = false := bne_eq_false_iff_eq.mpr c28
              clear c28
              by_cases c29 : t127 = 1152921504606845790
              · rw [if_pos c29] at H
                have c29b0 : (t127 == 1152921504606845790) = true := beq_iff_eq.mpr c29
                have c29b1 : (t127 != 1152921504606845790) = false := bne_eq_false_iff_eq.mpr c29
                clear c29
                by_cases c30 : t128 = true
                · subst c30
                  have H1 : (if t130 = true then (some false) else (if x7_3 = true then (if x8_14 = true then ((group_AddQ.f 1152921504606845788 2).bind fun t145 => (if t145 = 1 then ((group_SubQ.f 0 1).bind fun t146 => (if t146 = 1152921504606845788 then ((group_MulQ.f kj14 1152921504606845788 1152921504606845788).bind fun t147 => (if t147 = 1 then (some true) else (some false))) else (some false))) else (some false))) else (some false)) else (some false))) = some r := by rw [if_pos rfl] at H; exact H
                  clear H
                  have H := H1
                  clear H1
                  by_cases c31 : t130 = true
                  · subst c31
                    have H1 : (some false) = some r := by rw [if_pos rfl] at H; exact H
                    clear H
                    have H := H1
                    clear H1
                    obtain rfl := Option.some.inj H
                    go_wp2_with (first | ((with_reducible refine gate_callee (f := 11) rfl ?_); refine goesL_ (some 59) rfl rfl Try.func11 (by kernel_rfl) rfl #[.int .i64 2305843009213691578, .int .i64 2305843009213691578] rfl (by (try simp only [List.map_toArray, List.map_cons, List.map_nil]); first | done | rfl | (simp only [List.length_drop, List.length_take]; rfl)) ?_; (with_reducible refine (group_Mul.calls kj14 2305843009213691578 2305843009213691578 t143 _ A25.out).mono ?_); rintro e w' ⟨rfl, ⟨nd, rfl⟩⟩; refine ⟨_, rfl, ?_⟩) | (go_at_call 11; (with_reducible refine (group_Mul.calls kj14 (-1) 3 t144 _ A27.out).mono ?_); rintro e w' ⟨rfl, ⟨nd, rfl⟩⟩; (try clear A27)))
                    go_ret
                    exact ⟨by first | rfl | (simp; done) | (simp [*]; done), by repeat (first | exact Drawn0.refl _ | apply Drawn0.step)⟩
                  · replace c31 := Bool.eq_false_iff.mpr c31
                    subst c31
                    have H1 : (if x7_3 = true then (if x8_14 = true then ((group_AddQ.f 1152921504606845788 2).bind fun t145 => (if t145 = 1 then ((group_SubQ.f 0 1).bind fun t146 => (if t146 = 1152921504606845788 then ((group_MulQ.f kj14 1152921504606845788 1152921504606845788).bind fun t147 => (if t147 = 1 then (some true) else (some false))) else (some false))) else (some false))) else (some false)) else (some false)) = some r := by rw [if_neg (show ¬ (false = true) by decide)] at H; exact H
                    clear H
                    have H := H1
                    clear H1
                    by_cases c32 : x7_3 = true
                    · subst c32
                      have H1 : (if x8_14 = true then ((group_AddQ.f 1152921504606845788 2).bind fun t145 => (if t145 = 1 then ((group_SubQ.f 0 1).bind fun t146 => (if t146 = 1152921504606845788 then ((group_MulQ.f kj14 1152921504606845788 1152921504606845788).bind fun t147 => (if t147 = 1 then (some true) else (some false))) else (some false))) else (some false))) else (some false)) = some r := by rw [if_pos rfl] at H; exact H
                      clear H
                      have H := H1
                      clear H1
                      by_cases c33 : x8_14 = true
                      · subst c33
                        have H1 : ((group_AddQ.f 1152921504606845788 2).bind fun t145 => (if t145 = 1 then ((group_SubQ.f 0 1).bind fun t146 => (if t146 = 1152921504606845788 then ((group_MulQ.f kj14 1152921504606845788 1152921504606845788).bind fun t147 => (if t147 = 1 then (some true) else (some false))) else (some false))) else (some false))) = some r := by rw [if_pos rfl] at H; exact H
                        clear H
                        have H := H1
                        clear H1
                        replace H := Option.bind_eq_some_iff.mp H
                        obtain ⟨t145, A340, H⟩ := H
                        replace H : (if t145 = 1 then ((group_SubQ.f 0 1).bind fun t146 => (if t146 = 1152921504606845788 then ((group_MulQ.f kj14 1152921504606845788 1152921504606845788).bind fun t147 => (if t147 = 1 then (some true) else (some false))) else (some false))) else (some false)) = some r := H
                        have A34 := Aside0.mk A340
                        clear A340
                        by_cases c35 : t145 = 1
                        · rw [if_pos c35] at H
                          have c35b0 : (t145 == 1) = true := beq_iff_eq.mpr c35
                          have c35b1 : (t145 != 1) = false := bne_eq_false_iff_eq.mpr c35
                          clear c35
                          replace H := Option.bind_eq_some_iff.mp H
                          obtain ⟨t146, A360, H⟩ := H
                          replace H : (if t146 = 1152921504606845788 then ((group_MulQ.f kj14 1152921504606845788 1152921504606845788).bind fun t147 => (if t147 = 1 then (some true) else (some false))) else (some false)) = some r := H
                          have A36 := Aside0.mk A360
                          clear A360
                          by_cases c37 : t146 = 1152921504606845788
                          · rw [if_pos c37] at H
                            have c37b0 : (t146 == 1152921504606845788) = true := beq_iff_eq.mpr c37
                            have c37b1 : (t146 != 1152921504606845788) = false := bne_eq_false_iff_eq.mpr c37
                            clear c37
                            replace H := Option.bind_eq_some_iff.mp H
                            obtain ⟨t147, A380, H⟩ := H
                            replace H : (if t147 = 1 then (some true) else (some false)) = some r := H
                            have A38 := Aside0.mk A380
                            clear A380
                            by_cases c39 : t147 = 1
                            · rw [if_pos c39] at H
                              have c39b0 : (t147 == 1) = true := beq_iff_eq.mpr c39
                              have c39b1 : (t147 != 1) = false := bne_eq_false_iff_eq.mpr c39
                              clear c39
                              obtain rfl := Option.some.inj H
                              go_wp2_with (first | ((with_reducible refine gate_callee (f := 11) rfl ?_); refine goesL_ (some 59) rfl rfl Try.func11 (by kernel_rfl) rfl #[.int .i64 2305843009213691578, .int .i64 2305843009213691578] rfl (by (try simp only [List.map_toArray, List.map_cons, List.map_nil]); first | done | rfl | (simp only [List.length_drop, List.length_take]; rfl)) ?_; (with_reducible refine (group_Mul.calls kj14 2305843009213691578 2305843009213691578 t143 _ A25.out).mono ?_); rintro e w' ⟨rfl, ⟨nd, rfl⟩⟩; refine ⟨_, rfl, ?_⟩) | (go_at_call 11; (with_reducible refine (group_Mul.calls kj14 (-1) 3 t144 _ A27.out).mono ?_); rintro e w' ⟨rfl, ⟨nd, rfl⟩⟩; (try clear A27)) | (go_at_call 17; (with_reducible refine (group_AddQ.calls 1152921504606845788 2 t145 _ A34.out).mono ?_); rintro e w' ⟨rfl, ⟨nd, rfl⟩⟩; (try clear A34)) | (go_at_call 19; (with_reducible refine (group_SubQ.calls 0 1 t146 _ A36.out).mono ?_); rintro e w' ⟨rfl, ⟨nd, rfl⟩⟩; (try clear A36)) | (go_at_call 21; (with_reducible refine (group_MulQ.calls kj14 1152921504606845788 1152921504606845788 t147 _ A38.out).mono ?_); rintro e w' ⟨rfl, ⟨nd, rfl⟩⟩; (try clear A38)))
                              go_ret
                              exact ⟨by first | rfl | (simp; done) | (simp [*]; done), by repeat (first | exact Drawn0.refl _ | apply Drawn0.step)⟩
                            · rw [if_neg c39] at H
                              have c39b0 : (t147 == 1) = false := beq_eq_false_iff_ne.mpr c39
                              have c39b1 : (t147 != 1) = true := bne_iff_ne.mpr c39
                              obtain rfl := Option.some.inj H
                              go_wp2_with (first | ((with_reducible refine gate_callee (f := 11) rfl ?_); refine goesL_ (some 59) rfl rfl Try.func11 (by kernel_rfl) rfl #[.int .i64 2305843009213691578, .int .i64 2305843009213691578] rfl (by (try simp only [List.map_toArray, List.map_cons, List.map_nil]); first | done | rfl | (simp only [List.length_drop, List.length_take]; rfl)) ?_; (with_reducible refine (group_Mul.calls kj14 2305843009213691578 2305843009213691578 t143 _ A25.out).mono ?_); rintro e w' ⟨rfl, ⟨nd, rfl⟩⟩; refine ⟨_, rfl, ?_⟩) | (go_at_call 11; (with_reducible refine (group_Mul.calls kj14 (-1) 3 t144 _ A27.out).mono ?_); rintro e w' ⟨rfl, ⟨nd, rfl⟩⟩; (try clear A27)) | (go_at_call 17; (with_reducible refine (group_AddQ.calls 1152921504606845788 2 t145 _ A34.out).mono ?_); rintro e w' ⟨rfl, ⟨nd, rfl⟩⟩; (try clear A34)) | (go_at_call 19; (with_reducible refine (group_SubQ.calls 0 1 t146 _ A36.out).mono ?_); rintro e w' ⟨rfl, ⟨nd, rfl⟩⟩; (try clear A36)) | (go_at_call 21; (with_reducible refine (group_MulQ.calls kj14 1152921504606845788 1152921504606845788 t147 _ A38.out).mono ?_); rintro e w' ⟨rfl, ⟨nd, rfl⟩⟩; (try clear A38)))
                              go_ret
                              exact ⟨by first | rfl | (simp; done) | (simp [*]; done), by repeat (first | exact Drawn0.refl _ | apply Drawn0.step)⟩
                          · rw [if_neg c37] at H
                            have c37b0 : (t146 == 1152921504606845788) = false := beq_eq_false_iff_ne.mpr c37
                            have c37b1 : (t146 != 1152921504606845788) = true := bne_iff_ne.mpr c37
                            obtain rfl := Option.some.inj H
                            go_wp2_with (first | ((with_reducible refine gate_callee (f := 11) rfl ?_); refine goesL_ (some 59) rfl rfl Try.func11 (by kernel_rfl) rfl #[.int .i64 2305843009213691578, .int .i64 2305843009213691578] rfl (by (try simp only [List.map_toArray, List.map_cons, List.map_nil]); first | done | rfl | (simp only [List.length_drop, List.length_take]; rfl)) ?_; (with_reducible refine (group_Mul.calls kj14 2305843009213691578 2305843009213691578 t143 _ A25.out).mono ?_); rintro e w' ⟨rfl, ⟨nd, rfl⟩⟩; refine ⟨_, rfl, ?_⟩) | (go_at_call 11; (with_reducible refine (group_Mul.calls kj14 (-1) 3 t144 _ A27.out).mono ?_); rintro e w' ⟨rfl, ⟨nd, rfl⟩⟩; (try clear A27)) | (go_at_call 17; (with_reducible refine (group_AddQ.calls 1152921504606845788 2 t145 _ A34.out).mono ?_); rintro e w' ⟨rfl, ⟨nd, rfl⟩⟩; (try clear A34)) | (go_at_call 19; (with_reducible refine (group_SubQ.calls 0 1 t146 _ A36.out).mono ?_); rintro e w' ⟨rfl, ⟨nd, rfl⟩⟩; (try clear A36)))
                            go_ret
                            exact ⟨by first | rfl | (simp; done) | (simp [*]; done), by repeat (first | exact Drawn0.refl _ | apply Drawn0.step)⟩
                        · rw [if_neg c35] at H
                          have c35b0 : (t145 == 1) = false := beq_eq_false_iff_ne.mpr c35
                          have c35b1 : (t145 != 1) = true := bne_iff_ne.mpr c35
                          obtain rfl := Option.some.inj H
                          go_wp2_with (first | ((with_reducible refine gate_callee (f := 11) rfl ?_); refine goesL_ (some 59) rfl rfl Try.func11 (by kernel_rfl) rfl #[.int .i64 2305843009213691578, .int .i64 2305843009213691578] rfl (by (try simp only [List.map_toArray, List.map_cons, List.map_nil]); first | done | rfl | (simp only [List.length_drop, List.length_take]; rfl)) ?_; (with_reducible refine (group_Mul.calls kj14 2305843009213691578 2305843009213691578 t143 _ A25.out).mono ?_); rintro e w' ⟨rfl, ⟨nd, rfl⟩⟩; refine ⟨_, rfl, ?_⟩) | (go_at_call 11; (with_reducible refine (group_Mul.calls kj14 (-1) 3 t144 _ A27.out).mono ?_); rintro e w' ⟨rfl, ⟨nd, rfl⟩⟩; (try clear A27)) | (go_at_call 17; (with_reducible refine (group_AddQ.calls 1152921504606845788 2 t145 _ A34.out).mono ?_); rintro e w' ⟨rfl, ⟨nd, rfl⟩⟩; (try clear A34)))
                          go_ret
                          exact ⟨by first | rfl | (simp; done) | (simp [*]; done), by repeat (first | exact Drawn0.refl _ | apply Drawn0.step)⟩
                      · replace c33 := Bool.eq_false_iff.mpr c33
                        subst c33
                        have H1 : (some false) = some r := by rw [if_neg (show ¬ (false = true) by decide)] at H; exact H
                        clear H
                        have H := H1
                        clear H1
                        obtain rfl := Option.some.inj H
                        go_wp2_with (first | ((with_reducible refine gate_callee (f := 11) rfl ?_); refine goesL_ (some 59) rfl rfl Try.func11 (by kernel_rfl) rfl #[.int .i64 2305843009213691578, .int .i64 2305843009213691578] rfl (by (try simp only [List.map_toArray, List.map_cons, List.map_nil]); first | done | rfl | (simp only [List.length_drop, List.length_take]; rfl)) ?_; (with_reducible refine (group_Mul.calls kj14 2305843009213691578 2305843009213691578 t143 _ A25.out).mono ?_); rintro e w' ⟨rfl, ⟨nd, rfl⟩⟩; refine ⟨_, rfl, ?_⟩) | (go_at_call 11; (with_reducible refine (group_Mul.calls kj14 (-1) 3 t144 _ A27.out).mono ?_); rintro e w' ⟨rfl, ⟨nd, rfl⟩⟩; (try clear A27)))
                        go_ret
                        exact ⟨by first | rfl | (simp; done) | (simp [*]; done), by repeat (first | exact Drawn0.refl _ | apply Drawn0.step)⟩
                    · replace c32 := Bool.eq_false_iff.mpr c32
                      subst c32
                      have H1 : (some false) = some r := by rw [if_neg (show ¬ (false = true) by decide)] at H; exact H
                      clear H
                      have H := H1
                      clear H1
                      obtain rfl := Option.some.inj H
                      go_wp2_with (first | ((with_reducible refine gate_callee (f := 11) rfl ?_); refine goesL_ (some 59) rfl rfl Try.func11 (by kernel_rfl) rfl #[.int .i64 2305843009213691578, .int .i64 2305843009213691578] rfl (by (try simp only [List.map_toArray, List.map_cons, List.map_nil]); first | done | rfl | (simp only [List.length_drop, List.length_take]; rfl)) ?_; (with_reducible refine (group_Mul.calls kj14 2305843009213691578 2305843009213691578 t143 _ A25.out).mono ?_); rintro e w' ⟨rfl, ⟨nd, rfl⟩⟩; refine ⟨_, rfl, ?_⟩) | (go_at_call 11; (with_reducible refine (group_Mul.calls kj14 (-1) 3 t144 _ A27.out).mono ?_); rintro e w' ⟨rfl, ⟨nd, rfl⟩⟩; (try clear A27)))
                      go_ret
                      exact ⟨by first | rfl | (simp; done) | (simp [*]; done), by repeat (first | exact Drawn0.refl _ | apply Drawn0.step)⟩
                · replace c30 := Bool.eq_false_iff.mpr c30
                  subst c30
                  have H1 : (some false) = some r := by rw [if_neg (show ¬ (false = true) by decide)] at H; exact H
                  clear H
                  have H := H1
                  clear H1
                  obtain rfl := Option.some.inj H
                  go_wp2_with (first | ((with_reducible refine gate_callee (f := 11) rfl ?_); refine goesL_ (some 59) rfl rfl Try.func11 (by kernel_rfl) rfl #[.int .i64 2305843009213691578, .int .i64 2305843009213691578] rfl (by (try simp only [List.map_toArray, List.map_cons, List.map_nil]); first | done | rfl | (simp only [List.length_drop, List.length_take]; rfl)) ?_; (with_reducible refine (group_Mul.calls kj14 2305843009213691578 2305843009213691578 t143 _ A25.out).mono ?_); rintro e w' ⟨rfl, ⟨nd, rfl⟩⟩; refine ⟨_, rfl, ?_⟩) | (go_at_call 11; (with_reducible refine (group_Mul.calls kj14 (-1) 3 t144 _ A27.out).mono ?_); rintro e w' ⟨rfl, ⟨nd, rfl⟩⟩; (try clear A27)))
                  go_ret
                  exact ⟨by first | rfl | (simp; done) | (simp [*]; done), by repeat (first | exact Drawn0.refl _ | apply Drawn0.step)⟩
              · rw [if_neg c29] at H
                have c29b0 : (t127 == 1152921504606845790) = false := beq_eq_false_iff_ne.mpr c29
                have c29b1 : (t127 != 1152921504606845790) = true := bne_iff_ne.mpr c29
                obtain rfl := Option.some.inj H
                go_wp2_with (first | ((with_reducible refine gate_callee (f := 11) rfl ?_); refine goesL_ (some 59) rfl rfl Try.func11 (by kernel_rfl) rfl #[.int .i64 2305843009213691578, .int .i64 2305843009213691578] rfl (by (try simp only [List.map_toArray, List.map_cons, List.map_nil]); first | done | rfl | (simp only [List.length_drop, List.length_take]; rfl)) ?_; (with_reducible refine (group_Mul.calls kj14 2305843009213691578 2305843009213691578 t143 _ A25.out).mono ?_); rintro e w' ⟨rfl, ⟨nd, rfl⟩⟩; refine ⟨_, rfl, ?_⟩) | (go_at_call 11; (with_reducible refine (group_Mul.calls kj14 (-1) 3 t144 _ A27.out).mono ?_); rintro e w' ⟨rfl, ⟨nd, rfl⟩⟩; (try clear A27)))
                go_ret
                exact ⟨by first | rfl | (simp; done) | (simp [*]; done), by repeat (first | exact Drawn0.refl _ | apply Drawn0.step)⟩
            · rw [if_neg c28] at H
              have c28b0 : (t144 == 2305843009213691576) = false := beq_eq_false_iff_ne.mpr c28
              have c28b1 : (t144 != 2305843009213691576) = true := bne_iff_ne.mpr c28
              obtain rfl := Option.some.inj H
              go_wp2_with (first | ((with_reducible refine gate_callee (f := 11) rfl ?_); refine goesL_ (some 59) rfl rfl Try.func11 (by kernel_rfl) rfl #[.int .i64 2305843009213691578, .int .i64 2305843009213691578] rfl (by (try simp only [List.map_toArray, List.map_cons, List.map_nil]); first | done | rfl | (simp only [List.length_drop, List.length_take]; rfl)) ?_; (with_reducible refine (group_Mul.calls kj14 2305843009213691578 2305843009213691578 t143 _ A25.out).mono ?_); rintro e w' ⟨rfl, ⟨nd, rfl⟩⟩; refine ⟨_, rfl, ?_⟩) | (go_at_call 11; (with_reducible refine (group_Mul.calls kj14 (-1) 3 t144 _ A27.out).mono ?_); rintro e w' ⟨rfl, ⟨nd, rfl⟩⟩; (try clear A27)))
              go_ret
              exact ⟨by first | rfl | (simp; done) | (simp [*]; done), by repeat (first | exact Drawn0.refl _ | apply Drawn0.step)⟩
          · rw [if_neg c26] at H
            have c26b0 : (t143 == 1) = false := beq_eq_false_iff_ne.mpr c26
            have c26b1 : (t143 != 1) = true := bne_iff_ne.mpr c26
            obtain rfl := Option.some.inj H
            go_wp2_with (first | ((with_reducible refine gate_callee (f := 11) rfl ?_); refine goesL_ (some 59) rfl rfl Try.func11 (by kernel_rfl) rfl #[.int .i64 2305843009213691578, .int .i64 2305843009213691578] rfl (by (try simp only [List.map_toArray, List.map_cons, List.map_nil]); first | done | rfl | (simp only [List.length_drop, List.length_take]; rfl)) ?_; (with_reducible refine (group_Mul.calls kj14 2305843009213691578 2305843009213691578 t143 _ A25.out).mono ?_); rintro e w' ⟨rfl, ⟨nd, rfl⟩⟩; refine ⟨_, rfl, ?_⟩))
            go_ret
            exact ⟨by first | rfl | (simp; done) | (simp [*]; done), by repeat (first | exact Drawn0.refl _ | apply Drawn0.step)⟩

/-! ### bourneref04_Mod: function 24 -/
def bourneref04_Mod.f (a0 : Int) (a1 : Int) : Option (Int) := if a1 = 0 then (none) else (if (Int.tmod a0 a1) < 0 then (some (wrap64 ((Int.tmod a0 a1) + a1))) else (some (Int.tmod a0 a1)))
set_option maxHeartbeats 8000000 in
set_option maxRecDepth 100000 in
theorem bourneref04_Mod.calls (a0 : Int) (a1 : Int) (r : Int) (w : World) (h : bourneref04_Mod.f a0 a1 = some r) :
    Calls Try.prog 24 #[.int .i64 a0, .int .i64 a1] w fun e w' => e = .returned (.int .i64 r) ∧ Drawn0 w w' := by
  have H : (if a1 = 0 then (none) else (if (Int.tmod a0 a1) < 0 then (some (wrap64 ((Int.tmod a0 a1) + a1))) else (some (Int.tmod a0 a1)))) = some r := h
  clear h
  by_cases c3 : a1 = 0
  · rw [if_pos c3] at H
    exact absurd H (by simp)
  · rw [if_neg c3] at H
    have c3b0 : (a1 == 0) = false := beq_eq_false_iff_ne.mpr c3
    have c3b1 : (a1 != 0) = true := bne_iff_ne.mpr c3
    by_cases c4 : (Int.tmod a0 a1) < 0
    · rw [if_pos c4] at H
      have c4b0 : decide ((Int.tmod a0 a1) < 0) = true := decide_eq_true c4
      clear c4
      obtain rfl := Option.some.inj H
      go_enter Try.func24, Try.ntmps24
      go_wp2
      go_ret
      exact ⟨by first | rfl | (simp; done) | (simp [*]; done), by repeat (first | exact Drawn0.refl _ | apply Drawn0.step)⟩
    · rw [if_neg c4] at H
      have c4b0 : decide ((Int.tmod a0 a1) < 0) = false := decide_eq_false c4
      clear c4
      obtain rfl := Option.some.inj H
      go_enter Try.func24, Try.ntmps24
      go_wp2
      go_ret
      exact ⟨by first | rfl | (simp; done) | (simp [*]; done), by repeat (first | exact Drawn0.refl _ | apply Drawn0.step)⟩

/-! ### bourneref04_Inv: function 10 -/
def bourneref04_Inv.l0 : Nat → Int → Int → Int → Int → Option (Int × Bool)
  | 0, _, _, _, _ => none
  | k + 1, x4, x5, x6, x7 => if x5 > 0 then (if x5 = 0 then (none) else (bourneref04_Inv.l0 k x5 (wrap64 (x4 - (wrap64 ((wrap64 (Int.tdiv x4 x5)) * x5)))) x7 (wrap64 (x6 - (wrap64 ((wrap64 (Int.tdiv x4 x5)) * x7)))))) else ((bourneref04_Mod.f x6 2305843009213691579).bind fun t149 => (some (t149, true)))
def bourneref04_Inv.f (k : Nat) (a0 : Int) : Option (Int × Bool) := (bourneref04_Mod.f a0 2305843009213691579).bind fun t148 => (if t148 = 0 then (some (0, false)) else (bourneref04_Inv.l0 k 2305843009213691579 t148 0 1))
theorem bourneref04_Inv.mono_l : ∀ k, (∀ y0 y1 y2 y3, LeO (bourneref04_Inv.l0 k y0 y1 y2 y3) (bourneref04_Inv.l0 (k + 1) y0 y1 y2 y3))
  | 0 => fun _ _ _ _ r h => by simp [bourneref04_Inv.l0] at h
  | k + 1 => by
    have ih0 := bourneref04_Inv.mono_l k
    · intro y0 y1 y2 y3
      unfold bourneref04_Inv.l0
      repeat' first
      | (with_reducible exact ih0 _ _ _ _)
      | (with_reducible exact LeO.refl _)
      | (with_reducible exact LeO.none _)
      | (with_reducible refine LeO.ite ?_ ?_)
      | (with_reducible refine LeO.bind ?_ (fun _ => ?_))
      | exact ih0 _ _ _ _
      | exact LeO.none _
      | refine LeO.ite ?_ ?_
      | refine LeO.bind ?_ (fun _ => ?_)
theorem bourneref04_Inv.mono : ∀ a0 k, LeO (bourneref04_Inv.f k a0) (bourneref04_Inv.f (k + 1) a0) := by
  intro a0 k
  have ih0 := bourneref04_Inv.mono_l k
  unfold bourneref04_Inv.f
  repeat' first
      | (with_reducible exact ih0 _ _ _ _)
      | (with_reducible exact LeO.refl _)
      | (with_reducible exact LeO.none _)
      | (with_reducible refine LeO.ite ?_ ?_)
      | (with_reducible refine LeO.bind ?_ (fun _ => ?_))
      | exact ih0 _ _ _ _
      | exact LeO.none _
      | refine LeO.ite ?_ ?_
      | refine LeO.bind ?_ (fun _ => ?_)
set_option maxHeartbeats 8000000 in
set_option maxRecDepth 100000 in
theorem bourneref04_Inv.calls (k : Nat) (a0 : Int) (r1 : Int) (r2 : Bool) (w : World) (h : bourneref04_Inv.f k a0 = some (r1, r2)) :
    Calls Try.prog 10 #[.int .i64 a0] w fun e w' => e = .returned (.tuple #[.int .i64 r1, .bool r2]) ∧ Drawn0 w w' := by
  have H : ((bourneref04_Mod.f a0 2305843009213691579).bind fun t148 => (if t148 = 0 then (some (0, false)) else (bourneref04_Inv.l0 k 2305843009213691579 t148 0 1))) = some (r1, r2) := h
  clear h
  replace H := Option.bind_eq_some_iff.mp H
  obtain ⟨t148, A20, H⟩ := H
  replace H : (if t148 = 0 then (some (0, false)) else (bourneref04_Inv.l0 k 2305843009213691579 t148 0 1)) = some (r1, r2) := H
  have A2 := Aside0.mk A20
  clear A20
  by_cases c3 : t148 = 0
  · rw [if_pos c3] at H
    have c3b0 : (t148 == 0) = true := beq_iff_eq.mpr c3
    have c3b1 : (t148 != 0) = false := bne_eq_false_iff_eq.mpr c3
    clear c3
    simp only [Option.some.injEq, Prod.mk.injEq] at H
    obtain ⟨rfl, rfl⟩ := H
    go_enter Try.func10, Try.ntmps10
    go_wp2_with (first | ((with_reducible refine gate_callee (f := 24) rfl ?_); refine goesL_ (some 10) rfl rfl Try.func24 (by kernel_rfl) rfl #[.int .i64 a0, .int .i64 2305843009213691579] rfl (by (try simp only [List.map_toArray, List.map_cons, List.map_nil]); first | done | rfl | (simp only [List.length_drop, List.length_take]; rfl)) ?_; (with_reducible refine (bourneref04_Mod.calls a0 2305843009213691579 t148 _ A2.out).mono ?_); rintro e w' ⟨rfl, ⟨nd, rfl⟩⟩; refine ⟨_, rfl, ?_⟩))
    go_ret2
    exact ⟨by first | rfl | (simp; done) | (simp [*]; done), by repeat (first | exact Drawn0.refl _ | apply Drawn0.step)⟩
  · rw [if_neg c3] at H
    have c3b0 : (t148 == 0) = false := beq_eq_false_iff_ne.mpr c3
    have c3b1 : (t148 != 0) = true := bne_iff_ne.mpr c3
    have H' := Aside0.mk H
    clear H
    go_enter Try.func10, Try.ntmps10
    go_wp2_with (first | ((with_reducible refine gate_callee (f := 24) rfl ?_); refine goesL_ (some 10) rfl rfl Try.func24 (by kernel_rfl) rfl #[.int .i64 a0, .int .i64 2305843009213691579] rfl (by (try simp only [List.map_toArray, List.map_cons, List.map_nil]); first | done | rfl | (simp only [List.length_drop, List.length_take]; rfl)) ?_; (with_reducible refine (bourneref04_Mod.calls a0 2305843009213691579 t148 _ A2.out).mono ?_); rintro e w' ⟨rfl, ⟨nd, rfl⟩⟩; refine ⟨_, rfl, ?_⟩))
    go_loopg [4, 5, 6, 7] k (fun kq v4 v5 v6 v7 w' => ∃ (x4_1 : Int) (x5_1 : Int) (x6_1 : Int) (x7_1 : Int), v4 = .int .i64 x4_1 ∧ v5 = .int .i64 x5_1 ∧ v6 = .int .i64 x6_1 ∧ v7 = .int .i64 x7_1 ∧ Aside0 (bourneref04_Inv.l0 kq x4_1 x5_1 x6_1 x7_1 = some (r1, r2)) ∧ Aside0 (kq ≤ k) ∧ Drawn0 w w')
    case atStart => exact ⟨(2305843009213691579), (t148), (0), (1), (by first | rfl | (simp; done) | (simp [*]; done)), (by first | rfl | (simp; done) | (simp [*]; done)), (by first | rfl | (simp; done) | (simp [*]; done)), (by first | rfl | (simp; done) | (simp [*]; done)), H', ⟨Nat.le_refl _⟩, by repeat (first | exact Drawn0.refl _ | apply Drawn0.step)⟩
    case round =>
      clear H'
      try clear c1
      try clear c2
      try clear p2
      try clear c3
      try clear c3b0
      try clear c3b1
      obtain ⟨x4_1, x5_1, x6_1, x7_1, rfl, rfl, rfl, rfl, HA, HK1, ⟨m1, rfl⟩⟩ := hrel
      cases gk with
      | zero => exact absurd HA.out (by simp [bourneref04_Inv.l0])
      | succ k1 =>
        have H := HA.out
        clear HA
        simp only [bourneref04_Inv.l0] at H
        by_cases c4 : x5_1 > 0
        · rw [if_pos c4] at H
          have c4b0 : decide (0 < x5_1) = true := decide_eq_true c4
          clear c4
          by_cases c5 : x5_1 = 0
          · rw [if_pos c5] at H
            exact absurd H (by simp)
          · rw [if_neg c5] at H
            have c5b0 : (x5_1 == 0) = false := beq_eq_false_iff_ne.mpr c5
            have c5b1 : (x5_1 != 0) = true := bne_iff_ne.mpr c5
            have H' := Aside0.mk H
            clear H
            go_wp2
            go_roundg k1
            case measure => have := HK1.out; omega
            case rel => exact ⟨(x5_1), (wrap64 (x4_1 - (wrap64 ((wrap64 (Int.tdiv x4_1 x5_1)) * x5_1)))), (x7_1), (wrap64 (x6_1 - (wrap64 ((wrap64 (Int.tdiv x4_1 x5_1)) * x7_1)))), (by first | rfl | (simp; done) | (simp [*]; done)), (by first | rfl | (simp; done) | (simp [*]; done)), (by first | rfl | (simp; done) | (simp [*]; done)), (by first | rfl | (simp; done) | (simp [*]; done)), H', ⟨by have := HK1.out; omega⟩, by repeat (first | exact Drawn0.refl _ | apply Drawn0.step)⟩
        · rw [if_neg c4] at H
          have c4b0 : decide (0 < x5_1) = false := decide_eq_false c4
          clear c4
          replace H := Option.bind_eq_some_iff.mp H
          obtain ⟨t149, A60, H⟩ := H
          replace H : (some (t149, true)) = some (r1, r2) := H
          have A6 := Aside0.mk A60
          clear A60
          simp only [Option.some.injEq, Prod.mk.injEq] at H
          obtain ⟨rfl, rfl⟩ := H
          go_wp2_with (first | ((with_reducible refine gate_callee (f := 24) rfl ?_); refine goesL_ (some 31) rfl rfl Try.func24 (by kernel_rfl) rfl #[.int .i64 x6_1, .int .i64 2305843009213691579] rfl (by (try simp only [List.map_toArray, List.map_cons, List.map_nil]); first | done | rfl | (simp only [List.length_drop, List.length_take]; rfl)) ?_; (with_reducible refine (bourneref04_Mod.calls x6_1 2305843009213691579 t149 _ A6.out).mono ?_); rintro e w' ⟨rfl, ⟨nd, rfl⟩⟩; refine ⟨_, rfl, ?_⟩))
          go_ret2
          exact ⟨by first | rfl | (simp; done) | (simp [*]; done), by repeat (first | exact Drawn0.refl _ | apply Drawn0.step)⟩

/-! ### bourneref04_times: function 26 -/
mutual
def bourneref04_times.l0 : Nat → Int → Int → Int → Int → Option (Int)
  | 0, _, _, _, _ => none
  | k + 1, x0, x1, x2, x7 => if x1 > 0 then (if (Go.bits .and .i64 x1 1) = 1 then (if (wrap64 (x7 + x0)) ≥ x2 then (bourneref04_times.j1 k x0 x1 x2 (wrap64 ((wrap64 (x7 + x0)) - x2))) else (bourneref04_times.j1 k x0 x1 x2 (wrap64 (x7 + x0)))) else (bourneref04_times.j1 k x0 x1 x2 x7)) else (some x7)
def bourneref04_times.j1 : Nat → Int → Int → Int → Int → Option (Int)
  | 0, _, _, _, _ => none
  | k + 1, x0, x1, x2, x7 => if (wrap64 (x0 + x0)) ≥ x2 then (bourneref04_times.l0 k (wrap64 ((wrap64 (x0 + x0)) - x2)) (x1 / 2) x2 x7) else (bourneref04_times.l0 k (wrap64 (x0 + x0)) (x1 / 2) x2 x7)
end
def bourneref04_times.f (k : Nat) (a0 : Int) (a1 : Int) (a2 : Int) : Option (Int) := bourneref04_times.l0 k a0 a1 a2 0
theorem bourneref04_times.mono_l : ∀ k, (∀ y0 y1 y2 y3, LeO (bourneref04_times.l0 k y0 y1 y2 y3) (bourneref04_times.l0 (k + 1) y0 y1 y2 y3)) ∧ (∀ y0 y1 y2 y3, LeO (bourneref04_times.j1 k y0 y1 y2 y3) (bourneref04_times.j1 (k + 1) y0 y1 y2 y3))
  | 0 => ⟨fun _ _ _ _ r h => by simp [bourneref04_times.l0] at h, fun _ _ _ _ r h => by simp [bourneref04_times.j1] at h⟩
  | k + 1 => by
    obtain ⟨ih0, ih1⟩ := bourneref04_times.mono_l k
    refine ⟨?_, ?_⟩
    · intro y0 y1 y2 y3
      unfold bourneref04_times.l0
      repeat' first
      | (with_reducible exact ih0 _ _ _ _)
      | (with_reducible exact ih1 _ _ _ _)
      | (with_reducible exact LeO.refl _)
      | (with_reducible exact LeO.none _)
      | (with_reducible refine LeO.ite ?_ ?_)
      | (with_reducible refine LeO.bind ?_ (fun _ => ?_))
      | exact ih0 _ _ _ _
      | exact ih1 _ _ _ _
      | exact LeO.none _
      | refine LeO.ite ?_ ?_
      | refine LeO.bind ?_ (fun _ => ?_)
    · intro y0 y1 y2 y3
      unfold bourneref04_times.j1
      repeat' first
      | (with_reducible exact ih0 _ _ _ _)
      | (with_reducible exact ih1 _ _ _ _)
      | (with_reducible exact LeO.refl _)
      | (with_reducible exact LeO.none _)
      | (with_reducible refine LeO.ite ?_ ?_)
      | (with_reducible refine LeO.bind ?_ (fun _ => ?_))
      | exact ih0 _ _ _ _
      | exact ih1 _ _ _ _
      | exact LeO.none _
      | refine LeO.ite ?_ ?_
      | refine LeO.bind ?_ (fun _ => ?_)
theorem bourneref04_times.mono : ∀ a0 a1 a2 k, LeO (bourneref04_times.f k a0 a1 a2) (bourneref04_times.f (k + 1) a0 a1 a2) := by
  intro a0 a1 a2 k
  obtain ⟨ih0, ih1⟩ := bourneref04_times.mono_l k
  unfold bourneref04_times.f
  repeat' first
      | (with_reducible exact ih0 _ _ _ _)
      | (with_reducible exact ih1 _ _ _ _)
      | (with_reducible exact LeO.refl _)
      | (with_reducible exact LeO.none _)
      | (with_reducible refine LeO.ite ?_ ?_)
      | (with_reducible refine LeO.bind ?_ (fun _ => ?_))
      | exact ih0 _ _ _ _
      | exact ih1 _ _ _ _
      | exact LeO.none _
      | refine LeO.ite ?_ ?_
      | refine LeO.bind ?_ (fun _ => ?_)
set_option maxHeartbeats 8000000 in
set_option maxRecDepth 100000 in
theorem bourneref04_times.calls (k : Nat) (a0 : Int) (a1 : Int) (a2 : Int) (r : Int) (w : World) (h : bourneref04_times.f k a0 a1 a2 = some r) :
    Calls Try.prog 26 #[.int .i64 a0, .int .i64 a1, .int .i64 a2] w fun e w' => e = .returned (.int .i64 r) ∧ Drawn0 w w' := by
  have H : (bourneref04_times.l0 k a0 a1 a2 0) = some r := h
  clear h
  have H' := Aside0.mk H
  clear H
  go_enter Try.func26, Try.ntmps26
  go_wp2
  go_loopg [0, 1, 7] k (fun kq v0 v1 v7 w' => ∃ (x0_1 : Int) (x1_1 : Int) (x7_1 : Int), v0 = .int .i64 x0_1 ∧ v1 = .int .i64 x1_1 ∧ v7 = .int .i64 x7_1 ∧ Aside0 (bourneref04_times.l0 kq x0_1 x1_1 a2 x7_1 = some r) ∧ Aside0 (kq ≤ k) ∧ Drawn0 w w')
  case atStart => exact ⟨(a0), (a1), (0), (by first | rfl | (simp; done) | (simp [*]; done)), (by first | rfl | (simp; done) | (simp [*]; done)), (by first | rfl | (simp; done) | (simp [*]; done)), H', ⟨Nat.le_refl _⟩, by repeat (first | exact Drawn0.refl _ | apply Drawn0.step)⟩
  case round =>
    clear H'
    try clear c2
    try clear p2
    obtain ⟨x0_1, x1_1, x7_1, rfl, rfl, rfl, HA, HK1, ⟨m1, rfl⟩⟩ := hrel
    cases gk with
    | zero => exact absurd HA.out (by simp [bourneref04_times.l0])
    | succ k1 =>
      have H := HA.out
      clear HA
      simp only [bourneref04_times.l0] at H
      by_cases c4 : x1_1 > 0
      · rw [if_pos c4] at H
        have c4b0 : decide (0 < x1_1) = true := decide_eq_true c4
        clear c4
        have HC5 := Aside0.mk H
        clear H
        go_upto_if 12 with (fail)
        go_cut [7] (fun v7 wc => ∃ (kq : Nat) (x7_4 : Int), v7 = .int .i64 x7_4 ∧ Aside0 (bourneref04_times.j1 kq x0_1 x1_1 a2 x7_4 = some r) ∧ Aside0 (kq ≤ k1) ∧ Drawn0 w wc)
        case first =>
          have H := HC5.out
          clear HC5
          by_cases c6 : (Go.bits .and .i64 x1_1 1) = 1
          · rw [if_pos c6] at H
            have c6b0 : ((Go.bits .and .i64 x1_1 1) == 1) = true := beq_iff_eq.mpr c6
            have c6b1 : ((Go.bits .and .i64 x1_1 1) != 1) = false := bne_eq_false_iff_eq.mpr c6
            clear c6
            (first | rw [c6b0] | (simp only [i64_w, i32_w]; rw [c6b0]) | skip)
            by_cases c7 : (wrap64 (x7_1 + x0_1)) ≥ a2
            · rw [if_pos c7] at H
              have c7b0 : decide (a2 ≤ (wrap64 (x7_1 + x0_1))) = true := decide_eq_true c7
              clear c7
              have H' := Aside0.mk H
              clear H
              go_wp2
              go_meet
              case rel => exact ⟨_, (wrap64 ((wrap64 (x7_1 + x0_1)) - a2)), (by first | rfl | (simp; done) | (simp [*]; done)), H', ⟨by have := HK1.out; first | omega | exact Nat.le_refl _⟩, by repeat (first | exact Drawn0.refl _ | apply Drawn0.step)⟩
            · rw [if_neg c7] at H
              have c7b0 : decide (a2 ≤ (wrap64 (x7_1 + x0_1))) = false := decide_eq_false c7
              clear c7
              have H' := Aside0.mk H
              clear H
              go_wp2
              go_meet
              case rel => exact ⟨_, (wrap64 (x7_1 + x0_1)), (by first | rfl | (simp; done) | (simp [*]; done)), H', ⟨by have := HK1.out; first | omega | exact Nat.le_refl _⟩, by repeat (first | exact Drawn0.refl _ | apply Drawn0.step)⟩
          · rw [if_neg c6] at H
            have c6b0 : ((Go.bits .and .i64 x1_1 1) == 1) = false := beq_eq_false_iff_ne.mpr c6
            have c6b1 : ((Go.bits .and .i64 x1_1 1) != 1) = true := bne_iff_ne.mpr c6
            (first | rw [c6b0] | (simp only [i64_w, i32_w]; rw [c6b0]) | skip)
            have H' := Aside0.mk H
            clear H
            go_wp2
            go_meet
            case rel => exact ⟨_, (x7_1), (by first | rfl | (simp; done) | (simp [*]; done)), H', ⟨by have := HK1.out; first | omega | exact Nat.le_refl _⟩, by repeat (first | exact Drawn0.refl _ | apply Drawn0.step)⟩
        case rest =>
          clear HC5
          try clear c2
          try clear p2
          try clear c4
          try clear c4b0
          try clear c6
          try clear c6b0
          try clear c6b1
          try clear p6
          try clear c7
          try clear c7b0
          try clear p2
          obtain ⟨kq, x7_4, rfl, HA, HJ4, ⟨mc4, rfl⟩⟩ := hcut
          cases kq with
          | zero => exact absurd HA.out (by simp [bourneref04_times.j1])
          | succ kj4 =>
            have H := HA.out
            clear HA
            simp only [bourneref04_times.j1] at H
            by_cases c8 : (wrap64 (x0_1 + x0_1)) ≥ a2
            · rw [if_pos c8] at H
              have c8b0 : decide (a2 ≤ (wrap64 (x0_1 + x0_1))) = true := decide_eq_true c8
              clear c8
              have H' := Aside0.mk H
              clear H
              go_wp2
              go_roundg kj4
              case measure => have := HK1.out; have := HJ4.out; omega
              case rel => exact ⟨(wrap64 ((wrap64 (x0_1 + x0_1)) - a2)), (x1_1 / 2), (x7_4), (by first | rfl | (simp; done) | (simp [*]; done)), (by first | rfl | (simp; done) | (simp [*]; done)), (by first | rfl | (simp; done) | (simp [*]; done)), H', ⟨by have := HK1.out; have := HJ4.out; omega⟩, by repeat (first | exact Drawn0.refl _ | apply Drawn0.step)⟩
            · rw [if_neg c8] at H
              have c8b0 : decide (a2 ≤ (wrap64 (x0_1 + x0_1))) = false := decide_eq_false c8
              clear c8
              have H' := Aside0.mk H
              clear H
              go_wp2
              go_roundg kj4
              case measure => have := HK1.out; have := HJ4.out; omega
              case rel => exact ⟨(wrap64 (x0_1 + x0_1)), (x1_1 / 2), (x7_4), (by first | rfl | (simp; done) | (simp [*]; done)), (by first | rfl | (simp; done) | (simp [*]; done)), (by first | rfl | (simp; done) | (simp [*]; done)), H', ⟨by have := HK1.out; have := HJ4.out; omega⟩, by repeat (first | exact Drawn0.refl _ | apply Drawn0.step)⟩
      · rw [if_neg c4] at H
        have c4b0 : decide (0 < x1_1) = false := decide_eq_false c4
        clear c4
        obtain rfl := Option.some.inj H
        go_wp2
        go_ret
        exact ⟨by first | rfl | (simp; done) | (simp [*]; done), by repeat (first | exact Drawn0.refl _ | apply Drawn0.step)⟩

end Go.Proofs.Ytlnkmbbmefbnpaa.Fn
