-- written by this session's program myprint.py out of the translation; Lean checks it
import Derived.Test.YtlnkmbbmefbnpaaFn0
import Derived.Test.YtlnkmbbmefbnpaaFn2
import Derived.Test.YtlnkmbbmefbnpaaFn3
namespace Go.Proofs.Ytlnkmbbmefbnpaa.Fn
open Go.RowKit Go.Proofs.YtlnkmbbmefbnpaaW.PrintWords Go.Proofs.YtlnkmbbmefbnpaaW.PrintLast Go.Proofs.YtlnkmbbmefbnpaaW.PrintMore
attribute [local go_sem] max2_int min2_int max_two min_two max_three min_three max_four min_four   -- for this text's walks alone
set_option linter.unusedVariables false
set_option linter.unusedSimpArgs false

/-! ### bournelaw04_GroupMembers: function 4 -/
mutual
def bournelaw04_GroupMembers.j0 : Nat → Int → Int → Bool → Int → Int → Bool → Option (Bool)
  | 0, _, _, _, _, _, _ => none
  | k + 1, x0, x2, x7, x8, x9, x26 => if x26 = true then (if x7 = true then ((group_In.f k 0).bind fun t188 => (some (!t188))) else (some false)) else ((group_Inv.f k x8).bind fun bt189 => ((group_In.f k x8).bind fun t191 => ((group_In.f k (wrap64 (2305843009213691579 - x8))).bind fun t192 => (if (t192 != t191) = true then ((group_Mul.f k x8 x8).bind fun t193 => ((group_In.f k t193).bind fun t194 => (if t194 = true then ((group_Exp.f k 4 x2).bind fun t195 => ((group_In.f k t195).bind fun t196 => (bournelaw04_GroupMembers.j1 k x0 x7 x8 x9 bt189.1 bt189.2 t191 t196))) else (bournelaw04_GroupMembers.j1 k x0 x7 x8 x9 bt189.1 bt189.2 t191 false)))) else (bournelaw04_GroupMembers.j1 k x0 x7 x8 x9 bt189.1 bt189.2 t191 false)))))
def bournelaw04_GroupMembers.j1 : Nat → Int → Bool → Int → Int → Int → Bool → Bool → Bool → Option (Bool)
  | 0, _, _, _, _, _, _, _, _ => none
  | k + 1, x0, x7, x8, x9, x10, x11, x12, x13 => (group_Mul.f k x8 x9).bind fun t197 => ((group_In.f k t197).bind fun t198 => ((group_In.f k x9).bind fun t199 => (if (t198 == (x12 == t199)) = true then ((group_In.f k x10).bind fun t200 => (if (t200 == x12) = true then ((group_Mul.f k x10 x8).bind fun t201 => (bournelaw04_GroupMembers.j2 k x0 x7 x8 x11 x12 x13 (t201 == 1))) else (bournelaw04_GroupMembers.j2 k x0 x7 x8 x11 x12 x13 false))) else (bournelaw04_GroupMembers.j2 k x0 x7 x8 x11 x12 x13 false))))
def bournelaw04_GroupMembers.j2 : Nat → Int → Bool → Int → Bool → Bool → Bool → Bool → Option (Bool)
  | 0, _, _, _, _, _, _, _ => none
  | k + 1, x0, x7, x8, x11, x12, x13, x14 => (group_Exp.f k x8 1152921504606845789).bind fun t202 => (if x7 = true then (if x11 = true then (if x13 = true then (if x14 = true then (if x12 = true then (if t202 = 1 then ((group_In.f k x0).bind fun t203 => (some (t203 == (x0 == x8)))) else (some false)) else (if t202 = 2305843009213691578 then ((group_In.f k x0).bind fun t204 => (some (t204 == false))) else (some false))) else (some false)) else (some false)) else (some false)) else (some false))
end
def bournelaw04_GroupMembers.f (k : Nat) (a0 : Int) (a1 : Int) (a2 : Int) : Option (Bool) := (bournelaw04_small.f k).bind fun t185 => ((group_Mul.f k a0 1).bind fun t186 => ((group_Mul.f k a1 1).bind fun t187 => (if t186 = 0 then (bournelaw04_GroupMembers.j0 k a0 a2 t185 t186 t187 true) else (bournelaw04_GroupMembers.j0 k a0 a2 t185 t186 t187 (t187 == 0)))))
theorem bournelaw04_GroupMembers.mono_l : ∀ k, (∀ y0 y1 y2 y3 y4 y5, LeO (bournelaw04_GroupMembers.j0 k y0 y1 y2 y3 y4 y5) (bournelaw04_GroupMembers.j0 (k + 1) y0 y1 y2 y3 y4 y5)) ∧ (∀ y0 y1 y2 y3 y4 y5 y6 y7, LeO (bournelaw04_GroupMembers.j1 k y0 y1 y2 y3 y4 y5 y6 y7) (bournelaw04_GroupMembers.j1 (k + 1) y0 y1 y2 y3 y4 y5 y6 y7)) ∧ (∀ y0 y1 y2 y3 y4 y5 y6, LeO (bournelaw04_GroupMembers.j2 k y0 y1 y2 y3 y4 y5 y6) (bournelaw04_GroupMembers.j2 (k + 1) y0 y1 y2 y3 y4 y5 y6))
  | 0 => ⟨fun _ _ _ _ _ _ r h => by simp [bournelaw04_GroupMembers.j0] at h, fun _ _ _ _ _ _ _ _ r h => by simp [bournelaw04_GroupMembers.j1] at h, fun _ _ _ _ _ _ _ r h => by simp [bournelaw04_GroupMembers.j2] at h⟩
  | k + 1 => by
    obtain ⟨ih0, ih1, ih2⟩ := bournelaw04_GroupMembers.mono_l k
    refine ⟨?_, ?_, ?_⟩
    · intro y0 y1 y2 y3 y4 y5
      unfold bournelaw04_GroupMembers.j0
      repeat' first
      | (with_reducible exact ih0 _ _ _ _ _ _)
      | (with_reducible exact ih1 _ _ _ _ _ _ _ _)
      | (with_reducible exact ih2 _ _ _ _ _ _ _)
      | (with_reducible exact bournelaw04_small.mono _)
      | (with_reducible exact group_Exp.mono _ _ _)
      | (with_reducible exact group_In.mono _ _)
      | (with_reducible exact group_Inv.mono _ _)
      | (with_reducible exact group_Mul.mono _ _ _)
      | (with_reducible exact LeO.refl _)
      | (with_reducible exact LeO.none _)
      | (with_reducible refine LeO.ite ?_ ?_)
      | (with_reducible refine LeO.bind ?_ (fun _ => ?_))
      | exact ih0 _ _ _ _ _ _
      | exact ih1 _ _ _ _ _ _ _ _
      | exact ih2 _ _ _ _ _ _ _
      | exact bournelaw04_small.mono _
      | exact group_Exp.mono _ _ _
      | exact group_In.mono _ _
      | exact group_Inv.mono _ _
      | exact group_Mul.mono _ _ _
      | exact LeO.none _
      | refine LeO.ite ?_ ?_
      | refine LeO.bind ?_ (fun _ => ?_)
    · intro y0 y1 y2 y3 y4 y5 y6 y7
      unfold bournelaw04_GroupMembers.j1
      repeat' first
      | (with_reducible exact ih0 _ _ _ _ _ _)
      | (with_reducible exact ih1 _ _ _ _ _ _ _ _)
      | (with_reducible exact ih2 _ _ _ _ _ _ _)
      | (with_reducible exact bournelaw04_small.mono _)
      | (with_reducible exact group_Exp.mono _ _ _)
      | (with_reducible exact group_In.mono _ _)
      | (with_reducible exact group_Inv.mono _ _)
      | (with_reducible exact group_Mul.mono _ _ _)
      | (with_reducible exact LeO.refl _)
      | (with_reducible exact LeO.none _)
      | (with_reducible refine LeO.ite ?_ ?_)
      | (with_reducible refine LeO.bind ?_ (fun _ => ?_))
      | exact ih0 _ _ _ _ _ _
      | exact ih1 _ _ _ _ _ _ _ _
      | exact ih2 _ _ _ _ _ _ _
      | exact bournelaw04_small.mono _
      | exact group_Exp.mono _ _ _
      | exact group_In.mono _ _
      | exact group_Inv.mono _ _
      | exact group_Mul.mono _ _ _
      | exact LeO.none _
      | refine LeO.ite ?_ ?_
      | refine LeO.bind ?_ (fun _ => ?_)
    · intro y0 y1 y2 y3 y4 y5 y6
      unfold bournelaw04_GroupMembers.j2
      repeat' first
      | (with_reducible exact ih0 _ _ _ _ _ _)
      | (with_reducible exact ih1 _ _ _ _ _ _ _ _)
      | (with_reducible exact ih2 _ _ _ _ _ _ _)
      | (with_reducible exact bournelaw04_small.mono _)
      | (with_reducible exact group_Exp.mono _ _ _)
      | (with_reducible exact group_In.mono _ _)
      | (with_reducible exact group_Inv.mono _ _)
      | (with_reducible exact group_Mul.mono _ _ _)
      | (with_reducible exact LeO.refl _)
      | (with_reducible exact LeO.none _)
      | (with_reducible refine LeO.ite ?_ ?_)
      | (with_reducible refine LeO.bind ?_ (fun _ => ?_))
      | exact ih0 _ _ _ _ _ _
      | exact ih1 _ _ _ _ _ _ _ _
      | exact ih2 _ _ _ _ _ _ _
      | exact bournelaw04_small.mono _
      | exact group_Exp.mono _ _ _
      | exact group_In.mono _ _
      | exact group_Inv.mono _ _
      | exact group_Mul.mono _ _ _
      | exact LeO.none _
      | refine LeO.ite ?_ ?_
      | refine LeO.bind ?_ (fun _ => ?_)
theorem bournelaw04_GroupMembers.mono : ∀ a0 a1 a2 k, LeO (bournelaw04_GroupMembers.f k a0 a1 a2) (bournelaw04_GroupMembers.f (k + 1) a0 a1 a2) := by
  intro a0 a1 a2 k
  obtain ⟨ih0, ih1, ih2⟩ := bournelaw04_GroupMembers.mono_l k
  unfold bournelaw04_GroupMembers.f
  repeat' first
      | (with_reducible exact ih0 _ _ _ _ _ _)
      | (with_reducible exact ih1 _ _ _ _ _ _ _ _)
      | (with_reducible exact ih2 _ _ _ _ _ _ _)
      | (with_reducible exact bournelaw04_small.mono _)
      | (with_reducible exact group_Exp.mono _ _ _)
      | (with_reducible exact group_In.mono _ _)
      | (with_reducible exact group_Inv.mono _ _)
      | (with_reducible exact group_Mul.mono _ _ _)
      | (with_reducible exact LeO.refl _)
      | (with_reducible exact LeO.none _)
      | (with_reducible refine LeO.ite ?_ ?_)
      | (with_reducible refine LeO.bind ?_ (fun _ => ?_))
      | exact ih0 _ _ _ _ _ _
      | exact ih1 _ _ _ _ _ _ _ _
      | exact ih2 _ _ _ _ _ _ _
      | exact bournelaw04_small.mono _
      | exact group_Exp.mono _ _ _
      | exact group_In.mono _ _
      | exact group_Inv.mono _ _
      | exact group_Mul.mono _ _ _
      | exact LeO.none _
      | refine LeO.ite ?_ ?_
      | refine LeO.bind ?_ (fun _ => ?_)
set_option maxHeartbeats 8000000 in
set_option maxRecDepth 100000 in
theorem bournelaw04_GroupMembers.calls (k : Nat) (a0 : Int) (a1 : Int) (a2 : Int) (r : Bool) (w : World) (h : bournelaw04_GroupMembers.f k a0 a1 a2 = some r) :
    Calls Try.prog 4 #[.int .i64 a0, .int .i64 a1, .int .i64 a2] w fun e w' => e = .returned (.bool r) ∧ Drawn0 w w' := by
  have H : ((bournelaw04_small.f k).bind fun t185 => ((group_Mul.f k a0 1).bind fun t186 => ((group_Mul.f k a1 1).bind fun t187 => (if t186 = 0 then (bournelaw04_GroupMembers.j0 k a0 a2 t185 t186 t187 true) else (bournelaw04_GroupMembers.j0 k a0 a2 t185 t186 t187 (t187 == 0)))))) = some r := h
  clear h
  replace H := Option.bind_eq_some_iff.mp H
  obtain ⟨t185, A40, H⟩ := H
  replace H : ((group_Mul.f k a0 1).bind fun t186 => ((group_Mul.f k a1 1).bind fun t187 => (if t186 = 0 then (bournelaw04_GroupMembers.j0 k a0 a2 t185 t186 t187 true) else (bournelaw04_GroupMembers.j0 k a0 a2 t185 t186 t187 (t187 == 0))))) = some r := H
  have A4 := Aside0.mk A40
  clear A40
  replace H := Option.bind_eq_some_iff.mp H
  obtain ⟨t186, A50, H⟩ := H
  replace H : ((group_Mul.f k a1 1).bind fun t187 => (if t186 = 0 then (bournelaw04_GroupMembers.j0 k a0 a2 t185 t186 t187 true) else (bournelaw04_GroupMembers.j0 k a0 a2 t185 t186 t187 (t187 == 0)))) = some r := H
  have A5 := Aside0.mk A50
  clear A50
  replace H := Option.bind_eq_some_iff.mp H
  obtain ⟨t187, A60, H⟩ := H
  replace H : (if t186 = 0 then (bournelaw04_GroupMembers.j0 k a0 a2 t185 t186 t187 true) else (bournelaw04_GroupMembers.j0 k a0 a2 t185 t186 t187 (t187 == 0))) = some r := H
  have A6 := Aside0.mk A60
  clear A60
  have HC7 := Aside0.mk H
  clear H
  go_enter Try.func4, Try.ntmps4
  go_upto_region 4 with (first | ((with_reducible refine gate_callee (f := 8) rfl ?_); refine goesL_ (some 16) rfl rfl Try.func8 (by kernel_rfl) rfl #[] rfl (by (try simp only [List.map_toArray, List.map_cons, List.map_nil]); first | done | rfl | (simp only [List.length_drop, List.length_take]; rfl)) ?_; (with_reducible refine (bournelaw04_small.calls k  t185 _ A4.out).mono ?_); rintro e w' ⟨rfl, ⟨nd, rfl⟩⟩; refine ⟨_, rfl, ?_⟩) | ((with_reducible refine gate_callee (f := 11) rfl ?_); refine goesL_ (some 18) rfl rfl Try.func11 (by kernel_rfl) rfl #[.int .i64 a0, .int .i64 1] rfl (by (try simp only [List.map_toArray, List.map_cons, List.map_nil]); first | done | rfl | (simp only [List.length_drop, List.length_take]; rfl)) ?_; (with_reducible refine (group_Mul.calls k a0 1 t186 _ A5.out).mono ?_); rintro e w' ⟨rfl, ⟨nd, rfl⟩⟩; refine ⟨_, rfl, ?_⟩) | ((with_reducible refine gate_callee (f := 11) rfl ?_); refine goesL_ (some 20) rfl rfl Try.func11 (by kernel_rfl) rfl #[.int .i64 a1, .int .i64 1] rfl (by (try simp only [List.map_toArray, List.map_cons, List.map_nil]); first | done | rfl | (simp only [List.length_drop, List.length_take]; rfl)) ?_; (with_reducible refine (group_Mul.calls k a1 1 t187 _ A6.out).mono ?_); rintro e w' ⟨rfl, ⟨nd, rfl⟩⟩; refine ⟨_, rfl, ?_⟩))
  (try simp only [Act.put, List.setIfInBounds_toArray, List.set_cons_zero, List.set_cons_succ])
  go_cut [26] (fun v26 wc => ∃ (kq : Nat) (x26_6 : Bool), v26 = .bool x26_6 ∧ Aside0 (bournelaw04_GroupMembers.j0 kq a0 a2 t185 t186 t187 x26_6 = some r) ∧ Aside0 (kq ≤ k) ∧ Drawn0 w wc)
  case first =>
    have H := HC7.out
    clear HC7
    by_cases c8 : t186 = 0
    · rw [if_pos c8] at H
      have c8b0 : (t186 == 0) = true := beq_iff_eq.mpr c8
      have c8b1 : (t186 != 0) = false := bne_eq_false_iff_eq.mpr c8
      clear c8
      (first | rw [c8b0] | (simp only [i64_w, i32_w]; rw [c8b0]) | skip)
      have H' := Aside0.mk H
      clear H
      go_wp2
      go_meet
      case rel => exact ⟨_, (true), (by first | rfl | (simp; done) | (simp [*]; done)), H', ⟨by first | omega | exact Nat.le_refl _⟩, by repeat (first | exact Drawn0.refl _ | apply Drawn0.step)⟩
    · rw [if_neg c8] at H
      have c8b0 : (t186 == 0) = false := beq_eq_false_iff_ne.mpr c8
      have c8b1 : (t186 != 0) = true := bne_iff_ne.mpr c8
      (first | rw [c8b0] | (simp only [i64_w, i32_w]; rw [c8b0]) | skip)
      have H' := Aside0.mk H
      clear H
      go_wp2
      go_meet
      case rel => exact ⟨_, ((t187 == 0)), (by first | rfl | (simp; done) | (simp [*]; done)), H', ⟨by first | omega | exact Nat.le_refl _⟩, by repeat (first | exact Drawn0.refl _ | apply Drawn0.step)⟩
  case rest =>
    clear HC7
    try clear c1
    try clear p2
    try clear c4
    try clear c8
    try clear c8b0
    try clear c8b1
    obtain ⟨kq, x26_6, rfl, HA, HJ6, ⟨mc6, rfl⟩⟩ := hcut
    cases kq with
    | zero => exact absurd HA.out (by simp [bournelaw04_GroupMembers.j0])
    | succ kj6 =>
      have H := HA.out
      clear HA
      simp only [bournelaw04_GroupMembers.j0] at H
      by_cases c9 : x26_6 = true
      · subst c9
        have H1 : (if t185 = true then ((group_In.f kj6 0).bind fun t188 => (some (!t188))) else (some false)) = some r := by rw [if_pos rfl] at H; exact H
        clear H
        have H := H1
        clear H1
        by_cases c10 : t185 = true
        · subst c10
          have H1 : ((group_In.f kj6 0).bind fun t188 => (some (!t188))) = some r := by rw [if_pos rfl] at H; exact H
          clear H
          have H := H1
          clear H1
          replace H := Option.bind_eq_some_iff.mp H
          obtain ⟨t188, A110, H⟩ := H
          replace H : (some (!t188)) = some r := H
          have A11 := Aside0.mk A110
          clear A110
          obtain rfl := Option.some.inj H
          go_wp2_with (first | (go_at_call 15; (with_reducible refine (group_In.calls kj6 0 t188 _ A11.out).mono ?_); rintro e w' ⟨rfl, ⟨nd, rfl⟩⟩; (try clear A11)))
          go_ret
          exact ⟨by first | rfl | (simp; done) | (simp [*]; done), by repeat (first | exact Drawn0.refl _ | apply Drawn0.step)⟩
        · replace c10 := Bool.eq_false_iff.mpr c10
          subst c10
          have H1 : (some false) = some r := by rw [if_neg (show ¬ (false = true) by decide)] at H; exact H
          clear H
          have H := H1
          clear H1
          obtain rfl := Option.some.inj H
          go_wp2
          go_ret
          exact ⟨by first | rfl | (simp; done) | (simp [*]; done), by repeat (first | exact Drawn0.refl _ | apply Drawn0.step)⟩
      · replace c9 := Bool.eq_false_iff.mpr c9
        subst c9
        have H1 : ((group_Inv.f kj6 t186).bind fun bt189 => ((group_In.f kj6 t186).bind fun t191 => ((group_In.f kj6 (wrap64 (2305843009213691579 - t186))).bind fun t192 => (if (t192 != t191) = true then ((group_Mul.f kj6 t186 t186).bind fun t193 => ((group_In.f kj6 t193).bind fun t194 => (if t194 = true then ((group_Exp.f kj6 4 a2).bind fun t195 => ((group_In.f kj6 t195).bind fun t196 => (bournelaw04_GroupMembers.j1 kj6 a0 t185 t186 t187 bt189.1 bt189.2 t191 t196))) else (bournelaw04_GroupMembers.j1 kj6 a0 t185 t186 t187 bt189.1 bt189.2 t191 false)))) else (bournelaw04_GroupMembers.j1 kj6 a0 t185 t186 t187 bt189.1 bt189.2 t191 false))))) = some r := by rw [if_neg (show ¬ (false = true) by decide)] at H; exact H
        clear H
        have H := H1
        clear H1
        replace H := Option.bind_eq_some_iff.mp H
        obtain ⟨⟨t189, t190⟩, A120, H⟩ := H
        replace H : ((group_In.f kj6 t186).bind fun t191 => ((group_In.f kj6 (wrap64 (2305843009213691579 - t186))).bind fun t192 => (if (t192 != t191) = true then ((group_Mul.f kj6 t186 t186).bind fun t193 => ((group_In.f kj6 t193).bind fun t194 => (if t194 = true then ((group_Exp.f kj6 4 a2).bind fun t195 => ((group_In.f kj6 t195).bind fun t196 => (bournelaw04_GroupMembers.j1 kj6 a0 t185 t186 t187 t189 t190 t191 t196))) else (bournelaw04_GroupMembers.j1 kj6 a0 t185 t186 t187 t189 t190 t191 false)))) else (bournelaw04_GroupMembers.j1 kj6 a0 t185 t186 t187 t189 t190 t191 false)))) = some r := H
        have A12 := Aside0.mk A120
        clear A120
        replace H := Option.bind_eq_some_iff.mp H
        obtain ⟨t191, A130, H⟩ := H
        replace H : ((group_In.f kj6 (wrap64 (2305843009213691579 - t186))).bind fun t192 => (if (t192 != t191) = true then ((group_Mul.f kj6 t186 t186).bind fun t193 => ((group_In.f kj6 t193).bind fun t194 => (if t194 = true then ((group_Exp.f kj6 4 a2).bind fun t195 => ((group_In.f kj6 t195).bind fun t196 => (bournelaw04_GroupMembers.j1 kj6 a0 t185 t186 t187 t189 t190 t191 t196))) else (bournelaw04_GroupMembers.j1 kj6 a0 t185 t186 t187 t189 t190 t191 false)))) else (bournelaw04_GroupMembers.j1 kj6 a0 t185 t186 t187 t189 t190 t191 false))) = some r := H
        have A13 := Aside0.mk A130
        clear A130
        have HC14 := Aside0.mk H
        clear H
        go_upto_region 8 with (first | ((with_reducible refine gate_callee (f := 9) rfl ?_); refine goesL_ (some 34) rfl rfl Try.func9 (by kernel_rfl) rfl #[.int .i64 t186] rfl (by (try simp only [List.map_toArray, List.map_cons, List.map_nil]); first | done | rfl | (simp only [List.length_drop, List.length_take]; rfl)) ?_; (with_reducible refine (group_Inv.calls kj6 t186 t189 t190 _ A12.out).mono ?_); rintro e w' ⟨rfl, ⟨nd, rfl⟩⟩; refine ⟨_, rfl, ?_⟩) | ((with_reducible refine gate_callee (f := 15) rfl ?_); refine goesL_ (some 38) rfl rfl Try.func15 (by kernel_rfl) rfl #[.int .i64 t186] rfl (by (try simp only [List.map_toArray, List.map_cons, List.map_nil]); first | done | rfl | (simp only [List.length_drop, List.length_take]; rfl)) ?_; (with_reducible refine (group_In.calls kj6 t186 t191 _ A13.out).mono ?_); rintro e w' ⟨rfl, ⟨nd, rfl⟩⟩; refine ⟨_, rfl, ?_⟩))
        (try simp only [Act.put, List.setIfInBounds_toArray, List.set_cons_zero, List.set_cons_succ])
        go_cut [13] (fun v13 wc => ∃ (kq : Nat) (x13_13 : Bool), v13 = .bool x13_13 ∧ Aside0 (bournelaw04_GroupMembers.j1 kq a0 t185 t186 t187 t189 t190 t191 x13_13 = some r) ∧ Aside0 (kq ≤ kj6) ∧ Drawn0 w wc)
        case first =>
          have H := HC14.out
          clear HC14
          replace H := Option.bind_eq_some_iff.mp H
          obtain ⟨t192, A150, H⟩ := H
          replace H : (if (t192 != t191) = true then ((group_Mul.f kj6 t186 t186).bind fun t193 => ((group_In.f kj6 t193).bind fun t194 => (if t194 = true then ((group_Exp.f kj6 4 a2).bind fun t195 => ((group_In.f kj6 t195).bind fun t196 => (bournelaw04_GroupMembers.j1 kj6 a0 t185 t186 t187 t189 t190 t191 t196))) else (bournelaw04_GroupMembers.j1 kj6 a0 t185 t186 t187 t189 t190 t191 false)))) else (bournelaw04_GroupMembers.j1 kj6 a0 t185 t186 t187 t189 t190 t191 false)) = some r := H
          have A15 := Aside0.mk A150
          clear A150
          by_cases c16 : (t192 != t191) = true
          · rw [if_pos c16] at H
            have c16b0 : (t192 != t191) = true := c16
            (try (have c16b1 : decide (t192 = t191) = false := by simpa using c16))
            (try (have c16b2 : (t192 == t191) = false := by simpa using c16))
            (try (have c16b3 : ¬ (t192 = t191) := by simpa using c16))
            clear c16
            (first | rw [c16b0] | (simp only [i64_w, i32_w]; rw [c16b0]) | skip)
            replace H := Option.bind_eq_some_iff.mp H
            obtain ⟨t193, A170, H⟩ := H
            replace H : ((group_In.f kj6 t193).bind fun t194 => (if t194 = true then ((group_Exp.f kj6 4 a2).bind fun t195 => ((group_In.f kj6 t195).bind fun t196 => (bournelaw04_GroupMembers.j1 kj6 a0 t185 t186 t187 t189 t190 t191 t196))) else (bournelaw04_GroupMembers.j1 kj6 a0 t185 t186 t187 t189 t190 t191 false))) = some r := H
            have A17 := Aside0.mk A170
            clear A170
            replace H := Option.bind_eq_some_iff.mp H
            obtain ⟨t194, A180, H⟩ := H
            replace H : (if t194 = true then ((group_Exp.f kj6 4 a2).bind fun t195 => ((group_In.f kj6 t195).bind fun t196 => (bournelaw04_GroupMembers.j1 kj6 a0 t185 t186 t187 t189 t190 t191 t196))) else (bournelaw04_GroupMembers.j1 kj6 a0 t185 t186 t187 t189 t190 t191 false)) = some r := H
            have A18 := Aside0.mk A180
            clear A180
            by_cases c19 : t194 = true
            · subst c19
              have H1 : ((group_Exp.f kj6 4 a2).bind fun t195 => ((group_In.f kj6 t195).bind fun t196 => (bournelaw04_GroupMembers.j1 kj6 a0 t185 t186 t187 t189 t190 t191 t196))) = some r := by rw [if_pos rfl] at H; exact H
              clear H
              have H := H1
              clear H1
              replace H := Option.bind_eq_some_iff.mp H
              obtain ⟨t195, A200, H⟩ := H
              replace H : ((group_In.f kj6 t195).bind fun t196 => (bournelaw04_GroupMembers.j1 kj6 a0 t185 t186 t187 t189 t190 t191 t196)) = some r := H
              have A20 := Aside0.mk A200
              clear A200
              replace H := Option.bind_eq_some_iff.mp H
              obtain ⟨t196, A210, H⟩ := H
              replace H : (bournelaw04_GroupMembers.j1 kj6 a0 t185 t186 t187 t189 t190 t191 t196) = some r := H
              have A21 := Aside0.mk A210
              clear A210
              have H' := Aside0.mk H
              clear H
              go_wp2_with (first | ((with_reducible refine gate_callee (f := 15) rfl ?_); refine goesL_ (some 41) rfl rfl Try.func15 (by kernel_rfl) rfl #[.int .i64 (wrap64 (2305843009213691579 - t186))] rfl (by (try simp only [List.map_toArray, List.map_cons, List.map_nil]); first | done | rfl | (simp only [List.length_drop, List.length_take]; rfl)) ?_; (with_reducible refine (group_In.calls kj6 (wrap64 (2305843009213691579 - t186)) t192 _ A15.out).mono ?_); rintro e w' ⟨rfl, ⟨nd, rfl⟩⟩; refine ⟨_, rfl, ?_⟩) | (go_at_call 11; (with_reducible refine (group_Mul.calls kj6 t186 t186 t193 _ A17.out).mono ?_); rintro e w' ⟨rfl, ⟨nd, rfl⟩⟩; (try clear A17)) | (go_at_call 15; (with_reducible refine (group_In.calls kj6 t193 true _ A18.out).mono ?_); rintro e w' ⟨rfl, ⟨nd, rfl⟩⟩; (try clear A18)) | (go_at_call 13; (with_reducible refine (group_Exp.calls kj6 4 a2 t195 _ A20.out).mono ?_); rintro e w' ⟨rfl, ⟨nd, rfl⟩⟩; (try clear A20)) | (go_at_call 15; (with_reducible refine (group_In.calls kj6 t195 t196 _ A21.out).mono ?_); rintro e w' ⟨rfl, ⟨nd, rfl⟩⟩; (try clear A21)))
              go_meet
              case rel => exact ⟨_, (t196), (by first | rfl | (simp; done) | (simp [*]; done)), H', ⟨by have := HJ6.out; first | omega | exact Nat.le_refl _⟩, by repeat (first | exact Drawn0.refl _ | apply Drawn0.step)⟩
            · replace c19 := Bool.eq_false_iff.mpr c19
              subst c19
              have H1 : (bournelaw04_GroupMembers.j1 kj6 a0 t185 t186 t187 t189 t190 t191 false) = some r := by rw [if_neg (show ¬ (false = true) by decide)] at H; exact H
              clear H
              have H := H1
              clear H1
              have H' := Aside0.mk H
              clear H
              go_wp2_with (first | ((with_reducible refine gate_callee (f := 15) rfl ?_); refine goesL_ (some 41) rfl rfl Try.func15 (by kernel_rfl) rfl #[.int .i64 (wrap64 (2305843009213691579 - t186))] rfl (by (try simp only [List.map_toArray, List.map_cons, List.map_nil]); first | done | rfl | (simp only [List.length_drop, List.length_take]; rfl)) ?_; (with_reducible refine (group_In.calls kj6 (wrap64 (2305843009213691579 - t186)) t192 _ A15.out).mono ?_); rintro e w' ⟨rfl, ⟨nd, rfl⟩⟩; refine ⟨_, rfl, ?_⟩) | (go_at_call 11; (with_reducible refine (group_Mul.calls kj6 t186 t186 t193 _ A17.out).mono ?_); rintro e w' ⟨rfl, ⟨nd, rfl⟩⟩; (try clear A17)) | (go_at_call 15; (with_reducible refine (group_In.calls kj6 t193 false _ A18.out).mono ?_); rintro e w' ⟨rfl, ⟨nd, rfl⟩⟩; (try clear A18)))
              go_meet
              case rel => exact ⟨_, (false), (by first | rfl | (simp; done) | (simp [*]; done)), H', ⟨by have := HJ6.out; first | omega | exact Nat.le_refl _⟩, by repeat (first | exact Drawn0.refl _ | apply Drawn0.step)⟩
          · rw [if_neg c16] at H
            have c16b0 : (t192 != t191) = false := by simpa using c16
            (try (have c16b1 : decide (t192 = t191) = true := by simpa using c16))
            (try (have c16b2 : (t192 == t191) = true := by simpa using c16))
            clear c16
            (first | rw [c16b0] | (simp only [i64_w, i32_w]; rw [c16b0]) | skip)
            have H' := Aside0.mk H
            clear H
            go_wp2_with (first | ((with_reducible refine gate_callee (f := 15) rfl ?_); refine goesL_ (some 41) rfl rfl Try.func15 (by kernel_rfl) rfl #[.int .i64 (wrap64 (2305843009213691579 - t186))] rfl (by (try simp only [List.map_toArray, List.map_cons, List.map_nil]); first | done | rfl | (simp only [List.length_drop, List.length_take]; rfl)) ?_; (with_reducible refine (group_In.calls kj6 (wrap64 (2305843009213691579 - t186)) t192 _ A15.out).mono ?_); rintro e w' ⟨rfl, ⟨nd, rfl⟩⟩; refine ⟨_, rfl, ?_⟩))
            go_meet
            case rel => exact ⟨_, (false), (by first | rfl | (simp; done) | (simp [*]; done)), H', ⟨by have := HJ6.out; first | omega | exact Nat.le_refl _⟩, by repeat (first | exact Drawn0.refl _ | apply Drawn0.step)⟩
        case rest =>
          clear HC14
          try clear c1
          try clear p2
          try clear c4
          try clear c6
          try clear p6
          try clear c8
          try clear c8b0
          try clear c8b1
          try clear c9
          try clear c10
          try clear c11
          try clear c15
          try clear c16
          try clear c16b0
          try clear c16b1
          try clear c16b2
          try clear c19
          try clear p2
          obtain ⟨kq, x13_13, rfl, HA, HJ13, ⟨mc13, rfl⟩⟩ := hcut
          cases kq with
          | zero => exact absurd HA.out (by simp [bournelaw04_GroupMembers.j1])
          | succ kj13 =>
            have H := HA.out
            clear HA
            simp only [bournelaw04_GroupMembers.j1] at H
            have HC22 := Aside0.mk H
            clear H
            go_upto_region 9 with (fail)
            go_cut [14] (fun v14 wc => ∃ (kq : Nat) (x14_21 : Bool), v14 = .bool x14_21 ∧ Aside0 (bournelaw04_GroupMembers.j2 kq a0 t185 t186 t190 t191 x13_13 x14_21 = some r) ∧ Aside0 (kq ≤ kj13) ∧ Drawn0 w wc)
            case first =>
              have H := HC22.out
              clear HC22
              replace H := Option.bind_eq_some_iff.mp H
              obtain ⟨t197, A230, H⟩ := H
              replace H : ((group_In.f kj13 t197).bind fun t198 => ((group_In.f kj13 t187).bind fun t199 => (if (t198 == (t191 == t199)) = true then ((group_In.f kj13 t189).bind fun t200 => (if (t200 == t191) = true then ((group_Mul.f kj13 t189 t186).bind fun t201 => (bournelaw04_GroupMembers.j2 kj13 a0 t185 t186 t190 t191 x13_13 (t201 == 1))) else (bournelaw04_GroupMembers.j2 kj13 a0 t185 t186 t190 t191 x13_13 false))) else (bournelaw04_GroupMembers.j2 kj13 a0 t185 t186 t190 t191 x13_13 false)))) = some r := H
              have A23 := Aside0.mk A230
              clear A230
              replace H := Option.bind_eq_some_iff.mp H
              obtain ⟨t198, A240, H⟩ := H
              replace H : ((group_In.f kj13 t187).bind fun t199 => (if (t198 == (t191 == t199)) = true then ((group_In.f kj13 t189).bind fun t200 => (if (t200 == t191) = true then ((group_Mul.f kj13 t189 t186).bind fun t201 => (bournelaw04_GroupMembers.j2 kj13 a0 t185 t186 t190 t191 x13_13 (t201 == 1))) else (bournelaw04_GroupMembers.j2 kj13 a0 t185 t186 t190 t191 x13_13 false))) else (bournelaw04_GroupMembers.j2 kj13 a0 t185 t186 t190 t191 x13_13 false))) = some r := H
              have A24 := Aside0.mk A240
              clear A240
              replace H := Option.bind_eq_some_iff.mp H
              obtain ⟨t199, A250, H⟩ := H
              replace H : (if (t198 == (t191 == t199)) = true then ((group_In.f kj13 t189).bind fun t200 => (if (t200 == t191) = true then ((group_Mul.f kj13 t189 t186).bind fun t201 => (bournelaw04_GroupMembers.j2 kj13 a0 t185 t186 t190 t191 x13_13 (t201 == 1))) else (bournelaw04_GroupMembers.j2 kj13 a0 t185 t186 t190 t191 x13_13 false))) else (bournelaw04_GroupMembers.j2 kj13 a0 t185 t186 t190 t191 x13_13 false)) = some r := H
              have A25 := Aside0.mk A250
              clear A250
              by_cases c26 : (t198 == (t191 == t199)) = true
              · rw [if_pos c26] at H
                have c26b0 : (t198 == (t191 == t199)) = true := c26
                (try (have c26b1 : decide (t198 = (t191 == t199)) = true := by simpa using c26))
                (try (have c26b2 : (t198 == (t191 == t199)) = true := by simpa using c26))
                clear c26
                (first | rw [c26b0] | (simp only [i64_w, i32_w]; rw [c26b0]) | skip)
                replace H := Option.bind_eq_some_iff.mp H
                obtain ⟨t200, A270, H⟩ := H
                replace H : (if (t200 == t191) = true then ((group_Mul.f kj13 t189 t186).bind fun t201 => (bournelaw04_GroupMembers.j2 kj13 a0 t185 t186 t190 t191 x13_13 (t201 == 1))) else (bournelaw04_GroupMembers.j2 kj13 a0 t185 t186 t190 t191 x13_13 false)) = some r := H
                have A27 := Aside0.mk A270
                clear A270
                by_cases c28 : (t200 == t191) = true
                · rw [if_pos c28] at H
                  have c28b0 : (t200 == t191) = true := c28
                  (try (have c28b1 : decide (t200 = t191) = true := by simpa using c28))
                  (try (have c28b2 : (t200 == t191) = true := by simpa using c28))
                  clear c28
                  replace H := Option.bind_eq_some_iff.mp H
                  obtain ⟨t201, A290, H⟩ := H
                  replace H : (bournelaw04_GroupMembers.j2 kj13 a0 t185 t186 t190 t191 x13_13 (t201 == 1)) = some r := H
                  have A29 := Aside0.mk A290
                  clear A290
                  have H' := Aside0.mk H
                  clear H
                  go_wp2_with (first | ((with_reducible refine gate_callee (f := 11) rfl ?_); refine goesL_ (some 57) rfl rfl Try.func11 (by kernel_rfl) rfl #[.int .i64 t186, .int .i64 t187] rfl (by (try simp only [List.map_toArray, List.map_cons, List.map_nil]); first | done | rfl | (simp only [List.length_drop, List.length_take]; rfl)) ?_; (with_reducible refine (group_Mul.calls kj13 t186 t187 t197 _ A23.out).mono ?_); rintro e w' ⟨rfl, ⟨nd, rfl⟩⟩; refine ⟨_, rfl, ?_⟩) | ((with_reducible refine gate_callee (f := 15) rfl ?_); refine goesL_ (some 58) rfl rfl Try.func15 (by kernel_rfl) rfl #[.int .i64 t197] rfl (by (try simp only [List.map_toArray, List.map_cons, List.map_nil]); first | done | rfl | (simp only [List.length_drop, List.length_take]; rfl)) ?_; (with_reducible refine (group_In.calls kj13 t197 t198 _ A24.out).mono ?_); rintro e w' ⟨rfl, ⟨nd, rfl⟩⟩; refine ⟨_, rfl, ?_⟩) | ((with_reducible refine gate_callee (f := 15) rfl ?_); refine goesL_ (some 61) rfl rfl Try.func15 (by kernel_rfl) rfl #[.int .i64 t187] rfl (by (try simp only [List.map_toArray, List.map_cons, List.map_nil]); first | done | rfl | (simp only [List.length_drop, List.length_take]; rfl)) ?_; (with_reducible refine (group_In.calls kj13 t187 t199 _ A25.out).mono ?_); rintro e w' ⟨rfl, ⟨nd, rfl⟩⟩; refine ⟨_, rfl, ?_⟩) | (go_at_call 15; (with_reducible refine (group_In.calls kj13 t189 t200 _ A27.out).mono ?_); rintro e w' ⟨rfl, ⟨nd, rfl⟩⟩; (try clear A27)) | (go_at_call 11; (with_reducible refine (group_Mul.calls kj13 t189 t186 t201 _ A29.out).mono ?_); rintro e w' ⟨rfl, ⟨nd, rfl⟩⟩; (try clear A29)))
                  go_meet
                  case rel => exact ⟨_, ((t201 == 1)), (by first | rfl | (simp; done) | (simp [*]; done)), H', ⟨by have := HJ6.out; have := HJ13.out; first | omega | exact Nat.le_refl _⟩, by repeat (first | exact Drawn0.refl _ | apply Drawn0.step)⟩
                · rw [if_neg c28] at H
                  have c28b0 : (t200 == t191) = false := by simpa using c28
                  (try (have c28b1 : decide (t200 = t191) = false := by simpa using c28))
                  (try (have c28b2 : (t200 == t191) = false := by simpa using c28))
                  (try (have c28b3 : ¬ (t200 = t191) := by simpa using c28))
                  clear c28
                  have H' := Aside0.mk H
                  clear H
                  go_wp2_with (first | ((with_reducible refine gate_callee (f := 11) rfl ?_); refine goesL_ (some 57) rfl rfl Try.func11 (by kernel_rfl) rfl #[.int .i64 t186, .int .i64 t187] rfl (by (try simp only [List.map_toArray, List.map_cons, List.map_nil]); first | done | rfl | (simp only [List.length_drop, List.length_take]; rfl)) ?_; (with_reducible refine (group_Mul.calls kj13 t186 t187 t197 _ A23.out).mono ?_); rintro e w' ⟨rfl, ⟨nd, rfl⟩⟩; refine ⟨_, rfl, ?_⟩) | ((with_reducible refine gate_callee (f := 15) rfl ?_); refine goesL_ (some 58) rfl rfl Try.func15 (by kernel_rfl) rfl #[.int .i64 t197] rfl (by (try simp only [List.map_toArray, List.map_cons, List.map_nil]); first | done | rfl | (simp only [List.length_drop, List.length_take]; rfl)) ?_; (with_reducible refine (group_In.calls kj13 t197 t198 _ A24.out).mono ?_); rintro e w' ⟨rfl, ⟨nd, rfl⟩⟩; refine ⟨_, rfl, ?_⟩) | ((with_reducible refine gate_callee (f := 15) rfl ?_); refine goesL_ (some 61) rfl rfl Try.func15 (by kernel_rfl) rfl #[.int .i64 t187] rfl (by (try simp only [List.map_toArray, List.map_cons, List.map_nil]); first | done | rfl | (simp only [List.length_drop, List.length_take]; rfl)) ?_; (with_reducible refine (group_In.calls kj13 t187 t199 _ A25.out).mono ?_); rintro e w' ⟨rfl, ⟨nd, rfl⟩⟩; refine ⟨_, rfl, ?_⟩) | (go_at_call 15; (with_reducible refine (group_In.calls kj13 t189 t200 _ A27.out).mono ?_); rintro e w' ⟨rfl, ⟨nd, rfl⟩⟩; (try clear A27)))
                  go_meet
                  case rel => exact ⟨_, (false), (by first | rfl | (simp; done) | (simp [*]; done)), H', ⟨by have := HJ6.out; have := HJ13.out; first | omega | exact Nat.le_refl _⟩, by repeat (first | exact Drawn0.refl _ | apply Drawn0.step)⟩
              · rw [if_neg c26] at H
                have c26b0 : (t198 == (t191 == t199)) = false := by simpa using c26
                (try (have c26b1 : decide (t198 = (t191 == t199)) = false := by simpa using c26))
                (try (have c26b2 : (t198 == (t191 == t199)) = false := by simpa using c26))
                (try (have c26b3 : ¬ (t198 = (t191 == t199)) := by simpa using c26))
                clear c26
                (first | rw [c26b0] | (simp only [i64_w, i32_w]; rw [c26b0]) | skip)
                have H' := Aside0.mk H
                clear H
                go_wp2_with (first | ((with_reducible refine gate_callee (f := 11) rfl ?_); refine goesL_ (some 57) rfl rfl Try.func11 (by kernel_rfl) rfl #[.int .i64 t186, .int .i64 t187] rfl (by (try simp only [List.map_toArray, List.map_cons, List.map_nil]); first | done | rfl | (simp only [List.length_drop, List.length_take]; rfl)) ?_; (with_reducible refine (group_Mul.calls kj13 t186 t187 t197 _ A23.out).mono ?_); rintro e w' ⟨rfl, ⟨nd, rfl⟩⟩; refine ⟨_, rfl, ?_⟩) | ((with_reducible refine gate_callee (f := 15) rfl ?_); refine goesL_ (some 58) rfl rfl Try.func15 (by kernel_rfl) rfl #[.int .i64 t197] rfl (by (try simp only [List.map_toArray, List.map_cons, List.map_nil]); first | done | rfl | (simp only [List.length_drop, List.length_take]; rfl)) ?_; (with_reducible refine (group_In.calls kj13 t197 t198 _ A24.out).mono ?_); rintro e w' ⟨rfl, ⟨nd, rfl⟩⟩; refine ⟨_, rfl, ?_⟩) | ((with_reducible refine gate_callee (f := 15) rfl ?_); refine goesL_ (some 61) rfl rfl Try.func15 (by kernel_rfl) rfl #[.int .i64 t187] rfl (by (try simp only [List.map_toArray, List.map_cons, List.map_nil]); first | done | rfl | (simp only [List.length_drop, List.length_take]; rfl)) ?_; (with_reducible refine (group_In.calls kj13 t187 t199 _ A25.out).mono ?_); rintro e w' ⟨rfl, ⟨nd, rfl⟩⟩; refine ⟨_, rfl, ?_⟩))
                go_meet
                case rel => exact ⟨_, (false), (by first | rfl | (simp; done) | (simp [*]; done)), H', ⟨by have := HJ6.out; have := HJ13.out; first | omega | exact Nat.le_refl _⟩, by repeat (first | exact Drawn0.refl _ | apply Drawn0.step)⟩
            case rest =>
              clear HC22
              try clear c1
              try clear c2
              try clear p2
              try clear c4
              try clear c6
              try clear p6
              try clear c8
              try clear c8b0
              try clear c8b1
              try clear c9
              try clear c10
              try clear c11
              try clear c13
              try clear c15
              try clear c16
              try clear c16b0
              try clear c16b1
              try clear c16b2
              try clear c19
              try clear c26
              try clear c26b0
              try clear c26b1
              try clear c26b2
              try clear c28
              try clear c28b0
              try clear c28b1
              try clear c28b2
              try clear p2
              try clear p6
              obtain ⟨kq, x14_21, rfl, HA, HJ21, ⟨mc21, rfl⟩⟩ := hcut
              cases kq with
              | zero => exact absurd HA.out (by simp [bournelaw04_GroupMembers.j2])
              | succ kj21 =>
                have H := HA.out
                clear HA
                simp only [bournelaw04_GroupMembers.j2] at H
                replace H := Option.bind_eq_some_iff.mp H
                obtain ⟨t202, A300, H⟩ := H
                replace H : (if t185 = true then (if t190 = true then (if x13_13 = true then (if x14_21 = true then (if t191 = true then (if t202 = 1 then ((group_In.f kj21 a0).bind fun t203 => (some (t203 == (a0 == t186)))) else (some false)) else (if t202 = 2305843009213691578 then ((group_In.f kj21 a0).bind fun t204 => (some (t204 == false))) else (some false))) else (some false)) else (some false)) else (some false)) else (some false)) = some r := H
                have A30 := Aside0.mk A300
                clear A300
                by_cases c31 : t185 = true
                · subst c31
                  have H1 : (if t190 = true then (if x13_13 = true then (if x14_21 = true then (if t191 = true then (if t202 = 1 then ((group_In.f kj21 a0).bind fun t203 => (some (t203 == (a0 == t186)))) else (some false)) else (if t202 = 2305843009213691578 then ((group_In.f kj21 a0).bind fun t204 => (some (t204 == false))) else (some false))) else (some false)) else (some false)) else (some false)) = some r := by rw [if_pos rfl] at H; exact H
                  clear H
                  have H := H1
                  clear H1
                  by_cases c32 : t190 = true
                  · subst c32
                    have H1 : (if x13_13 = true then (if x14_21 = true then (if t191 = true then (if t202 = 1 then ((group_In.f kj21 a0).bind fun t203 => (some (t203 == (a0 == t186)))) else (some false)) else (if t202 = 2305843009213691578 then ((group_In.f kj21 a0).bind fun t204 => (some (t204 == false))) else (some false))) else (some false)) else (some false)) = some r := by rw [if_pos rfl] at H; exact H
                    clear H
                    have H := H1
                    clear H1
                    by_cases c33 : x13_13 = true
                    · subst c33
                      have H1 : (if x14_21 = true then (if t191 = true then (if t202 = 1 then ((group_In.f kj21 a0).bind fun t203 => (some (t203 == (a0 == t186)))) else (some false)) else (if t202 = 2305843009213691578 then ((group_In.f kj21 a0).bind fun t204 => (some (t204 == false))) else (some false))) else (some false)) = some r := by rw [if_pos rfl] at H; exact H
                      clear H
                      have H := H1
                      clear H1
                      by_cases c34 : x14_21 = true
                      · subst c34
                        have H1 : (if t191 = true then (if t202 = 1 then ((group_In.f kj21 a0).bind fun t203 => (some (t203 == (a0 == t186)))) else (some false)) else (if t202 = 2305843009213691578 then ((group_In.f kj21 a0).bind fun t204 => (some (t204 == false))) else (some false))) = some r := by rw [if_pos rfl] at H; exact H
                        clear H
                        have H := H1
                        clear H1
                        by_cases c35 : t191 = true
                        · subst c35
                          have H1 : (if t202 = 1 then ((group_In.f kj21 a0).bind fun t203 => (some (t203 == (a0 == t186)))) else (some false)) = some r := by rw [if_pos rfl] at H; exact H
                          clear H
                          have H := H1
                          clear H1
                          by_cases c36 : t202 = 1
                          · rw [if_pos c36] at H
                            have c36b0 : (t202 == 1) = true := beq_iff_eq.mpr c36
                            have c36b1 : (t202 != 1) = false := bne_eq_false_iff_eq.mpr c36
                            clear c36
                            replace H := Option.bind_eq_some_iff.mp H
                            obtain ⟨t203, A370, H⟩ := H
                            replace H : (some (t203 == (a0 == t186))) = some r := H
                            have A37 := Aside0.mk A370
                            clear A370
                            obtain rfl := Option.some.inj H
                            go_wp2_with (first | ((with_reducible refine gate_callee (f := 13) rfl ?_); refine goesL_ (some 77) rfl rfl Try.func13 (by kernel_rfl) rfl #[.int .i64 t186, .int .i64 1152921504606845789] rfl (by (try simp only [List.map_toArray, List.map_cons, List.map_nil]); first | done | rfl | (simp only [List.length_drop, List.length_take]; rfl)) ?_; (with_reducible refine (group_Exp.calls kj21 t186 1152921504606845789 t202 _ A30.out).mono ?_); rintro e w' ⟨rfl, ⟨nd, rfl⟩⟩; refine ⟨_, rfl, ?_⟩) | (go_at_call 15; (with_reducible refine (group_In.calls kj21 a0 t203 _ A37.out).mono ?_); rintro e w' ⟨rfl, ⟨nd, rfl⟩⟩; (try clear A37)))
                            go_ret
                            exact ⟨by first | rfl | (simp; done) | (simp [*]; done), by repeat (first | exact Drawn0.refl _ | apply Drawn0.step)⟩
                          · rw [if_neg c36] at H
                            have c36b0 : (t202 == 1) = false := beq_eq_false_iff_ne.mpr c36
                            have c36b1 : (t202 != 1) = true := bne_iff_ne.mpr c36
                            obtain rfl := Option.some.inj H
                            go_wp2_with (first | ((with_reducible refine gate_callee (f := 13) rfl ?_); refine goesL_ (some 77) rfl rfl Try.func13 (by kernel_rfl) rfl #[.int .i64 t186, .int .i64 1152921504606845789] rfl (by (try simp only [List.map_toArray, List.map_cons, List.map_nil]); first | done | rfl | (simp only [List.length_drop, List.length_take]; rfl)) ?_; (with_reducible refine (group_Exp.calls kj21 t186 1152921504606845789 t202 _ A30.out).mono ?_); rintro e w' ⟨rfl, ⟨nd, rfl⟩⟩; refine ⟨_, rfl, ?_⟩))
                            go_ret
                            exact ⟨by first | rfl | (simp; done) | (simp [*]; done), by repeat (first | exact Drawn0.refl _ | apply Drawn0.step)⟩
                        · replace c35 := Bool.eq_false_iff.mpr c35
                          subst c35
                          have H1 : (if t202 = 2305843009213691578 then ((group_In.f kj21 a0).bind fun t204 => (some (t204 == false))) else (some false)) = some r := by rw [if_neg (show ¬ (false = true) by decide)] at H; exact H
                          clear H
                          have H := H1
                          clear H1
                          by_cases c38 : t202 = 2305843009213691578
                          · rw [if_pos c38] at H
                            have c38b0 : (t202 == 2305843009213691578) = true := beq_iff_eq.mpr c38
                            have c38b1 : (t202 != 2305843009213691578) = false := bne_eq_false_iff_eq.mpr c38
                            clear c38
                            replace H := Option.bind_eq_some_iff.mp H
                            obtain ⟨t204, A390, H⟩ := H
                            replace H : (some (t204 == false)) = some r := H
                            have A39 := Aside0.mk A390
                            clear A390
                            obtain rfl := Option.some.inj H
                            go_wp2_with (first | ((with_reducible refine gate_callee (f := 13) rfl ?_); refine goesL_ (some 77) rfl rfl Try.func13 (by kernel_rfl) rfl #[.int .i64 t186, .int .i64 1152921504606845789] rfl (by (try simp only [List.map_toArray, List.map_cons, List.map_nil]); first | done | rfl | (simp only [List.length_drop, List.length_take]; rfl)) ?_; (with_reducible refine (group_Exp.calls kj21 t186 1152921504606845789 t202 _ A30.out).mono ?_); rintro e w' ⟨rfl, ⟨nd, rfl⟩⟩; refine ⟨_, rfl, ?_⟩) | (go_at_call 15; (with_reducible refine (group_In.calls kj21 a0 t204 _ A39.out).mono ?_); rintro e w' ⟨rfl, ⟨nd, rfl⟩⟩; (try clear A39)))
                            go_ret
                            exact ⟨by first | rfl | (simp; done) | (simp [*]; done), by repeat (first | exact Drawn0.refl _ | apply Drawn0.step)⟩
                          · rw [if_neg c38] at H
                            have c38b0 : (t202 == 2305843009213691578) = false := beq_eq_false_iff_ne.mpr c38
                            have c38b1 : (t202 != 2305843009213691578) = true := bne_iff_ne.mpr c38
                            obtain rfl := Option.some.inj H
                            go_wp2_with (first | ((with_reducible refine gate_callee (f := 13) rfl ?_); refine goesL_ (some 77) rfl rfl Try.func13 (by kernel_rfl) rfl #[.int .i64 t186, .int .i64 1152921504606845789] rfl (by (try simp only [List.map_toArray, List.map_cons, List.map_nil]); first | done | rfl | (simp only [List.length_drop, List.length_take]; rfl)) ?_; (with_reducible refine (group_Exp.calls kj21 t186 1152921504606845789 t202 _ A30.out).mono ?_); rintro e w' ⟨rfl, ⟨nd, rfl⟩⟩; refine ⟨_, rfl, ?_⟩))
                            go_ret
                            exact ⟨by first | rfl | (simp; done) | (simp [*]; done), by repeat (first | exact Drawn0.refl _ | apply Drawn0.step)⟩
                      · replace c34 := Bool.eq_false_iff.mpr c34
                        subst c34
                        have H1 : (some false) = some r := by rw [if_neg (show ¬ (false = true) by decide)] at H; exact H
                        clear H
                        have H := H1
                        clear H1
                        obtain rfl := Option.some.inj H
                        go_wp2_with (first | ((with_reducible refine gate_callee (f := 13) rfl ?_); refine goesL_ (some 77) rfl rfl Try.func13 (by kernel_rfl) rfl #[.int .i64 t186, .int .i64 1152921504606845789] rfl (by (try simp only [List.map_toArray, List.map_cons, List.map_nil]); first | done | rfl | (simp only [List.length_drop, List.length_take]; rfl)) ?_; (with_reducible refine (group_Exp.calls kj21 t186 1152921504606845789 t202 _ A30.out).mono ?_); rintro e w' ⟨rfl, ⟨nd, rfl⟩⟩; refine ⟨_, rfl, ?_⟩))
                        go_ret
                        exact ⟨by first | rfl | (simp; done) | (simp [*]; done), by repeat (first | exact Drawn0.refl _ | apply Drawn0.step)⟩
                    · replace c33 := Bool.eq_false_iff.mpr c33
                      subst c33
                      have H1 : (some false) = some r := by rw [if_neg (show ¬ (false = true) by decide)] at H; exact H
                      clear H
                      have H := H1
                      clear H1
                      obtain rfl := Option.some.inj H
                      go_wp2_with (first | ((with_reducible refine gate_callee (f := 13) rfl ?_); refine goesL_ (some 77) rfl rfl Try.func13 (by kernel_rfl) rfl #[.int .i64 t186, .int .i64 1152921504606845789] rfl (by (try simp only [List.map_toArray, List.map_cons, List.map_nil]); first | done | rfl | (simp only [List.length_drop, List.length_take]; rfl)) ?_; (with_reducible refine (group_Exp.calls kj21 t186 1152921504606845789 t202 _ A30.out).mono ?_); rintro e w' ⟨rfl, ⟨nd, rfl⟩⟩; refine ⟨_, rfl, ?_⟩))
                      go_ret
                      exact ⟨by first | rfl | (simp; done) | (simp [*]; done), by repeat (first | exact Drawn0.refl _ | apply Drawn0.step)⟩
                  · replace c32 := Bool.eq_false_iff.mpr c32
                    subst c32
                    have H1 : (some false) = some r := by rw [if_neg (show ¬ (false = true) by decide)] at H; exact H
                    clear H
                    have H := H1
                    clear H1
                    obtain rfl := Option.some.inj H
                    go_wp2_with (first | ((with_reducible refine gate_callee (f := 13) rfl ?_); refine goesL_ (some 77) rfl rfl Try.func13 (by kernel_rfl) rfl #[.int .i64 t186, .int .i64 1152921504606845789] rfl (by (try simp only [List.map_toArray, List.map_cons, List.map_nil]); first | done | rfl | (simp only [List.length_drop, List.length_take]; rfl)) ?_; (with_reducible refine (group_Exp.calls kj21 t186 1152921504606845789 t202 _ A30.out).mono ?_); rintro e w' ⟨rfl, ⟨nd, rfl⟩⟩; refine ⟨_, rfl, ?_⟩))
                    go_ret
                    exact ⟨by first | rfl | (simp; done) | (simp [*]; done), by repeat (first | exact Drawn0.refl _ | apply Drawn0.step)⟩
                · replace c31 := Bool.eq_false_iff.mpr c31
                  subst c31
                  have H1 : (some false) = some r := by rw [if_neg (show ¬ (false = true) by decide)] at H; exact H
                  clear H
                  have H := H1
                  clear H1
                  obtain rfl := Option.some.inj H
                  go_wp2_with (first | ((with_reducible refine gate_callee (f := 13) rfl ?_); refine goesL_ (some 77) rfl rfl Try.func13 (by kernel_rfl) rfl #[.int .i64 t186, .int .i64 1152921504606845789] rfl (by (try simp only [List.map_toArray, List.map_cons, List.map_nil]); first | done | rfl | (simp only [List.length_drop, List.length_take]; rfl)) ?_; (with_reducible refine (group_Exp.calls kj21 t186 1152921504606845789 t202 _ A30.out).mono ?_); rintro e w' ⟨rfl, ⟨nd, rfl⟩⟩; refine ⟨_, rfl, ?_⟩))
                  go_ret
                  exact ⟨by first | rfl | (simp; done) | (simp [*]; done), by repeat (first | exact Drawn0.refl _ | apply Drawn0.step)⟩

/-- THE ONE PURE STATEMENT of bournelaw04_GroupMembers: yours. -/
def bournelaw04_GroupMembers.Pure : Prop := ∀ (a0 : Int) (a1 : Int) (a2 : Int), (Lit.int .i64 a0).wf = true → (Lit.int .i64 a1).wf = true → (Lit.int .i64 a2).wf = true → ∃ k, bournelaw04_GroupMembers.f k a0 a1 a2 = some true
theorem bournelaw04_GroupMembers.walk (P : bournelaw04_GroupMembers.Pure) (a0 : Int) (a1 : Int) (a2 : Int) (w : World) (w0 : (Lit.int .i64 a0).wf = true) (w1 : (Lit.int .i64 a1).wf = true) (w2 : (Lit.int .i64 a2).wf = true) :
    Calls Try.prog 4 #[.int .i64 a0, .int .i64 a1, .int .i64 a2] w fun e w' => e = .returned (.bool true) ∧ Below w.heap.size w w' := by
  obtain ⟨k, h⟩ := P a0 a1 a2 w0 w1 w2
  refine (bournelaw04_GroupMembers.calls k a0 a1 a2 true w h).mono ?_
  rintro e w' ⟨rfl, hd⟩
  exact ⟨rfl, hd.below⟩

end Go.Proofs.Ytlnkmbbmefbnpaa.Fn
