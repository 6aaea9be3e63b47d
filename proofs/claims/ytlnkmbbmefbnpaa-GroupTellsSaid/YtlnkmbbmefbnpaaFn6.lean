-- written by this session's program myprint.py out of the translation; Lean checks it
import Derived.Test.YtlnkmbbmefbnpaaFn0
import Derived.Test.YtlnkmbbmefbnpaaFn2
import Derived.Test.YtlnkmbbmefbnpaaFn3
namespace Go.Proofs.Ytlnkmbbmefbnpaa.Fn
open Go.RowKit Go.Proofs.YtlnkmbbmefbnpaaW.PrintWords Go.Proofs.YtlnkmbbmefbnpaaW.PrintLast Go.Proofs.YtlnkmbbmefbnpaaW.PrintMore
attribute [local go_sem] max2_int min2_int max_two min_two max_three min_three max_four min_four   -- for this text's walks alone
set_option linter.unusedVariables false
set_option linter.unusedSimpArgs false

/-! ### bournelaw04_GroupPowers: function 5 -/
def bournelaw04_GroupPowers.j0 : Nat → Int → Int → Int → Bool → Int → Bool → Option (Bool)
  | 0, _, _, _, _, _, _ => none
  | k + 1, x0, x1, x2, x7, x8, x32 => if x32 = true then (some false) else ((group_In.f k x8).bind fun t211 => (if t211 = true then ((group_Exp.f k x0 x1).bind fun t212 => ((group_Exp.f k x0 x2).bind fun t213 => ((group_Mul.f k t212 t213).bind fun t214 => ((group_AddQ.f x1 x2).bind fun t215 => ((group_Exp.f k x0 t215).bind fun t216 => ((group_Exp.f k x0 x1).bind fun t217 => ((group_Exp.f k t217 x2).bind fun t218 => ((group_MulQ.f k x1 x2).bind fun t219 => ((group_Exp.f k x0 t219).bind fun t220 => ((group_Exp.f k x0 x1).bind fun t221 => ((group_Inv.f k t221).bind fun bt222 => (if x7 = true then (if t214 = t216 then (if t218 = t220 then (if bt222.2 = true then ((group_SubQ.f 0 x1).bind fun t224 => ((group_Exp.f k x0 t224).bind fun t225 => (if bt222.1 = t225 then ((group_Exp.f k x0 x1).bind fun t226 => ((group_AddQ.f x1 0).bind fun t227 => ((group_Exp.f k x0 t227).bind fun t228 => (some (t226 == t228))))) else (some false)))) else (some false)) else (some false)) else (some false)) else (some false))))))))))))) else (some x7)))
def bournelaw04_GroupPowers.f (k : Nat) (a0 : Int) (a1 : Int) (a2 : Int) : Option (Bool) := (bournelaw04_small.f k).bind fun t205 => ((group_Mul.f k a0 1).bind fun t206 => ((group_Exp.f k a0 2).bind fun t207 => ((group_Mul.f k a0 a0).bind fun t208 => (if t207 = t208 then ((group_Exp.f k a0 1).bind fun t209 => (if t209 = t206 then ((group_Exp.f k a0 0).bind fun t210 => (bournelaw04_GroupPowers.j0 k a0 a1 a2 t205 t206 (t210 != 1))) else (bournelaw04_GroupPowers.j0 k a0 a1 a2 t205 t206 true))) else (bournelaw04_GroupPowers.j0 k a0 a1 a2 t205 t206 true)))))
theorem bournelaw04_GroupPowers.mono_l : ∀ k, (∀ y0 y1 y2 y3 y4 y5, LeO (bournelaw04_GroupPowers.j0 k y0 y1 y2 y3 y4 y5) (bournelaw04_GroupPowers.j0 (k + 1) y0 y1 y2 y3 y4 y5))
  | 0 => fun _ _ _ _ _ _ r h => by simp [bournelaw04_GroupPowers.j0] at h
  | k + 1 => by
    have ih0 := bournelaw04_GroupPowers.mono_l k
    · intro y0 y1 y2 y3 y4 y5
      unfold bournelaw04_GroupPowers.j0
      repeat' first
      | (with_reducible exact ih0 _ _ _ _ _ _)
      | (with_reducible exact bournelaw04_small.mono _)
      | (with_reducible exact group_Exp.mono _ _ _)
      | (with_reducible exact group_In.mono _ _)
      | (with_reducible exact group_Inv.mono _ _)
      | (with_reducible exact group_Mul.mono _ _ _)
      | (with_reducible exact group_MulQ.mono _ _ _)
      | (with_reducible exact LeO.refl _)
      | (with_reducible exact LeO.none _)
      | (with_reducible refine LeO.ite ?_ ?_)
      | (with_reducible refine LeO.bind ?_ (fun _ => ?_))
      | exact ih0 _ _ _ _ _ _
      | exact bournelaw04_small.mono _
      | exact group_Exp.mono _ _ _
      | exact group_In.mono _ _
      | exact group_Inv.mono _ _
      | exact group_Mul.mono _ _ _
      | exact group_MulQ.mono _ _ _
      | exact LeO.none _
      | refine LeO.ite ?_ ?_
      | refine LeO.bind ?_ (fun _ => ?_)
theorem bournelaw04_GroupPowers.mono : ∀ a0 a1 a2 k, LeO (bournelaw04_GroupPowers.f k a0 a1 a2) (bournelaw04_GroupPowers.f (k + 1) a0 a1 a2) := by
  intro a0 a1 a2 k
  have ih0 := bournelaw04_GroupPowers.mono_l k
  unfold bournelaw04_GroupPowers.f
  repeat' first
      | (with_reducible exact ih0 _ _ _ _ _ _)
      | (with_reducible exact bournelaw04_small.mono _)
      | (with_reducible exact group_Exp.mono _ _ _)
      | (with_reducible exact group_In.mono _ _)
      | (with_reducible exact group_Inv.mono _ _)
      | (with_reducible exact group_Mul.mono _ _ _)
      | (with_reducible exact group_MulQ.mono _ _ _)
      | (with_reducible exact LeO.refl _)
      | (with_reducible exact LeO.none _)
      | (with_reducible refine LeO.ite ?_ ?_)
      | (with_reducible refine LeO.bind ?_ (fun _ => ?_))
      | exact ih0 _ _ _ _ _ _
      | exact bournelaw04_small.mono _
      | exact group_Exp.mono _ _ _
      | exact group_In.mono _ _
      | exact group_Inv.mono _ _
      | exact group_Mul.mono _ _ _
      | exact group_MulQ.mono _ _ _
      | exact LeO.none _
      | refine LeO.ite ?_ ?_
      | refine LeO.bind ?_ (fun _ => ?_)
set_option maxHeartbeats 8000000 in
set_option maxRecDepth 100000 in
theorem bournelaw04_GroupPowers.calls (k : Nat) (a0 : Int) (a1 : Int) (a2 : Int) (r : Bool) (w : World) (h : bournelaw04_GroupPowers.f k a0 a1 a2 = some r) :
    Calls Try.prog 5 #[.int .i64 a0, .int .i64 a1, .int .i64 a2] w fun e w' => e = .returned (.bool r) ∧ Drawn0 w w' := by
  have H : ((bournelaw04_small.f k).bind fun t205 => ((group_Mul.f k a0 1).bind fun t206 => ((group_Exp.f k a0 2).bind fun t207 => ((group_Mul.f k a0 a0).bind fun t208 => (if t207 = t208 then ((group_Exp.f k a0 1).bind fun t209 => (if t209 = t206 then ((group_Exp.f k a0 0).bind fun t210 => (bournelaw04_GroupPowers.j0 k a0 a1 a2 t205 t206 (t210 != 1))) else (bournelaw04_GroupPowers.j0 k a0 a1 a2 t205 t206 true))) else (bournelaw04_GroupPowers.j0 k a0 a1 a2 t205 t206 true)))))) = some r := h
  clear h
  replace H := Option.bind_eq_some_iff.mp H
  obtain ⟨t205, A40, H⟩ := H
  replace H : ((group_Mul.f k a0 1).bind fun t206 => ((group_Exp.f k a0 2).bind fun t207 => ((group_Mul.f k a0 a0).bind fun t208 => (if t207 = t208 then ((group_Exp.f k a0 1).bind fun t209 => (if t209 = t206 then ((group_Exp.f k a0 0).bind fun t210 => (bournelaw04_GroupPowers.j0 k a0 a1 a2 t205 t206 (t210 != 1))) else (bournelaw04_GroupPowers.j0 k a0 a1 a2 t205 t206 true))) else (bournelaw04_GroupPowers.j0 k a0 a1 a2 t205 t206 true))))) = some r := H
  have A4 := Aside0.mk A40
  clear A40
  replace H := Option.bind_eq_some_iff.mp H
  obtain ⟨t206, A50, H⟩ := H
  replace H : ((group_Exp.f k a0 2).bind fun t207 => ((group_Mul.f k a0 a0).bind fun t208 => (if t207 = t208 then ((group_Exp.f k a0 1).bind fun t209 => (if t209 = t206 then ((group_Exp.f k a0 0).bind fun t210 => (bournelaw04_GroupPowers.j0 k a0 a1 a2 t205 t206 (t210 != 1))) else (bournelaw04_GroupPowers.j0 k a0 a1 a2 t205 t206 true))) else (bournelaw04_GroupPowers.j0 k a0 a1 a2 t205 t206 true)))) = some r := H
  have A5 := Aside0.mk A50
  clear A50
  have HC6 := Aside0.mk H
  clear H
  go_enter Try.func5, Try.ntmps5
  go_upto_region 3 with (first | ((with_reducible refine gate_callee (f := 8) rfl ?_); refine goesL_ (some 13) rfl rfl Try.func8 (by kernel_rfl) rfl #[] rfl (by (try simp only [List.map_toArray, List.map_cons, List.map_nil]); first | done | rfl | (simp only [List.length_drop, List.length_take]; rfl)) ?_; (with_reducible refine (bournelaw04_small.calls k  t205 _ A4.out).mono ?_); rintro e w' ⟨rfl, ⟨nd, rfl⟩⟩; refine ⟨_, rfl, ?_⟩) | ((with_reducible refine gate_callee (f := 11) rfl ?_); refine goesL_ (some 15) rfl rfl Try.func11 (by kernel_rfl) rfl #[.int .i64 a0, .int .i64 1] rfl (by (try simp only [List.map_toArray, List.map_cons, List.map_nil]); first | done | rfl | (simp only [List.length_drop, List.length_take]; rfl)) ?_; (with_reducible refine (group_Mul.calls k a0 1 t206 _ A5.out).mono ?_); rintro e w' ⟨rfl, ⟨nd, rfl⟩⟩; refine ⟨_, rfl, ?_⟩))
  (try simp only [Act.put, List.setIfInBounds_toArray, List.set_cons_zero, List.set_cons_succ])
  go_cut [32] (fun v32 wc => ∃ (kq : Nat) (x32_5 : Bool), v32 = .bool x32_5 ∧ Aside0 (bournelaw04_GroupPowers.j0 kq a0 a1 a2 t205 t206 x32_5 = some r) ∧ Aside0 (kq ≤ k) ∧ Drawn0 w wc)
  case first =>
    have H := HC6.out
    clear HC6
    replace H := Option.bind_eq_some_iff.mp H
    obtain ⟨t207, A70, H⟩ := H
    replace H : ((group_Mul.f k a0 a0).bind fun t208 => (if t207 = t208 then ((group_Exp.f k a0 1).bind fun t209 => (if t209 = t206 then ((group_Exp.f k a0 0).bind fun t210 => (bournelaw04_GroupPowers.j0 k a0 a1 a2 t205 t206 (t210 != 1))) else (bournelaw04_GroupPowers.j0 k a0 a1 a2 t205 t206 true))) else (bournelaw04_GroupPowers.j0 k a0 a1 a2 t205 t206 true))) = some r := H
    have A7 := Aside0.mk A70
    clear A70
    replace H := Option.bind_eq_some_iff.mp H
    obtain ⟨t208, A80, H⟩ := H
    replace H : (if t207 = t208 then ((group_Exp.f k a0 1).bind fun t209 => (if t209 = t206 then ((group_Exp.f k a0 0).bind fun t210 => (bournelaw04_GroupPowers.j0 k a0 a1 a2 t205 t206 (t210 != 1))) else (bournelaw04_GroupPowers.j0 k a0 a1 a2 t205 t206 true))) else (bournelaw04_GroupPowers.j0 k a0 a1 a2 t205 t206 true)) = some r := H
    have A8 := Aside0.mk A80
    clear A80
    by_cases c9 : t207 = t208
    · rw [if_pos c9] at H
      have c9b0 : (t207 == t208) = true := beq_iff_eq.mpr c9
      have c9b1 : (t207 != t208) = false := bne_eq_false_iff_eq.mpr c9
      clear c9
      (first | rw [c9b0] | (simp only [i64_w, i32_w]; rw [c9b0]) | skip)
      replace H := Option.bind_eq_some_iff.mp H
      obtain ⟨t209, A100, H⟩ := H
      replace H : (if t209 = t206 then ((group_Exp.f k a0 0).bind fun t210 => (bournelaw04_GroupPowers.j0 k a0 a1 a2 t205 t206 (t210 != 1))) else (bournelaw04_GroupPowers.j0 k a0 a1 a2 t205 t206 true)) = some r := H
      have A10 := Aside0.mk A100
      clear A100
      by_cases c11 : t209 = t206
      · rw [if_pos c11] at H
        have c11b0 : (t209 == t206) = true := beq_iff_eq.mpr c11
        have c11b1 : (t209 != t206) = false := bne_eq_false_iff_eq.mpr c11
        clear c11
        replace H := Option.bind_eq_some_iff.mp H
        obtain ⟨t210, A120, H⟩ := H
        replace H : (bournelaw04_GroupPowers.j0 k a0 a1 a2 t205 t206 (t210 != 1)) = some r := H
        have A12 := Aside0.mk A120
        clear A120
        have H' := Aside0.mk H
        clear H
        go_wp2_with (first | ((with_reducible refine gate_callee (f := 13) rfl ?_); refine goesL_ (some 17) rfl rfl Try.func13 (by kernel_rfl) rfl #[.int .i64 a0, .int .i64 2] rfl (by (try simp only [List.map_toArray, List.map_cons, List.map_nil]); first | done | rfl | (simp only [List.length_drop, List.length_take]; rfl)) ?_; (with_reducible refine (group_Exp.calls k a0 2 t207 _ A7.out).mono ?_); rintro e w' ⟨rfl, ⟨nd, rfl⟩⟩; refine ⟨_, rfl, ?_⟩) | ((with_reducible refine gate_callee (f := 11) rfl ?_); refine goesL_ (some 20) rfl rfl Try.func11 (by kernel_rfl) rfl #[.int .i64 a0, .int .i64 a0] rfl (by (try simp only [List.map_toArray, List.map_cons, List.map_nil]); first | done | rfl | (simp only [List.length_drop, List.length_take]; rfl)) ?_; (with_reducible refine (group_Mul.calls k a0 a0 t208 _ A8.out).mono ?_); rintro e w' ⟨rfl, ⟨nd, rfl⟩⟩; refine ⟨_, rfl, ?_⟩) | (go_at_call 13; (with_reducible refine (group_Exp.calls k a0 1 t209 _ A10.out).mono ?_); rintro e w' ⟨rfl, ⟨nd, rfl⟩⟩; (try clear A10)) | (go_at_call 13; (with_reducible refine (group_Exp.calls k a0 0 t210 _ A12.out).mono ?_); rintro e w' ⟨rfl, ⟨nd, rfl⟩⟩; (try clear A12)))
        go_meet
        case rel => exact ⟨_, ((t210 != 1)), (by first | rfl | (simp; done) | (simp [*]; done)), H', ⟨by first | omega | exact Nat.le_refl _⟩, by repeat (first | exact Drawn0.refl _ | apply Drawn0.step)⟩
      · rw [if_neg c11] at H
        have c11b0 : (t209 == t206) = false := beq_eq_false_iff_ne.mpr c11
        have c11b1 : (t209 != t206) = true := bne_iff_ne.mpr c11
        have H' := Aside0.mk H
        clear H
        go_wp2_with (first | ((with_reducible refine gate_callee (f := 13) rfl ?_); refine goesL_ (some 17) rfl rfl Try.func13 (by kernel_rfl) rfl #[.int .i64 a0, .int .i64 2] rfl (by (try simp only [List.map_toArray, List.map_cons, List.map_nil]); first | done | rfl | (simp only [List.length_drop, List.length_take]; rfl)) ?_; (with_reducible refine (group_Exp.calls k a0 2 t207 _ A7.out).mono ?_); rintro e w' ⟨rfl, ⟨nd, rfl⟩⟩; refine ⟨_, rfl, ?_⟩) | ((with_reducible refine gate_callee (f := 11) rfl ?_); refine goesL_ (some 20) rfl rfl Try.func11 (by kernel_rfl) rfl #[.int .i64 a0, .int .i64 a0] rfl (by (try simp only [List.map_toArray, List.map_cons, List.map_nil]); first | done | rfl | (simp only [List.length_drop, List.length_take]; rfl)) ?_; (with_reducible refine (group_Mul.calls k a0 a0 t208 _ A8.out).mono ?_); rintro e w' ⟨rfl, ⟨nd, rfl⟩⟩; refine ⟨_, rfl, ?_⟩) | (go_at_call 13; (with_reducible refine (group_Exp.calls k a0 1 t209 _ A10.out).mono ?_); rintro e w' ⟨rfl, ⟨nd, rfl⟩⟩; (try clear A10)))
        go_meet
        case rel => exact ⟨_, (true), (by first | rfl | (simp; done) | (simp [*]; done)), H', ⟨by first | omega | exact Nat.le_refl _⟩, by repeat (first | exact Drawn0.refl _ | apply Drawn0.step)⟩
    · rw [if_neg c9] at H
      have c9b0 : (t207 == t208) = false := beq_eq_false_iff_ne.mpr c9
      have c9b1 : (t207 != t208) = true := bne_iff_ne.mpr c9
      (first | rw [c9b0] | (simp only [i64_w, i32_w]; rw [c9b0]) | skip)
      have H' := Aside0.mk H
      clear H
      go_wp2_with (first | ((with_reducible refine gate_callee (f := 13) rfl ?_); refine goesL_ (some 17) rfl rfl Try.func13 (by kernel_rfl) rfl #[.int .i64 a0, .int .i64 2] rfl (by (try simp only [List.map_toArray, List.map_cons, List.map_nil]); first | done | rfl | (simp only [List.length_drop, List.length_take]; rfl)) ?_; (with_reducible refine (group_Exp.calls k a0 2 t207 _ A7.out).mono ?_); rintro e w' ⟨rfl, ⟨nd, rfl⟩⟩; refine ⟨_, rfl, ?_⟩) | ((with_reducible refine gate_callee (f := 11) rfl ?_); refine goesL_ (some 20) rfl rfl Try.func11 (by kernel_rfl) rfl #[.int .i64 a0, .int .i64 a0] rfl (by (try simp only [List.map_toArray, List.map_cons, List.map_nil]); first | done | rfl | (simp only [List.length_drop, List.length_take]; rfl)) ?_; (with_reducible refine (group_Mul.calls k a0 a0 t208 _ A8.out).mono ?_); rintro e w' ⟨rfl, ⟨nd, rfl⟩⟩; refine ⟨_, rfl, ?_⟩))
      go_meet
      case rel => exact ⟨_, (true), (by first | rfl | (simp; done) | (simp [*]; done)), H', ⟨by first | omega | exact Nat.le_refl _⟩, by repeat (first | exact Drawn0.refl _ | apply Drawn0.step)⟩
  case rest =>
    clear HC6
    try clear c1
    try clear p2
    try clear c5
    try clear c8
    try clear c9
    try clear c9b0
    try clear c9b1
    try clear c11
    try clear c11b0
    try clear c11b1
    obtain ⟨kq, x32_5, rfl, HA, HJ5, ⟨mc5, rfl⟩⟩ := hcut
    cases kq with
    | zero => exact absurd HA.out (by simp [bournelaw04_GroupPowers.j0])
    | succ kj5 =>
      have H := HA.out
      clear HA
      simp only [bournelaw04_GroupPowers.j0] at H
      by_cases c13 : x32_5 = true
      · subst c13
        have H1 : (some false) = some r := by rw [if_pos rfl] at H; exact H
        clear H
        have H := H1
        clear H1
        obtain rfl := Option.some.inj H
        go_wp2
        go_ret
        exact ⟨by first | rfl | (simp; done) | (simp [*]; done), by repeat (first | exact Drawn0.refl _ | apply Drawn0.step)⟩
      · replace c13 := Bool.eq_false_iff.mpr c13
        subst c13
        have H1 : ((group_In.f kj5 t206).bind fun t211 => (if t211 = true then ((group_Exp.f kj5 a0 a1).bind fun t212 => ((group_Exp.f kj5 a0 a2).bind fun t213 => ((group_Mul.f kj5 t212 t213).bind fun t214 => ((group_AddQ.f a1 a2).bind fun t215 => ((group_Exp.f kj5 a0 t215).bind fun t216 => ((group_Exp.f kj5 a0 a1).bind fun t217 => ((group_Exp.f kj5 t217 a2).bind fun t218 => ((group_MulQ.f kj5 a1 a2).bind fun t219 => ((group_Exp.f kj5 a0 t219).bind fun t220 => ((group_Exp.f kj5 a0 a1).bind fun t221 => ((group_Inv.f kj5 t221).bind fun bt222 => (if t205 = true then (if t214 = t216 then (if t218 = t220 then (if bt222.2 = true then ((group_SubQ.f 0 a1).bind fun t224 => ((group_Exp.f kj5 a0 t224).bind fun t225 => (if bt222.1 = t225 then ((group_Exp.f kj5 a0 a1).bind fun t226 => ((group_AddQ.f a1 0).bind fun t227 => ((group_Exp.f kj5 a0 t227).bind fun t228 => (some (t226 == t228))))) else (some false)))) else (some false)) else (some false)) else (some false)) else (some false))))))))))))) else (some t205))) = some r := by rw [if_neg (show ¬ (false = true) by decide)] at H; exact H
        clear H
        have H := H1
        clear H1
        replace H := Option.bind_eq_some_iff.mp H
        obtain ⟨t211, A140, H⟩ := H
        replace H : (if t211 = true then ((group_Exp.f kj5 a0 a1).bind fun t212 => ((group_Exp.f kj5 a0 a2).bind fun t213 => ((group_Mul.f kj5 t212 t213).bind fun t214 => ((group_AddQ.f a1 a2).bind fun t215 => ((group_Exp.f kj5 a0 t215).bind fun t216 => ((group_Exp.f kj5 a0 a1).bind fun t217 => ((group_Exp.f kj5 t217 a2).bind fun t218 => ((group_MulQ.f kj5 a1 a2).bind fun t219 => ((group_Exp.f kj5 a0 t219).bind fun t220 => ((group_Exp.f kj5 a0 a1).bind fun t221 => ((group_Inv.f kj5 t221).bind fun bt222 => (if t205 = true then (if t214 = t216 then (if t218 = t220 then (if bt222.2 = true then ((group_SubQ.f 0 a1).bind fun t224 => ((group_Exp.f kj5 a0 t224).bind fun t225 => (if bt222.1 = t225 then ((group_Exp.f kj5 a0 a1).bind fun t226 => ((group_AddQ.f a1 0).bind fun t227 => ((group_Exp.f kj5 a0 t227).bind fun t228 => (some (t226 == t228))))) else (some false)))) else (some false)) else (some false)) else (some false)) else (some false))))))))))))) else (some t205)) = some r := H
        have A14 := Aside0.mk A140
        clear A140
        by_cases c15 : t211 = true
        · subst c15
          have H1 : ((group_Exp.f kj5 a0 a1).bind fun t212 => ((group_Exp.f kj5 a0 a2).bind fun t213 => ((group_Mul.f kj5 t212 t213).bind fun t214 => ((group_AddQ.f a1 a2).bind fun t215 => ((group_Exp.f kj5 a0 t215).bind fun t216 => ((group_Exp.f kj5 a0 a1).bind fun t217 => ((group_Exp.f kj5 t217 a2).bind fun t218 => ((group_MulQ.f kj5 a1 a2).bind fun t219 => ((group_Exp.f kj5 a0 t219).bind fun t220 => ((group_Exp.f kj5 a0 a1).bind fun t221 => ((group_Inv.f kj5 t221).bind fun bt222 => (if t205 = true then (if t214 = t216 then (if t218 = t220 then (if bt222.2 = true then ((group_SubQ.f 0 a1).bind fun t224 => ((group_Exp.f kj5 a0 t224).bind fun t225 => (if bt222.1 = t225 then ((group_Exp.f kj5 a0 a1).bind fun t226 => ((group_AddQ.f a1 0).bind fun t227 => ((group_Exp.f kj5 a0 t227).bind fun t228 => (some (t226 == t228))))) else (some false)))) else (some false)) else (some false)) else (some false)) else (some false))))))))))))) = some r := by rw [if_pos rfl] at H; exact H
          clear H
          have H := H1
          clear H1
          replace H := Option.bind_eq_some_iff.mp H
          obtain ⟨t212, A160, H⟩ := H
          replace H : ((group_Exp.f kj5 a0 a2).bind fun t213 => ((group_Mul.f kj5 t212 t213).bind fun t214 => ((group_AddQ.f a1 a2).bind fun t215 => ((group_Exp.f kj5 a0 t215).bind fun t216 => ((group_Exp.f kj5 a0 a1).bind fun t217 => ((group_Exp.f kj5 t217 a2).bind fun t218 => ((group_MulQ.f kj5 a1 a2).bind fun t219 => ((group_Exp.f kj5 a0 t219).bind fun t220 => ((group_Exp.f kj5 a0 a1).bind fun t221 => ((group_Inv.f kj5 t221).bind fun bt222 => (if t205 = true then (if t214 = t216 then (if t218 = t220 then (if bt222.2 = true then ((group_SubQ.f 0 a1).bind fun t224 => ((group_Exp.f kj5 a0 t224).bind fun t225 => (if bt222.1 = t225 then ((group_Exp.f kj5 a0 a1).bind fun t226 => ((group_AddQ.f a1 0).bind fun t227 => ((group_Exp.f kj5 a0 t227).bind fun t228 => (some (t226 == t228))))) else (some false)))) else (some false)) else (some false)) else (some false)) else (some false)))))))))))) = some r := H
          have A16 := Aside0.mk A160
          clear A160
          replace H := Option.bind_eq_some_iff.mp H
          obtain ⟨t213, A170, H⟩ := H
          replace H : ((group_Mul.f kj5 t212 t213).bind fun t214 => ((group_AddQ.f a1 a2).bind fun t215 => ((group_Exp.f kj5 a0 t215).bind fun t216 => ((group_Exp.f kj5 a0 a1).bind fun t217 => ((group_Exp.f kj5 t217 a2).bind fun t218 => ((group_MulQ.f kj5 a1 a2).bind fun t219 => ((group_Exp.f kj5 a0 t219).bind fun t220 => ((group_Exp.f kj5 a0 a1).bind fun t221 => ((group_Inv.f kj5 t221).bind fun bt222 => (if t205 = true then (if t214 = t216 then (if t218 = t220 then (if bt222.2 = true then ((group_SubQ.f 0 a1).bind fun t224 => ((group_Exp.f kj5 a0 t224).bind fun t225 => (if bt222.1 = t225 then ((group_Exp.f kj5 a0 a1).bind fun t226 => ((group_AddQ.f a1 0).bind fun t227 => ((group_Exp.f kj5 a0 t227).bind fun t228 => (some (t226 == t228))))) else (some false)))) else (some false)) else (some false)) else (some false)) else (some false))))))))))) = some r := H
          have A17 := Aside0.mk A170
          clear A170
          replace H := Option.bind_eq_some_iff.mp H
          obtain ⟨t214, A180, H⟩ := H
          replace H : ((group_AddQ.f a1 a2).bind fun t215 => ((group_Exp.f kj5 a0 t215).bind fun t216 => ((group_Exp.f kj5 a0 a1).bind fun t217 => ((group_Exp.f kj5 t217 a2).bind fun t218 => ((group_MulQ.f kj5 a1 a2).bind fun t219 => ((group_Exp.f kj5 a0 t219).bind fun t220 => ((group_Exp.f kj5 a0 a1).bind fun t221 => ((group_Inv.f kj5 t221).bind fun bt222 => (if t205 = true then (if t214 = t216 then (if t218 = t220 then (if bt222.2 = true then ((group_SubQ.f 0 a1).bind fun t224 => ((group_Exp.f kj5 a0 t224).bind fun t225 => (if bt222.1 = t225 then ((group_Exp.f kj5 a0 a1).bind fun t226 => ((group_AddQ.f a1 0).bind fun t227 => ((group_Exp.f kj5 a0 t227).bind fun t228 => (some (t226 == t228))))) else (some false)))) else (some false)) else (some false)) else (some false)) else (some false)))))))))) = some r := H
          have A18 := Aside0.mk A180
          clear A180
          replace H := Option.bind_eq_some_iff.mp H
          obtain ⟨t215, A190, H⟩ := H
          replace H : ((group_Exp.f kj5 a0 t215).bind fun t216 => ((group_Exp.f kj5 a0 a1).bind fun t217 => ((group_Exp.f kj5 t217 a2).bind fun t218 => ((group_MulQ.f kj5 a1 a2).bind fun t219 => ((group_Exp.f kj5 a0 t219).bind fun t220 => ((group_Exp.f kj5 a0 a1).bind fun t221 => ((group_Inv.f kj5 t221).bind fun bt222 => (if t205 = true then (if t214 = t216 then (if t218 = t220 then (if bt222.2 = true then ((group_SubQ.f 0 a1).bind fun t224 => ((group_Exp.f kj5 a0 t224).bind fun t225 => (if bt222.1 = t225 then ((group_Exp.f kj5 a0 a1).bind fun t226 => ((group_AddQ.f a1 0).bind fun t227 => ((group_Exp.f kj5 a0 t227).bind fun t228 => (some (t226 == t228))))) else (some false)))) else (some false)) else (some false)) else (some false)) else (some false))))))))) = some r := H
          have A19 := Aside0.mk A190
          clear A190
          replace H := Option.bind_eq_some_iff.mp H
          obtain ⟨t216, A200, H⟩ := H
          replace H : ((group_Exp.f kj5 a0 a1).bind fun t217 => ((group_Exp.f kj5 t217 a2).bind fun t218 => ((group_MulQ.f kj5 a1 a2).bind fun t219 => ((group_Exp.f kj5 a0 t219).bind fun t220 => ((group_Exp.f kj5 a0 a1).bind fun t221 => ((group_Inv.f kj5 t221).bind fun bt222 => (if t205 = true then (if t214 = t216 then (if t218 = t220 then (if bt222.2 = true then ((group_SubQ.f 0 a1).bind fun t224 => ((group_Exp.f kj5 a0 t224).bind fun t225 => (if bt222.1 = t225 then ((group_Exp.f kj5 a0 a1).bind fun t226 => ((group_AddQ.f a1 0).bind fun t227 => ((group_Exp.f kj5 a0 t227).bind fun t228 => (some (t226 == t228))))) else (some false)))) else (some false)) else (some false)) else (some false)) else (some false)))))))) = some r := H
          have A20 := Aside0.mk A200
          clear A200
          replace H := Option.bind_eq_some_iff.mp H
          obtain ⟨t217, A210, H⟩ := H
          replace H : ((group_Exp.f kj5 t217 a2).bind fun t218 => ((group_MulQ.f kj5 a1 a2).bind fun t219 => ((group_Exp.f kj5 a0 t219).bind fun t220 => ((group_Exp.f kj5 a0 a1).bind fun t221 => ((group_Inv.f kj5 t221).bind fun bt222 => (if t205 = true then (if t214 = t216 then (if t218 = t220 then (if bt222.2 = true then ((group_SubQ.f 0 a1).bind fun t224 => ((group_Exp.f kj5 a0 t224).bind fun t225 => (if bt222.1 = t225 then ((group_Exp.f kj5 a0 a1).bind fun t226 => ((group_AddQ.f a1 0).bind fun t227 => ((group_Exp.f kj5 a0 t227).bind fun t228 => (some (t226 == t228))))) else (some false)))) else (some false)) else (some false)) else (some false)) else (some false))))))) = some r := H
          have A21 := Aside0.mk A210
          clear A210
          replace H := Option.bind_eq_some_iff.mp H
          obtain ⟨t218, A220, H⟩ := H
          replace H : ((group_MulQ.f kj5 a1 a2).bind fun t219 => ((group_Exp.f kj5 a0 t219).bind fun t220 => ((group_Exp.f kj5 a0 a1).bind fun t221 => ((group_Inv.f kj5 t221).bind fun bt222 => (if t205 = true then (if t214 = t216 then (if t218 = t220 then (if bt222.2 = true then ((group_SubQ.f 0 a1).bind fun t224 => ((group_Exp.f kj5 a0 t224).bind fun t225 => (if bt222.1 = t225 then ((group_Exp.f kj5 a0 a1).bind fun t226 => ((group_AddQ.f a1 0).bind fun t227 => ((group_Exp.f kj5 a0 t227).bind fun t228 => (some (t226 == t228))))) else (some false)))) else (some false)) else (some false)) else (some false)) else (some false)))))) = some r := H
          have A22 := Aside0.mk A220
          clear A220
          replace H := Option.bind_eq_some_iff.mp H
          obtain ⟨t219, A230, H⟩ := H
          replace H : ((group_Exp.f kj5 a0 t219).bind fun t220 => ((group_Exp.f kj5 a0 a1).bind fun t221 => ((group_Inv.f kj5 t221).bind fun bt222 => (if t205 = true then (if t214 = t216 then (if t218 = t220 then (if bt222.2 = true then ((group_SubQ.f 0 a1).bind fun t224 => ((group_Exp.f kj5 a0 t224).bind fun t225 => (if bt222.1 = t225 then ((group_Exp.f kj5 a0 a1).bind fun t226 => ((group_AddQ.f a1 0).bind fun t227 => ((group_Exp.f kj5 a0 t227).bind fun t228 => (some (t226 == t228))))) else (some false)))) else (some false)) else (some false)) else (some false)) else (some false))))) = some r := H
          have A23 := Aside0.mk A230
          clear A230
          replace H := Option.bind_eq_some_iff.mp H
          obtain ⟨t220, A240, H⟩ := H
          replace H : ((group_Exp.f kj5 a0 a1).bind fun t221 => ((group_Inv.f kj5 t221).bind fun bt222 => (if t205 = true then (if t214 = t216 then (if t218 = t220 then (if bt222.2 = true then ((group_SubQ.f 0 a1).bind fun t224 => ((group_Exp.f kj5 a0 t224).bind fun t225 => (if bt222.1 = t225 then ((group_Exp.f kj5 a0 a1).bind fun t226 => ((group_AddQ.f a1 0).bind fun t227 => ((group_Exp.f kj5 a0 t227).bind fun t228 => (some (t226 == t228))))) else (some false)))) else (some false)) else (some false)) else (some false)) else (some false)))) = some r := H
          have A24 := Aside0.mk A240
          clear A240
          replace H := Option.bind_eq_some_iff.mp H
          obtain ⟨t221, A250, H⟩ := H
          replace H : ((group_Inv.f kj5 t221).bind fun bt222 => (if t205 = true then (if t214 = t216 then (if t218 = t220 then (if bt222.2 = true then ((group_SubQ.f 0 a1).bind fun t224 => ((group_Exp.f kj5 a0 t224).bind fun t225 => (if bt222.1 = t225 then ((group_Exp.f kj5 a0 a1).bind fun t226 => ((group_AddQ.f a1 0).bind fun t227 => ((group_Exp.f kj5 a0 t227).bind fun t228 => (some (t226 == t228))))) else (some false)))) else (some false)) else (some false)) else (some false)) else (some false))) = some r := H
          have A25 := Aside0.mk A250
          clear A250
          replace H := Option.bind_eq_some_iff.mp H
          obtain ⟨⟨t222, t223⟩, A260, H⟩ := H
          replace H : (if t205 = true then (if t214 = t216 then (if t218 = t220 then (if t223 = true then ((group_SubQ.f 0 a1).bind fun t224 => ((group_Exp.f kj5 a0 t224).bind fun t225 => (if t222 = t225 then ((group_Exp.f kj5 a0 a1).bind fun t226 => ((group_AddQ.f a1 0).bind fun t227 => ((group_Exp.f kj5 a0 t227).bind fun t228 => (some (t226 == t228))))) else (some false)))) else (some false)) else (some false)) else (some false)) else (some false)) = some r := H
          have A26 := Aside0.mk A260
          clear A260
          by_cases c27 : t205 = true
          · subst c27
            have H1 : (if t214 = t216 then (if t218 = t220 then (if t223 = true then ((group_SubQ.f 0 a1).bind fun t224 => ((group_Exp.f kj5 a0 t224).bind fun t225 => (if t222 = t225 then ((group_Exp.f kj5 a0 a1).bind fun t226 => ((group_AddQ.f a1 0).bind fun t227 => ((group_Exp.f kj5 a0 t227).bind fun t228 => (some (t226 == t228))))) else (some false)))) else (some false)) else (some false)) else (some false)) = some r := by rw [if_pos rfl] at H; exact H
            clear H
            have H := H1
            clear H1
            by_cases c28 : t214 = t216
            · rw [if_pos c28] at H
              have c28b0 : (t214 == t216) = true := beq_iff_eq.mpr c28
              have c28b1 : (t214 != t216) = false := bne_eq_false_iff_eq.mpr c28
              clear c28
              by_cases c29 : t218 = t220
              · rw [if_pos c29] at H
                have c29b0 : (t218 == t220) = true := beq_iff_eq.mpr c29
                have c29b1 : (t218 != t220) = false := bne_eq_false_iff_eq.mpr c29
                clear c29
                by_cases c30 : t223 = true
                · subst c30
                  have H1 : ((group_SubQ.f 0 a1).bind fun t224 => ((group_Exp.f kj5 a0 t224).bind fun t225 => (if t222 = t225 then ((group_Exp.f kj5 a0 a1).bind fun t226 => ((group_AddQ.f a1 0).bind fun t227 => ((group_Exp.f kj5 a0 t227).bind fun t228 => (some (t226 == t228))))) else (some false)))) = some r := by rw [if_pos rfl] at H; exact H
                  clear H
                  have H := H1
                  clear H1
                  replace H := Option.bind_eq_some_iff.mp H
                  obtain ⟨t224, A310, H⟩ := H
                  replace H : ((group_Exp.f kj5 a0 t224).bind fun t225 => (if t222 = t225 then ((group_Exp.f kj5 a0 a1).bind fun t226 => ((group_AddQ.f a1 0).bind fun t227 => ((group_Exp.f kj5 a0 t227).bind fun t228 => (some (t226 == t228))))) else (some false))) = some r := H
                  have A31 := Aside0.mk A310
                  clear A310
                  replace H := Option.bind_eq_some_iff.mp H
                  obtain ⟨t225, A320, H⟩ := H
                  replace H : (if t222 = t225 then ((group_Exp.f kj5 a0 a1).bind fun t226 => ((group_AddQ.f a1 0).bind fun t227 => ((group_Exp.f kj5 a0 t227).bind fun t228 => (some (t226 == t228))))) else (some false)) = some r := H
                  have A32 := Aside0.mk A320
                  clear A320
                  by_cases c33 : t222 = t225
                  · rw [if_pos c33] at H
                    have c33b0 : (t222 == t225) = true := beq_iff_eq.mpr c33
                    have c33b1 : (t222 != t225) = false := bne_eq_false_iff_eq.mpr c33
                    clear c33
                    replace H := Option.bind_eq_some_iff.mp H
                    obtain ⟨t226, A340, H⟩ := H
                    replace H : ((group_AddQ.f a1 0).bind fun t227 => ((group_Exp.f kj5 a0 t227).bind fun t228 => (some (t226 == t228)))) = some r := H
                    have A34 := Aside0.mk A340
                    clear A340
                    replace H := Option.bind_eq_some_iff.mp H
                    obtain ⟨t227, A350, H⟩ := H
                    replace H : ((group_Exp.f kj5 a0 t227).bind fun t228 => (some (t226 == t228))) = some r := H
                    have A35 := Aside0.mk A350
                    clear A350
                    replace H := Option.bind_eq_some_iff.mp H
                    obtain ⟨t228, A360, H⟩ := H
                    replace H : (some (t226 == t228)) = some r := H
                    have A36 := Aside0.mk A360
                    clear A360
                    obtain rfl := Option.some.inj H
                    go_wp2_with (first | ((with_reducible refine gate_callee (f := 15) rfl ?_); refine goesL_ (some 34) rfl rfl Try.func15 (by kernel_rfl) rfl #[.int .i64 t206] rfl (by (try simp only [List.map_toArray, List.map_cons, List.map_nil]); first | done | rfl | (simp only [List.length_drop, List.length_take]; rfl)) ?_; (with_reducible refine (group_In.calls kj5 t206 true _ A14.out).mono ?_); rintro e w' ⟨rfl, ⟨nd, rfl⟩⟩; refine ⟨_, rfl, ?_⟩) | ((with_reducible refine gate_callee (f := 13) rfl ?_); refine goesL_ (some 39) rfl rfl Try.func13 (by kernel_rfl) rfl #[.int .i64 a0, .int .i64 a1] rfl (by (try simp only [List.map_toArray, List.map_cons, List.map_nil]); first | done | rfl | (simp only [List.length_drop, List.length_take]; rfl)) ?_; (with_reducible refine (group_Exp.calls kj5 a0 a1 t212 _ A16.out).mono ?_); rintro e w' ⟨rfl, ⟨nd, rfl⟩⟩; refine ⟨_, rfl, ?_⟩) | ((with_reducible refine gate_callee (f := 13) rfl ?_); refine goesL_ (some 42) rfl rfl Try.func13 (by kernel_rfl) rfl #[.int .i64 a0, .int .i64 a2] rfl (by (try simp only [List.map_toArray, List.map_cons, List.map_nil]); first | done | rfl | (simp only [List.length_drop, List.length_take]; rfl)) ?_; (with_reducible refine (group_Exp.calls kj5 a0 a2 t213 _ A17.out).mono ?_); rintro e w' ⟨rfl, ⟨nd, rfl⟩⟩; refine ⟨_, rfl, ?_⟩) | ((with_reducible refine gate_callee (f := 11) rfl ?_); refine goesL_ (some 43) rfl rfl Try.func11 (by kernel_rfl) rfl #[.int .i64 t212, .int .i64 t213] rfl (by (try simp only [List.map_toArray, List.map_cons, List.map_nil]); first | done | rfl | (simp only [List.length_drop, List.length_take]; rfl)) ?_; (with_reducible refine (group_Mul.calls kj5 t212 t213 t214 _ A18.out).mono ?_); rintro e w' ⟨rfl, ⟨nd, rfl⟩⟩; refine ⟨_, rfl, ?_⟩) | ((with_reducible refine gate_callee (f := 17) rfl ?_); refine goesL_ (some 47) rfl rfl Try.func17 (by kernel_rfl) rfl #[.int .i64 a1, .int .i64 a2] rfl (by (try simp only [List.map_toArray, List.map_cons, List.map_nil]); first | done | rfl | (simp only [List.length_drop, List.length_take]; rfl)) ?_; (with_reducible refine (group_AddQ.calls a1 a2 t215 _ A19.out).mono ?_); rintro e w' ⟨rfl, ⟨nd, rfl⟩⟩; refine ⟨_, rfl, ?_⟩) | ((with_reducible refine gate_callee (f := 13) rfl ?_); refine goesL_ (some 48) rfl rfl Try.func13 (by kernel_rfl) rfl #[.int .i64 a0, .int .i64 t215] rfl (by (try simp only [List.map_toArray, List.map_cons, List.map_nil]); first | done | rfl | (simp only [List.length_drop, List.length_take]; rfl)) ?_; (with_reducible refine (group_Exp.calls kj5 a0 t215 t216 _ A20.out).mono ?_); rintro e w' ⟨rfl, ⟨nd, rfl⟩⟩; refine ⟨_, rfl, ?_⟩) | ((with_reducible refine gate_callee (f := 13) rfl ?_); refine goesL_ (some 52) rfl rfl Try.func13 (by kernel_rfl) rfl #[.int .i64 a0, .int .i64 a1] rfl (by (try simp only [List.map_toArray, List.map_cons, List.map_nil]); first | done | rfl | (simp only [List.length_drop, List.length_take]; rfl)) ?_; (with_reducible refine (group_Exp.calls kj5 a0 a1 t217 _ A21.out).mono ?_); rintro e w' ⟨rfl, ⟨nd, rfl⟩⟩; refine ⟨_, rfl, ?_⟩) | ((with_reducible refine gate_callee (f := 13) rfl ?_); refine goesL_ (some 54) rfl rfl Try.func13 (by kernel_rfl) rfl #[.int .i64 t217, .int .i64 a2] rfl (by (try simp only [List.map_toArray, List.map_cons, List.map_nil]); first | done | rfl | (simp only [List.length_drop, List.length_take]; rfl)) ?_; (with_reducible refine (group_Exp.calls kj5 t217 a2 t218 _ A22.out).mono ?_); rintro e w' ⟨rfl, ⟨nd, rfl⟩⟩; refine ⟨_, rfl, ?_⟩) | ((with_reducible refine gate_callee (f := 21) rfl ?_); refine goesL_ (some 58) rfl rfl Try.func21 (by kernel_rfl) rfl #[.int .i64 a1, .int .i64 a2] rfl (by (try simp only [List.map_toArray, List.map_cons, List.map_nil]); first | done | rfl | (simp only [List.length_drop, List.length_take]; rfl)) ?_; (with_reducible refine (group_MulQ.calls kj5 a1 a2 t219 _ A23.out).mono ?_); rintro e w' ⟨rfl, ⟨nd, rfl⟩⟩; refine ⟨_, rfl, ?_⟩) | ((with_reducible refine gate_callee (f := 13) rfl ?_); refine goesL_ (some 59) rfl rfl Try.func13 (by kernel_rfl) rfl #[.int .i64 a0, .int .i64 t219] rfl (by (try simp only [List.map_toArray, List.map_cons, List.map_nil]); first | done | rfl | (simp only [List.length_drop, List.length_take]; rfl)) ?_; (with_reducible refine (group_Exp.calls kj5 a0 t219 t220 _ A24.out).mono ?_); rintro e w' ⟨rfl, ⟨nd, rfl⟩⟩; refine ⟨_, rfl, ?_⟩) | ((with_reducible refine gate_callee (f := 13) rfl ?_); refine goesL_ (some 64) rfl rfl Try.func13 (by kernel_rfl) rfl #[.int .i64 a0, .int .i64 a1] rfl (by (try simp only [List.map_toArray, List.map_cons, List.map_nil]); first | done | rfl | (simp only [List.length_drop, List.length_take]; rfl)) ?_; (with_reducible refine (group_Exp.calls kj5 a0 a1 t221 _ A25.out).mono ?_); rintro e w' ⟨rfl, ⟨nd, rfl⟩⟩; refine ⟨_, rfl, ?_⟩) | ((with_reducible refine gate_callee (f := 9) rfl ?_); refine goesL_ (some 65) rfl rfl Try.func9 (by kernel_rfl) rfl #[.int .i64 t221] rfl (by (try simp only [List.map_toArray, List.map_cons, List.map_nil]); first | done | rfl | (simp only [List.length_drop, List.length_take]; rfl)) ?_; (with_reducible refine (group_Inv.calls kj5 t221 t222 true _ A26.out).mono ?_); rintro e w' ⟨rfl, ⟨nd, rfl⟩⟩; refine ⟨_, rfl, ?_⟩) | (go_at_call 19; (with_reducible refine (group_SubQ.calls 0 a1 t224 _ A31.out).mono ?_); rintro e w' ⟨rfl, ⟨nd, rfl⟩⟩; (try clear A31)) | (go_at_call 13; (with_reducible refine (group_Exp.calls kj5 a0 t224 t225 _ A32.out).mono ?_); rintro e w' ⟨rfl, ⟨nd, rfl⟩⟩; (try clear A32)) | (go_at_call 13; (with_reducible refine (group_Exp.calls kj5 a0 a1 t226 _ A34.out).mono ?_); rintro e w' ⟨rfl, ⟨nd, rfl⟩⟩; (try clear A34)) | (go_at_call 17; (with_reducible refine (group_AddQ.calls a1 0 t227 _ A35.out).mono ?_); rintro e w' ⟨rfl, ⟨nd, rfl⟩⟩; (try clear A35)) | (go_at_call 13; (with_reducible refine (group_Exp.calls kj5 a0 t227 t228 _ A36.out).mono ?_); rintro e w' ⟨rfl, ⟨nd, rfl⟩⟩; (try clear A36)))
                    go_ret
                    exact ⟨by first | rfl | (simp; done) | (simp [*]; done), by repeat (first | exact Drawn0.refl _ | apply Drawn0.step)⟩
                  · rw [if_neg c33] at H
                    have c33b0 : (t222 == t225) = false := beq_eq_false_iff_ne.mpr c33
                    have c33b1 : (t222 != t225) = true := bne_iff_ne.mpr c33
                    obtain rfl := Option.some.inj H
                    go_wp2_with (first | ((with_reducible refine gate_callee (f := 15) rfl ?_); refine goesL_ (some 34) rfl rfl Try.func15 (by kernel_rfl) rfl #[.int .i64 t206] rfl (by (try simp only [List.map_toArray, List.map_cons, List.map_nil]); first | done | rfl | (simp only [List.length_drop, List.length_take]; rfl)) ?_; (with_reducible refine (group_In.calls kj5 t206 true _ A14.out).mono ?_); rintro e w' ⟨rfl, ⟨nd, rfl⟩⟩; refine ⟨_, rfl, ?_⟩) | ((with_reducible refine gate_callee (f := 13) rfl ?_); refine goesL_ (some 39) rfl rfl Try.func13 (by kernel_rfl) rfl #[.int .i64 a0, .int .i64 a1] rfl (by (try simp only [List.map_toArray, List.map_cons, List.map_nil]); first | done | rfl | (simp only [List.length_drop, List.length_take]; rfl)) ?_; (with_reducible refine (group_Exp.calls kj5 a0 a1 t212 _ A16.out).mono ?_); rintro e w' ⟨rfl, ⟨nd, rfl⟩⟩; refine ⟨_, rfl, ?_⟩) | ((with_reducible refine gate_callee (f := 13) rfl ?_); refine goesL_ (some 42) rfl rfl Try.func13 (by kernel_rfl) rfl #[.int .i64 a0, .int .i64 a2] rfl (by (try simp only [List.map_toArray, List.map_cons, List.map_nil]); first | done | rfl | (simp only [List.length_drop, List.length_take]; rfl)) ?_; (with_reducible refine (group_Exp.calls kj5 a0 a2 t213 _ A17.out).mono ?_); rintro e w' ⟨rfl, ⟨nd, rfl⟩⟩; refine ⟨_, rfl, ?_⟩) | ((with_reducible refine gate_callee (f := 11) rfl ?_); refine goesL_ (some 43) rfl rfl Try.func11 (by kernel_rfl) rfl #[.int .i64 t212, .int .i64 t213] rfl (by (try simp only [List.map_toArray, List.map_cons, List.map_nil]); first | done | rfl | (simp only [List.length_drop, List.length_take]; rfl)) ?_; (with_reducible refine (group_Mul.calls kj5 t212 t213 t214 _ A18.out).mono ?_); rintro e w' ⟨rfl, ⟨nd, rfl⟩⟩; refine ⟨_, rfl, ?_⟩) | ((with_reducible refine gate_callee (f := 17) rfl ?_); refine goesL_ (some 47) rfl rfl Try.func17 (by kernel_rfl) rfl #[.int .i64 a1, .int .i64 a2] rfl (by (try simp only [List.map_toArray, List.map_cons, List.map_nil]); first | done | rfl | (simp only [List.length_drop, List.length_take]; rfl)) ?_; (with_reducible refine (group_AddQ.calls a1 a2 t215 _ A19.out).mono ?_); rintro e w' ⟨rfl, ⟨nd, rfl⟩⟩; refine ⟨_, rfl, ?_⟩) | ((with_reducible refine gate_callee (f := 13) rfl ?_); refine goesL_ (some 48) rfl rfl Try.func13 (by kernel_rfl) rfl #[.int .i64 a0, .int .i64 t215] rfl (by (try simp only [List.map_toArray, List.map_cons, List.map_nil]); first | done | rfl | (simp only [List.length_drop, List.length_take]; rfl)) ?_; (with_reducible refine (group_Exp.calls kj5 a0 t215 t216 _ A20.out).mono ?_); rintro e w' ⟨rfl, ⟨nd, rfl⟩⟩; refine ⟨_, rfl, ?_⟩) | ((with_reducible refine gate_callee (f := 13) rfl ?_); refine goesL_ (some 52) rfl rfl Try.func13 (by kernel_rfl) rfl #[.int .i64 a0, .int .i64 a1] rfl (by (try simp only [List.map_toArray, List.map_cons, List.map_nil]); first | done | rfl | (simp only [List.length_drop, List.length_take]; rfl)) ?_; (with_reducible refine (group_Exp.calls kj5 a0 a1 t217 _ A21.out).mono ?_); rintro e w' ⟨rfl, ⟨nd, rfl⟩⟩; refine ⟨_, rfl, ?_⟩) | ((with_reducible refine gate_callee (f := 13) rfl ?_); refine goesL_ (some 54) rfl rfl Try.func13 (by kernel_rfl) rfl #[.int .i64 t217, .int .i64 a2] rfl (by (try simp only [List.map_toArray, List.map_cons, List.map_nil]); first | done | rfl | (simp only [List.length_drop, List.length_take]; rfl)) ?_; (with_reducible refine (group_Exp.calls kj5 t217 a2 t218 _ A22.out).mono ?_); rintro e w' ⟨rfl, ⟨nd, rfl⟩⟩; refine ⟨_, rfl, ?_⟩) | ((with_reducible refine gate_callee (f := 21) rfl ?_); refine goesL_ (some 58) rfl rfl Try.func21 (by kernel_rfl) rfl #[.int .i64 a1, .int .i64 a2] rfl (by (try simp only [List.map_toArray, List.map_cons, List.map_nil]); first | done | rfl | (simp only [List.length_drop, List.length_take]; rfl)) ?_; (with_reducible refine (group_MulQ.calls kj5 a1 a2 t219 _ A23.out).mono ?_); rintro e w' ⟨rfl, ⟨nd, rfl⟩⟩; refine ⟨_, rfl, ?_⟩) | ((with_reducible refine gate_callee (f := 13) rfl ?_); refine goesL_ (some 59) rfl rfl Try.func13 (by kernel_rfl) rfl #[.int .i64 a0, .int .i64 t219] rfl (by (try simp only [List.map_toArray, List.map_cons, List.map_nil]); first | done | rfl | (simp only [List.length_drop, List.length_take]; rfl)) ?_; (with_reducible refine (group_Exp.calls kj5 a0 t219 t220 _ A24.out).mono ?_); rintro e w' ⟨rfl, ⟨nd, rfl⟩⟩; refine ⟨_, rfl, ?_⟩) | ((with_reducible refine gate_callee (f := 13) rfl ?_); refine goesL_ (some 64) rfl rfl Try.func13 (by kernel_rfl) rfl #[.int .i64 a0, .int .i64 a1] rfl (by (try simp only [List.map_toArray, List.map_cons, List.map_nil]); first | done | rfl | (simp only [List.length_drop, List.length_take]; rfl)) ?_; (with_reducible refine (group_Exp.calls kj5 a0 a1 t221 _ A25.out).mono ?_); rintro e w' ⟨rfl, ⟨nd, rfl⟩⟩; refine ⟨_, rfl, ?_⟩) | ((with_reducible refine gate_callee (f := 9) rfl ?_); refine goesL_ (some 65) rfl rfl Try.func9 (by kernel_rfl) rfl #[.int .i64 t221] rfl (by (try simp only [List.map_toArray, List.map_cons, List.map_nil]); first | done | rfl | (simp only [List.length_drop, List.length_take]; rfl)) ?_; (with_reducible refine (group_Inv.calls kj5 t221 t222 true _ A26.out).mono ?_); rintro e w' ⟨rfl, ⟨nd, rfl⟩⟩; refine ⟨_, rfl, ?_⟩) | (go_at_call 19; (with_reducible refine (group_SubQ.calls 0 a1 t224 _ A31.out).mono ?_); rintro e w' ⟨rfl, ⟨nd, rfl⟩⟩; (try clear A31)) | (go_at_call 13; (with_reducible refine (group_Exp.calls kj5 a0 t224 t225 _ A32.out).mono ?_); rintro e w' ⟨rfl, ⟨nd, rfl⟩⟩; (try clear A32)))
                    go_ret
                    exact ⟨by first | rfl | (simp; done) | (simp [*]; done), by repeat (first | exact Drawn0.refl _ | apply Drawn0.step)⟩
                · replace c30 := Bool.eq_false_iff.mpr c30
                  subst c30
                  have H1 : (some false) = some r := by rw [if_neg (show ¬ (false = true) by decide)] at H; exact H
                  clear H
                  have H := H1
                  clear H1
                  obtain rfl := Option.some.inj H
                  go_wp2_with (first | ((with_reducible refine gate_callee (f := 15) rfl ?_); refine goesL_ (some 34) rfl rfl Try.func15 (by kernel_rfl) rfl #[.int .i64 t206] rfl (by (try simp only [List.map_toArray, List.map_cons, List.map_nil]); first | done | rfl | (simp only [List.length_drop, List.length_take]; rfl)) ?_; (with_reducible refine (group_In.calls kj5 t206 true _ A14.out).mono ?_); rintro e w' ⟨rfl, ⟨nd, rfl⟩⟩; refine ⟨_, rfl, ?_⟩) | ((with_reducible refine gate_callee (f := 13) rfl ?_); refine goesL_ (some 39) rfl rfl Try.func13 (by kernel_rfl) rfl #[.int .i64 a0, .int .i64 a1] rfl (by (try simp only [List.map_toArray, List.map_cons, List.map_nil]); first | done | rfl | (simp only [List.length_drop, List.length_take]; rfl)) ?_; (with_reducible refine (group_Exp.calls kj5 a0 a1 t212 _ A16.out).mono ?_); rintro e w' ⟨rfl, ⟨nd, rfl⟩⟩; refine ⟨_, rfl, ?_⟩) | ((with_reducible refine gate_callee (f := 13) rfl ?_); refine goesL_ (some 42) rfl rfl Try.func13 (by kernel_rfl) rfl #[.int .i64 a0, .int .i64 a2] rfl (by (try simp only [List.map_toArray, List.map_cons, List.map_nil]); first | done | rfl | (simp only [List.length_drop, List.length_take]; rfl)) ?_; (with_reducible refine (group_Exp.calls kj5 a0 a2 t213 _ A17.out).mono ?_); rintro e w' ⟨rfl, ⟨nd, rfl⟩⟩; refine ⟨_, rfl, ?_⟩) | ((with_reducible refine gate_callee (f := 11) rfl ?_); refine goesL_ (some 43) rfl rfl Try.func11 (by kernel_rfl) rfl #[.int .i64 t212, .int .i64 t213] rfl (by (try simp only [List.map_toArray, List.map_cons, List.map_nil]); first | done | rfl | (simp only [List.length_drop, List.length_take]; rfl)) ?_; (with_reducible refine (group_Mul.calls kj5 t212 t213 t214 _ A18.out).mono ?_); rintro e w' ⟨rfl, ⟨nd, rfl⟩⟩; refine ⟨_, rfl, ?_⟩) | ((with_reducible refine gate_callee (f := 17) rfl ?_); refine goesL_ (some 47) rfl rfl Try.func17 (by kernel_rfl) rfl #[.int .i64 a1, .int .i64 a2] rfl (by (try simp only [List.map_toArray, List.map_cons, List.map_nil]); first | done | rfl | (simp only [List.length_drop, List.length_take]; rfl)) ?_; (with_reducible refine (group_AddQ.calls a1 a2 t215 _ A19.out).mono ?_); rintro e w' ⟨rfl, ⟨nd, rfl⟩⟩; refine ⟨_, rfl, ?_⟩) | ((with_reducible refine gate_callee (f := 13) rfl ?_); refine goesL_ (some 48) rfl rfl Try.func13 (by kernel_rfl) rfl #[.int .i64 a0, .int .i64 t215] rfl (by (try simp only [List.map_toArray, List.map_cons, List.map_nil]); first | done | rfl | (simp only [List.length_drop, List.length_take]; rfl)) ?_; (with_reducible refine (group_Exp.calls kj5 a0 t215 t216 _ A20.out).mono ?_); rintro e w' ⟨rfl, ⟨nd, rfl⟩⟩; refine ⟨_, rfl, ?_⟩) | ((with_reducible refine gate_callee (f := 13) rfl ?_); refine goesL_ (some 52) rfl rfl Try.func13 (by kernel_rfl) rfl #[.int .i64 a0, .int .i64 a1] rfl (by (try simp only [List.map_toArray, List.map_cons, List.map_nil]); first | done | rfl | (simp only [List.length_drop, List.length_take]; rfl)) ?_; (with_reducible refine (group_Exp.calls kj5 a0 a1 t217 _ A21.out).mono ?_); rintro e w' ⟨rfl, ⟨nd, rfl⟩⟩; refine ⟨_, rfl, ?_⟩) | ((with_reducible refine gate_callee (f := 13) rfl ?_); refine goesL_ (some 54) rfl rfl Try.func13 (by kernel_rfl) rfl #[.int .i64 t217, .int .i64 a2] rfl (by (try simp only [List.map_toArray, List.map_cons, List.map_nil]); first | done | rfl | (simp only [List.length_drop, List.length_take]; rfl)) ?_; (with_reducible refine (group_Exp.calls kj5 t217 a2 t218 _ A22.out).mono ?_); rintro e w' ⟨rfl, ⟨nd, rfl⟩⟩; refine ⟨_, rfl, ?_⟩) | ((with_reducible refine gate_callee (f := 21) rfl ?_); refine goesL_ (some 58) rfl rfl Try.func21 (by kernel_rfl) rfl #[.int .i64 a1, .int .i64 a2] rfl (by (try simp only [List.map_toArray, List.map_cons, List.map_nil]); first | done | rfl | (simp only [List.length_drop, List.length_take]; rfl)) ?_; (with_reducible refine (group_MulQ.calls kj5 a1 a2 t219 _ A23.out).mono ?_); rintro e w' ⟨rfl, ⟨nd, rfl⟩⟩; refine ⟨_, rfl, ?_⟩) | ((with_reducible refine gate_callee (f := 13) rfl ?_); refine goesL_ (some 59) rfl rfl Try.func13 (by kernel_rfl) rfl #[.int .i64 a0, .int .i64 t219] rfl (by (try simp only [List.map_toArray, List.map_cons, List.map_nil]); first | done | rfl | (simp only [List.length_drop, List.length_take]; rfl)) ?_; (with_reducible refine (group_Exp.calls kj5 a0 t219 t220 _ A24.out).mono ?_); rintro e w' ⟨rfl, ⟨nd, rfl⟩⟩; refine ⟨_, rfl, ?_⟩) | ((with_reducible refine gate_callee (f := 13) rfl ?_); refine goesL_ (some 64) rfl rfl Try.func13 (by kernel_rfl) rfl #[.int .i64 a0, .int .i64 a1] rfl (by (try simp only [List.map_toArray, List.map_cons, List.map_nil]); first | done | rfl | (simp only [List.length_drop, List.length_take]; rfl)) ?_; (with_reducible refine (group_Exp.calls kj5 a0 a1 t221 _ A25.out).mono ?_); rintro e w' ⟨rfl, ⟨nd, rfl⟩⟩; refine ⟨_, rfl, ?_⟩) | ((with_reducible refine gate_callee (f := 9) rfl ?_); refine goesL_ (some 65) rfl rfl Try.func9 (by kernel_rfl) rfl #[.int .i64 t221] rfl (by (try simp only [List.map_toArray, List.map_cons, List.map_nil]); first | done | rfl | (simp only [List.length_drop, List.length_take]; rfl)) ?_; (with_reducible refine (group_Inv.calls kj5 t221 t222 false _ A26.out).mono ?_); rintro e w' ⟨rfl, ⟨nd, rfl⟩⟩; refine ⟨_, rfl, ?_⟩))
                  go_ret
                  exact ⟨by first | rfl | (simp; done) | (simp [*]; done), by repeat (first | exact Drawn0.refl _ | apply Drawn0.step)⟩
              · rw [if_neg c29] at H
                have c29b0 : (t218 == t220) = false := beq_eq_false_iff_ne.mpr c29
                have c29b1 : (t218 != t220) = true := bne_iff_ne.mpr c29
                obtain rfl := Option.some.inj H
                go_wp2_with (first | ((with_reducible refine gate_callee (f := 15) rfl ?_); refine goesL_ (some 34) rfl rfl Try.func15 (by kernel_rfl) rfl #[.int .i64 t206] rfl (by (try simp only [List.map_toArray, List.map_cons, List.map_nil]); first | done | rfl | (simp only [List.length_drop, List.length_take]; rfl)) ?_; (with_reducible refine (group_In.calls kj5 t206 true _ A14.out).mono ?_); rintro e w' ⟨rfl, ⟨nd, rfl⟩⟩; refine ⟨_, rfl, ?_⟩) | ((with_reducible refine gate_callee (f := 13) rfl ?_); refine goesL_ (some 39) rfl rfl Try.func13 (by kernel_rfl) rfl #[.int .i64 a0, .int .i64 a1] rfl (by (try simp only [List.map_toArray, List.map_cons, List.map_nil]); first | done | rfl | (simp only [List.length_drop, List.length_take]; rfl)) ?_; (with_reducible refine (group_Exp.calls kj5 a0 a1 t212 _ A16.out).mono ?_); rintro e w' ⟨rfl, ⟨nd, rfl⟩⟩; refine ⟨_, rfl, ?_⟩) | ((with_reducible refine gate_callee (f := 13) rfl ?_); refine goesL_ (some 42) rfl rfl Try.func13 (by kernel_rfl) rfl #[.int .i64 a0, .int .i64 a2] rfl (by (try simp only [List.map_toArray, List.map_cons, List.map_nil]); first | done | rfl | (simp only [List.length_drop, List.length_take]; rfl)) ?_; (with_reducible refine (group_Exp.calls kj5 a0 a2 t213 _ A17.out).mono ?_); rintro e w' ⟨rfl, ⟨nd, rfl⟩⟩; refine ⟨_, rfl, ?_⟩) | ((with_reducible refine gate_callee (f := 11) rfl ?_); refine goesL_ (some 43) rfl rfl Try.func11 (by kernel_rfl) rfl #[.int .i64 t212, .int .i64 t213] rfl (by (try simp only [List.map_toArray, List.map_cons, List.map_nil]); first | done | rfl | (simp only [List.length_drop, List.length_take]; rfl)) ?_; (with_reducible refine (group_Mul.calls kj5 t212 t213 t214 _ A18.out).mono ?_); rintro e w' ⟨rfl, ⟨nd, rfl⟩⟩; refine ⟨_, rfl, ?_⟩) | ((with_reducible refine gate_callee (f := 17) rfl ?_); refine goesL_ (some 47) rfl rfl Try.func17 (by kernel_rfl) rfl #[.int .i64 a1, .int .i64 a2] rfl (by (try simp only [List.map_toArray, List.map_cons, List.map_nil]); first | done | rfl | (simp only [List.length_drop, List.length_take]; rfl)) ?_; (with_reducible refine (group_AddQ.calls a1 a2 t215 _ A19.out).mono ?_); rintro e w' ⟨rfl, ⟨nd, rfl⟩⟩; refine ⟨_, rfl, ?_⟩) | ((with_reducible refine gate_callee (f := 13) rfl ?_); refine goesL_ (some 48) rfl rfl Try.func13 (by kernel_rfl) rfl #[.int .i64 a0, .int .i64 t215] rfl (by (try simp only [List.map_toArray, List.map_cons, List.map_nil]); first | done | rfl | (simp only [List.length_drop, List.length_take]; rfl)) ?_; (with_reducible refine (group_Exp.calls kj5 a0 t215 t216 _ A20.out).mono ?_); rintro e w' ⟨rfl, ⟨nd, rfl⟩⟩; refine ⟨_, rfl, ?_⟩) | ((with_reducible refine gate_callee (f := 13) rfl ?_); refine goesL_ (some 52) rfl rfl Try.func13 (by kernel_rfl) rfl #[.int .i64 a0, .int .i64 a1] rfl (by (try simp only [List.map_toArray, List.map_cons, List.map_nil]); first | done | rfl | (simp only [List.length_drop, List.length_take]; rfl)) ?_; (with_reducible refine (group_Exp.calls kj5 a0 a1 t217 _ A21.out).mono ?_); rintro e w' ⟨rfl, ⟨nd, rfl⟩⟩; refine ⟨_, rfl, ?_⟩) | ((with_reducible refine gate_callee (f := 13) rfl ?_); refine goesL_ (some 54) rfl rfl Try.func13 (by kernel_rfl) rfl #[.int .i64 t217, .int .i64 a2] rfl (by (try simp only [List.map_toArray, List.map_cons, List.map_nil]); first | done | rfl | (simp only [List.length_drop, List.length_take]; rfl)) ?_; (with_reducible refine (group_Exp.calls kj5 t217 a2 t218 _ A22.out).mono ?_); rintro e w' ⟨rfl, ⟨nd, rfl⟩⟩; refine ⟨_, rfl, ?_⟩) | ((with_reducible refine gate_callee (f := 21) rfl ?_); refine goesL_ (some 58) rfl rfl Try.func21 (by kernel_rfl) rfl #[.int .i64 a1, .int .i64 a2] rfl (by (try simp only [List.map_toArray, List.map_cons, List.map_nil]); first | done | rfl | (simp only [List.length_drop, List.length_take]; rfl)) ?_; (with_reducible refine (group_MulQ.calls kj5 a1 a2 t219 _ A23.out).mono ?_); rintro e w' ⟨rfl, ⟨nd, rfl⟩⟩; refine ⟨_, rfl, ?_⟩) | ((with_reducible refine gate_callee (f := 13) rfl ?_); refine goesL_ (some 59) rfl rfl Try.func13 (by kernel_rfl) rfl #[.int .i64 a0, .int .i64 t219] rfl (by (try simp only [List.map_toArray, List.map_cons, List.map_nil]); first | done | rfl | (simp only [List.length_drop, List.length_take]; rfl)) ?_; (with_reducible refine (group_Exp.calls kj5 a0 t219 t220 _ A24.out).mono ?_); rintro e w' ⟨rfl, ⟨nd, rfl⟩⟩; refine ⟨_, rfl, ?_⟩) | ((with_reducible refine gate_callee (f := 13) rfl ?_); refine goesL_ (some 64) rfl rfl Try.func13 (by kernel_rfl) rfl #[.int .i64 a0, .int .i64 a1] rfl (by (try simp only [List.map_toArray, List.map_cons, List.map_nil]); first | done | rfl | (simp only [List.length_drop, List.length_take]; rfl)) ?_; (with_reducible refine (group_Exp.calls kj5 a0 a1 t221 _ A25.out).mono ?_); rintro e w' ⟨rfl, ⟨nd, rfl⟩⟩; refine ⟨_, rfl, ?_⟩) | ((with_reducible refine gate_callee (f := 9) rfl ?_); refine goesL_ (some 65) rfl rfl Try.func9 (by kernel_rfl) rfl #[.int .i64 t221] rfl (by (try simp only [List.map_toArray, List.map_cons, List.map_nil]); first | done | rfl | (simp only [List.length_drop, List.length_take]; rfl)) ?_; (with_reducible refine (group_Inv.calls kj5 t221 t222 t223 _ A26.out).mono ?_); rintro e w' ⟨rfl, ⟨nd, rfl⟩⟩; refine ⟨_, rfl, ?_⟩))
                go_ret
                exact ⟨by first | rfl | (simp; done) | (simp [*]; done), by repeat (first | exact Drawn0.refl _ | apply Drawn0.step)⟩
            · rw [if_neg c28] at H
              have c28b0 : (t214 == t216) = false := beq_eq_false_iff_ne.mpr c28
              have c28b1 : (t214 != t216) = true := bne_iff_ne.mpr c28
              obtain rfl := Option.some.inj H
              go_wp2_with (first | ((with_reducible refine gate_callee (f := 15) rfl ?_); refine goesL_ (some 34) rfl rfl Try.func15 (by kernel_rfl) rfl #[.int .i64 t206] rfl (by (try simp only [List.map_toArray, List.map_cons, List.map_nil]); first | done | rfl | (simp only [List.length_drop, List.length_take]; rfl)) ?_; (with_reducible refine (group_In.calls kj5 t206 true _ A14.out).mono ?_); rintro e w' ⟨rfl, ⟨nd, rfl⟩⟩; refine ⟨_, rfl, ?_⟩) | ((with_reducible refine gate_callee (f := 13) rfl ?_); refine goesL_ (some 39) rfl rfl Try.func13 (by kernel_rfl) rfl #[.int .i64 a0, .int .i64 a1] rfl (by (try simp only [List.map_toArray, List.map_cons, List.map_nil]); first | done | rfl | (simp only [List.length_drop, List.length_take]; rfl)) ?_; (with_reducible refine (group_Exp.calls kj5 a0 a1 t212 _ A16.out).mono ?_); rintro e w' ⟨rfl, ⟨nd, rfl⟩⟩; refine ⟨_, rfl, ?_⟩) | ((with_reducible refine gate_callee (f := 13) rfl ?_); refine goesL_ (some 42) rfl rfl Try.func13 (by kernel_rfl) rfl #[.int .i64 a0, .int .i64 a2] rfl (by (try simp only [List.map_toArray, List.map_cons, List.map_nil]); first | done | rfl | (simp only [List.length_drop, List.length_take]; rfl)) ?_; (with_reducible refine (group_Exp.calls kj5 a0 a2 t213 _ A17.out).mono ?_); rintro e w' ⟨rfl, ⟨nd, rfl⟩⟩; refine ⟨_, rfl, ?_⟩) | ((with_reducible refine gate_callee (f := 11) rfl ?_); refine goesL_ (some 43) rfl rfl Try.func11 (by kernel_rfl) rfl #[.int .i64 t212, .int .i64 t213] rfl (by (try simp only [List.map_toArray, List.map_cons, List.map_nil]); first | done | rfl | (simp only [List.length_drop, List.length_take]; rfl)) ?_; (with_reducible refine (group_Mul.calls kj5 t212 t213 t214 _ A18.out).mono ?_); rintro e w' ⟨rfl, ⟨nd, rfl⟩⟩; refine ⟨_, rfl, ?_⟩) | ((with_reducible refine gate_callee (f := 17) rfl ?_); refine goesL_ (some 47) rfl rfl Try.func17 (by kernel_rfl) rfl #[.int .i64 a1, .int .i64 a2] rfl (by (try simp only [List.map_toArray, List.map_cons, List.map_nil]); first | done | rfl | (simp only [List.length_drop, List.length_take]; rfl)) ?_; (with_reducible refine (group_AddQ.calls a1 a2 t215 _ A19.out).mono ?_); rintro e w' ⟨rfl, ⟨nd, rfl⟩⟩; refine ⟨_, rfl, ?_⟩) | ((with_reducible refine gate_callee (f := 13) rfl ?_); refine goesL_ (some 48) rfl rfl Try.func13 (by kernel_rfl) rfl #[.int .i64 a0, .int .i64 t215] rfl (by (try simp only [List.map_toArray, List.map_cons, List.map_nil]); first | done | rfl | (simp only [List.length_drop, List.length_take]; rfl)) ?_; (with_reducible refine (group_Exp.calls kj5 a0 t215 t216 _ A20.out).mono ?_); rintro e w' ⟨rfl, ⟨nd, rfl⟩⟩; refine ⟨_, rfl, ?_⟩) | ((with_reducible refine gate_callee (f := 13) rfl ?_); refine goesL_ (some 52) rfl rfl Try.func13 (by kernel_rfl) rfl #[.int .i64 a0, .int .i64 a1] rfl (by (try simp only [List.map_toArray, List.map_cons, List.map_nil]); first | done | rfl | (simp only [List.length_drop, List.length_take]; rfl)) ?_; (with_reducible refine (group_Exp.calls kj5 a0 a1 t217 _ A21.out).mono ?_); rintro e w' ⟨rfl, ⟨nd, rfl⟩⟩; refine ⟨_, rfl, ?_⟩) | ((with_reducible refine gate_callee (f := 13) rfl ?_); refine goesL_ (some 54) rfl rfl Try.func13 (by kernel_rfl) rfl #[.int .i64 t217, .int .i64 a2] rfl (by (try simp only [List.map_toArray, List.map_cons, List.map_nil]); first | done | rfl | (simp only [List.length_drop, List.length_take]; rfl)) ?_; (with_reducible refine (group_Exp.calls kj5 t217 a2 t218 _ A22.out).mono ?_); rintro e w' ⟨rfl, ⟨nd, rfl⟩⟩; refine ⟨_, rfl, ?_⟩) | ((with_reducible refine gate_callee (f := 21) rfl ?_); refine goesL_ (some 58) rfl rfl Try.func21 (by kernel_rfl) rfl #[.int .i64 a1, .int .i64 a2] rfl (by (try simp only [List.map_toArray, List.map_cons, List.map_nil]); first | done | rfl | (simp only [List.length_drop, List.length_take]; rfl)) ?_; (with_reducible refine (group_MulQ.calls kj5 a1 a2 t219 _ A23.out).mono ?_); rintro e w' ⟨rfl, ⟨nd, rfl⟩⟩; refine ⟨_, rfl, ?_⟩) | ((with_reducible refine gate_callee (f := 13) rfl ?_); refine goesL_ (some 59) rfl rfl Try.func13 (by kernel_rfl) rfl #[.int .i64 a0, .int .i64 t219] rfl (by (try simp only [List.map_toArray, List.map_cons, List.map_nil]); first | done | rfl | (simp only [List.length_drop, List.length_take]; rfl)) ?_; (with_reducible refine (group_Exp.calls kj5 a0 t219 t220 _ A24.out).mono ?_); rintro e w' ⟨rfl, ⟨nd, rfl⟩⟩; refine ⟨_, rfl, ?_⟩) | ((with_reducible refine gate_callee (f := 13) rfl ?_); refine goesL_ (some 64) rfl rfl Try.func13 (by kernel_rfl) rfl #[.int .i64 a0, .int .i64 a1] rfl (by (try simp only [List.map_toArray, List.map_cons, List.map_nil]); first | done | rfl | (simp only [List.length_drop, List.length_take]; rfl)) ?_; (with_reducible refine (group_Exp.calls kj5 a0 a1 t221 _ A25.out).mono ?_); rintro e w' ⟨rfl, ⟨nd, rfl⟩⟩; refine ⟨_, rfl, ?_⟩) | ((with_reducible refine gate_callee (f := 9) rfl ?_); refine goesL_ (some 65) rfl rfl Try.func9 (by kernel_rfl) rfl #[.int .i64 t221] rfl (by (try simp only [List.map_toArray, List.map_cons, List.map_nil]); first | done | rfl | (simp only [List.length_drop, List.length_take]; rfl)) ?_; (with_reducible refine (group_Inv.calls kj5 t221 t222 t223 _ A26.out).mono ?_); rintro e w' ⟨rfl, ⟨nd, rfl⟩⟩; refine ⟨_, rfl, ?_⟩))
              go_ret
              exact ⟨by first | rfl | (simp; done) | (simp [*]; done), by repeat (first | exact Drawn0.refl _ | apply Drawn0.step)⟩
          · replace c27 := Bool.eq_false_iff.mpr c27
            subst c27
            have H1 : (some false) = some r := by rw [if_neg (show ¬ (false = true) by decide)] at H; exact H
            clear H
            have H := H1
            clear H1
            obtain rfl := Option.some.inj H
            go_wp2_with (first | ((with_reducible refine gate_callee (f := 15) rfl ?_); refine goesL_ (some 34) rfl rfl Try.func15 (by kernel_rfl) rfl #[.int .i64 t206] rfl (by (try simp only [List.map_toArray, List.map_cons, List.map_nil]); first | done | rfl | (simp only [List.length_drop, List.length_take]; rfl)) ?_; (with_reducible refine (group_In.calls kj5 t206 true _ A14.out).mono ?_); rintro e w' ⟨rfl, ⟨nd, rfl⟩⟩; refine ⟨_, rfl, ?_⟩) | ((with_reducible refine gate_callee (f := 13) rfl ?_); refine goesL_ (some 39) rfl rfl Try.func13 (by kernel_rfl) rfl #[.int .i64 a0, .int .i64 a1] rfl (by (try simp only [List.map_toArray, List.map_cons, List.map_nil]); first | done | rfl | (simp only [List.length_drop, List.length_take]; rfl)) ?_; (with_reducible refine (group_Exp.calls kj5 a0 a1 t212 _ A16.out).mono ?_); rintro e w' ⟨rfl, ⟨nd, rfl⟩⟩; refine ⟨_, rfl, ?_⟩) | ((with_reducible refine gate_callee (f := 13) rfl ?_); refine goesL_ (some 42) rfl rfl Try.func13 (by kernel_rfl) rfl #[.int .i64 a0, .int .i64 a2] rfl (by (try simp only [List.map_toArray, List.map_cons, List.map_nil]); first | done | rfl | (simp only [List.length_drop, List.length_take]; rfl)) ?_; (with_reducible refine (group_Exp.calls kj5 a0 a2 t213 _ A17.out).mono ?_); rintro e w' ⟨rfl, ⟨nd, rfl⟩⟩; refine ⟨_, rfl, ?_⟩) | ((with_reducible refine gate_callee (f := 11) rfl ?_); refine goesL_ (some 43) rfl rfl Try.func11 (by kernel_rfl) rfl #[.int .i64 t212, .int .i64 t213] rfl (by (try simp only [List.map_toArray, List.map_cons, List.map_nil]); first | done | rfl | (simp only [List.length_drop, List.length_take]; rfl)) ?_; (with_reducible refine (group_Mul.calls kj5 t212 t213 t214 _ A18.out).mono ?_); rintro e w' ⟨rfl, ⟨nd, rfl⟩⟩; refine ⟨_, rfl, ?_⟩) | ((with_reducible refine gate_callee (f := 17) rfl ?_); refine goesL_ (some 47) rfl rfl Try.func17 (by kernel_rfl) rfl #[.int .i64 a1, .int .i64 a2] rfl (by (try simp only [List.map_toArray, List.map_cons, List.map_nil]); first | done | rfl | (simp only [List.length_drop, List.length_take]; rfl)) ?_; (with_reducible refine (group_AddQ.calls a1 a2 t215 _ A19.out).mono ?_); rintro e w' ⟨rfl, ⟨nd, rfl⟩⟩; refine ⟨_, rfl, ?_⟩) | ((with_reducible refine gate_callee (f := 13) rfl ?_); refine goesL_ (some 48) rfl rfl Try.func13 (by kernel_rfl) rfl #[.int .i64 a0, .int .i64 t215] rfl (by (try simp only [List.map_toArray, List.map_cons, List.map_nil]); first | done | rfl | (simp only [List.length_drop, List.length_take]; rfl)) ?_; (with_reducible refine (group_Exp.calls kj5 a0 t215 t216 _ A20.out).mono ?_); rintro e w' ⟨rfl, ⟨nd, rfl⟩⟩; refine ⟨_, rfl, ?_⟩) | ((with_reducible refine gate_callee (f := 13) rfl ?_); refine goesL_ (some 52) rfl rfl Try.func13 (by kernel_rfl) rfl #[.int .i64 a0, .int .i64 a1] rfl (by (try simp only [List.map_toArray, List.map_cons, List.map_nil]); first | done | rfl | (simp only [List.length_drop, List.length_take]; rfl)) ?_; (with_reducible refine (group_Exp.calls kj5 a0 a1 t217 _ A21.out).mono ?_); rintro e w' ⟨rfl, ⟨nd, rfl⟩⟩; refine ⟨_, rfl, ?_⟩) | ((with_reducible refine gate_callee (f := 13) rfl ?_); refine goesL_ (some 54) rfl rfl Try.func13 (by kernel_rfl) rfl #[.int .i64 t217, .int .i64 a2] rfl (by (try simp only [List.map_toArray, List.map_cons, List.map_nil]); first | done | rfl | (simp only [List.length_drop, List.length_take]; rfl)) ?_; (with_reducible refine (group_Exp.calls kj5 t217 a2 t218 _ A22.out).mono ?_); rintro e w' ⟨rfl, ⟨nd, rfl⟩⟩; refine ⟨_, rfl, ?_⟩) | ((with_reducible refine gate_callee (f := 21) rfl ?_); refine goesL_ (some 58) rfl rfl Try.func21 (by kernel_rfl) rfl #[.int .i64 a1, .int .i64 a2] rfl (by (try simp only [List.map_toArray, List.map_cons, List.map_nil]); first | done | rfl | (simp only [List.length_drop, List.length_take]; rfl)) ?_; (with_reducible refine (group_MulQ.calls kj5 a1 a2 t219 _ A23.out).mono ?_); rintro e w' ⟨rfl, ⟨nd, rfl⟩⟩; refine ⟨_, rfl, ?_⟩) | ((with_reducible refine gate_callee (f := 13) rfl ?_); refine goesL_ (some 59) rfl rfl Try.func13 (by kernel_rfl) rfl #[.int .i64 a0, .int .i64 t219] rfl (by (try simp only [List.map_toArray, List.map_cons, List.map_nil]); first | done | rfl | (simp only [List.length_drop, List.length_take]; rfl)) ?_; (with_reducible refine (group_Exp.calls kj5 a0 t219 t220 _ A24.out).mono ?_); rintro e w' ⟨rfl, ⟨nd, rfl⟩⟩; refine ⟨_, rfl, ?_⟩) | ((with_reducible refine gate_callee (f := 13) rfl ?_); refine goesL_ (some 64) rfl rfl Try.func13 (by kernel_rfl) rfl #[.int .i64 a0, .int .i64 a1] rfl (by (try simp only [List.map_toArray, List.map_cons, List.map_nil]); first | done | rfl | (simp only [List.length_drop, List.length_take]; rfl)) ?_; (with_reducible refine (group_Exp.calls kj5 a0 a1 t221 _ A25.out).mono ?_); rintro e w' ⟨rfl, ⟨nd, rfl⟩⟩; refine ⟨_, rfl, ?_⟩) | ((with_reducible refine gate_callee (f := 9) rfl ?_); refine goesL_ (some 65) rfl rfl Try.func9 (by kernel_rfl) rfl #[.int .i64 t221] rfl (by (try simp only [List.map_toArray, List.map_cons, List.map_nil]); first | done | rfl | (simp only [List.length_drop, List.length_take]; rfl)) ?_; (with_reducible refine (group_Inv.calls kj5 t221 t222 t223 _ A26.out).mono ?_); rintro e w' ⟨rfl, ⟨nd, rfl⟩⟩; refine ⟨_, rfl, ?_⟩))
            go_ret
            exact ⟨by first | rfl | (simp; done) | (simp [*]; done), by repeat (first | exact Drawn0.refl _ | apply Drawn0.step)⟩
        · replace c15 := Bool.eq_false_iff.mpr c15
          subst c15
          have H1 : (some t205) = some r := by rw [if_neg (show ¬ (false = true) by decide)] at H; exact H
          clear H
          have H := H1
          clear H1
          obtain rfl := Option.some.inj H
          go_wp2_with (first | ((with_reducible refine gate_callee (f := 15) rfl ?_); refine goesL_ (some 34) rfl rfl Try.func15 (by kernel_rfl) rfl #[.int .i64 t206] rfl (by (try simp only [List.map_toArray, List.map_cons, List.map_nil]); first | done | rfl | (simp only [List.length_drop, List.length_take]; rfl)) ?_; (with_reducible refine (group_In.calls kj5 t206 false _ A14.out).mono ?_); rintro e w' ⟨rfl, ⟨nd, rfl⟩⟩; refine ⟨_, rfl, ?_⟩))
          go_ret
          exact ⟨by first | rfl | (simp; done) | (simp [*]; done), by repeat (first | exact Drawn0.refl _ | apply Drawn0.step)⟩

/-- THE ONE PURE STATEMENT of bournelaw04_GroupPowers: yours. -/
def bournelaw04_GroupPowers.Pure : Prop := ∀ (a0 : Int) (a1 : Int) (a2 : Int), (Lit.int .i64 a0).wf = true → (Lit.int .i64 a1).wf = true → (Lit.int .i64 a2).wf = true → ∃ k, bournelaw04_GroupPowers.f k a0 a1 a2 = some true
theorem bournelaw04_GroupPowers.walk (P : bournelaw04_GroupPowers.Pure) (a0 : Int) (a1 : Int) (a2 : Int) (w : World) (w0 : (Lit.int .i64 a0).wf = true) (w1 : (Lit.int .i64 a1).wf = true) (w2 : (Lit.int .i64 a2).wf = true) :
    Calls Try.prog 5 #[.int .i64 a0, .int .i64 a1, .int .i64 a2] w fun e w' => e = .returned (.bool true) ∧ Below w.heap.size w w' := by
  obtain ⟨k, h⟩ := P a0 a1 a2 w0 w1 w2
  refine (bournelaw04_GroupPowers.calls k a0 a1 a2 true w h).mono ?_
  rintro e w' ⟨rfl, hd⟩
  exact ⟨rfl, hd.below⟩

/-! ### bournelaw04_GroupOrder: function 6 -/
def bournelaw04_GroupOrder.j0 : Nat → Int → Bool → Int → Bool → Option (Bool)
  | 0, _, _, _, _ => none
  | k + 1, x0, x7, x9, x30 => if x30 = true then (some x7) else (if x7 = true then ((group_Exp.f k x9 x0).bind fun t234 => ((group_AddQ.f x0 0).bind fun t235 => (some ((t234 == 1) == (t235 == 0))))) else (some false))
def bournelaw04_GroupOrder.f (k : Nat) (a0 : Int) (a1 : Int) (a2 : Int) : Option (Bool) := (bournelaw04_small.f k).bind fun t229 => ((group_SubQ.f a0 a1).bind fun t230 => ((group_Exp.f k 4 a0).bind fun t231 => ((group_Exp.f k 4 a1).bind fun t232 => (if ((t231 == t232) != (t230 == 0)) = true then (some false) else ((group_Mul.f k a2 a2).bind fun t233 => (if t233 = 0 then (bournelaw04_GroupOrder.j0 k a0 t229 t233 true) else (bournelaw04_GroupOrder.j0 k a0 t229 t233 (t233 == 1))))))))
theorem bournelaw04_GroupOrder.mono_l : ∀ k, (∀ y0 y1 y2 y3, LeO (bournelaw04_GroupOrder.j0 k y0 y1 y2 y3) (bournelaw04_GroupOrder.j0 (k + 1) y0 y1 y2 y3))
  | 0 => fun _ _ _ _ r h => by simp [bournelaw04_GroupOrder.j0] at h
  | k + 1 => by
    have ih0 := bournelaw04_GroupOrder.mono_l k
    · intro y0 y1 y2 y3
      unfold bournelaw04_GroupOrder.j0
      repeat' first
      | (with_reducible exact ih0 _ _ _ _)
      | (with_reducible exact bournelaw04_small.mono _)
      | (with_reducible exact group_Exp.mono _ _ _)
      | (with_reducible exact group_Mul.mono _ _ _)
      | (with_reducible exact LeO.refl _)
      | (with_reducible exact LeO.none _)
      | (with_reducible refine LeO.ite ?_ ?_)
      | (with_reducible refine LeO.bind ?_ (fun _ => ?_))
      | exact ih0 _ _ _ _
      | exact bournelaw04_small.mono _
      | exact group_Exp.mono _ _ _
      | exact group_Mul.mono _ _ _
      | exact LeO.none _
      | refine LeO.ite ?_ ?_
      | refine LeO.bind ?_ (fun _ => ?_)
theorem bournelaw04_GroupOrder.mono : ∀ a0 a1 a2 k, LeO (bournelaw04_GroupOrder.f k a0 a1 a2) (bournelaw04_GroupOrder.f (k + 1) a0 a1 a2) := by
  intro a0 a1 a2 k
  have ih0 := bournelaw04_GroupOrder.mono_l k
  unfold bournelaw04_GroupOrder.f
  repeat' first
      | (with_reducible exact ih0 _ _ _ _)
      | (with_reducible exact bournelaw04_small.mono _)
      | (with_reducible exact group_Exp.mono _ _ _)
      | (with_reducible exact group_Mul.mono _ _ _)
      | (with_reducible exact LeO.refl _)
      | (with_reducible exact LeO.none _)
      | (with_reducible refine LeO.ite ?_ ?_)
      | (with_reducible refine LeO.bind ?_ (fun _ => ?_))
      | exact ih0 _ _ _ _
      | exact bournelaw04_small.mono _
      | exact group_Exp.mono _ _ _
      | exact group_Mul.mono _ _ _
      | exact LeO.none _
      | refine LeO.ite ?_ ?_
      | refine LeO.bind ?_ (fun _ => ?_)
set_option maxHeartbeats 8000000 in
set_option maxRecDepth 100000 in
theorem bournelaw04_GroupOrder.calls (k : Nat) (a0 : Int) (a1 : Int) (a2 : Int) (r : Bool) (w : World) (h : bournelaw04_GroupOrder.f k a0 a1 a2 = some r) :
    Calls Try.prog 6 #[.int .i64 a0, .int .i64 a1, .int .i64 a2] w fun e w' => e = .returned (.bool r) ∧ Drawn0 w w' := by
  have H : ((bournelaw04_small.f k).bind fun t229 => ((group_SubQ.f a0 a1).bind fun t230 => ((group_Exp.f k 4 a0).bind fun t231 => ((group_Exp.f k 4 a1).bind fun t232 => (if ((t231 == t232) != (t230 == 0)) = true then (some false) else ((group_Mul.f k a2 a2).bind fun t233 => (if t233 = 0 then (bournelaw04_GroupOrder.j0 k a0 t229 t233 true) else (bournelaw04_GroupOrder.j0 k a0 t229 t233 (t233 == 1))))))))) = some r := h
  clear h
  replace H := Option.bind_eq_some_iff.mp H
  obtain ⟨t229, A40, H⟩ := H
  replace H : ((group_SubQ.f a0 a1).bind fun t230 => ((group_Exp.f k 4 a0).bind fun t231 => ((group_Exp.f k 4 a1).bind fun t232 => (if ((t231 == t232) != (t230 == 0)) = true then (some false) else ((group_Mul.f k a2 a2).bind fun t233 => (if t233 = 0 then (bournelaw04_GroupOrder.j0 k a0 t229 t233 true) else (bournelaw04_GroupOrder.j0 k a0 t229 t233 (t233 == 1)))))))) = some r := H
  have A4 := Aside0.mk A40
  clear A40
  replace H := Option.bind_eq_some_iff.mp H
  obtain ⟨t230, A50, H⟩ := H
  replace H : ((group_Exp.f k 4 a0).bind fun t231 => ((group_Exp.f k 4 a1).bind fun t232 => (if ((t231 == t232) != (t230 == 0)) = true then (some false) else ((group_Mul.f k a2 a2).bind fun t233 => (if t233 = 0 then (bournelaw04_GroupOrder.j0 k a0 t229 t233 true) else (bournelaw04_GroupOrder.j0 k a0 t229 t233 (t233 == 1))))))) = some r := H
  have A5 := Aside0.mk A50
  clear A50
  replace H := Option.bind_eq_some_iff.mp H
  obtain ⟨t231, A60, H⟩ := H
  replace H : ((group_Exp.f k 4 a1).bind fun t232 => (if ((t231 == t232) != (t230 == 0)) = true then (some false) else ((group_Mul.f k a2 a2).bind fun t233 => (if t233 = 0 then (bournelaw04_GroupOrder.j0 k a0 t229 t233 true) else (bournelaw04_GroupOrder.j0 k a0 t229 t233 (t233 == 1)))))) = some r := H
  have A6 := Aside0.mk A60
  clear A60
  replace H := Option.bind_eq_some_iff.mp H
  obtain ⟨t232, A70, H⟩ := H
  replace H : (if ((t231 == t232) != (t230 == 0)) = true then (some false) else ((group_Mul.f k a2 a2).bind fun t233 => (if t233 = 0 then (bournelaw04_GroupOrder.j0 k a0 t229 t233 true) else (bournelaw04_GroupOrder.j0 k a0 t229 t233 (t233 == 1))))) = some r := H
  have A7 := Aside0.mk A70
  clear A70
  by_cases c8 : ((t231 == t232) != (t230 == 0)) = true
  · rw [if_pos c8] at H
    have c8b0 : ((t231 == t232) != (t230 == 0)) = true := c8
    (try (have c8b1 : decide ((t231 == t232) = (t230 == 0)) = false := by simpa using c8))
    (try (have c8b2 : ((t231 == t232) == (t230 == 0)) = false := by simpa using c8))
    (try (have c8b3 : ¬ ((t231 == t232) = (t230 == 0)) := by simpa using c8))
    clear c8
    obtain rfl := Option.some.inj H
    go_enter Try.func6, Try.ntmps6
    go_wp2_with (first | ((with_reducible refine gate_callee (f := 8) rfl ?_); refine goesL_ (some 10) rfl rfl Try.func8 (by kernel_rfl) rfl #[] rfl (by (try simp only [List.map_toArray, List.map_cons, List.map_nil]); first | done | rfl | (simp only [List.length_drop, List.length_take]; rfl)) ?_; (with_reducible refine (bournelaw04_small.calls k  t229 _ A4.out).mono ?_); rintro e w' ⟨rfl, ⟨nd, rfl⟩⟩; refine ⟨_, rfl, ?_⟩) | ((with_reducible refine gate_callee (f := 19) rfl ?_); refine goesL_ (some 13) rfl rfl Try.func19 (by kernel_rfl) rfl #[.int .i64 a0, .int .i64 a1] rfl (by (try simp only [List.map_toArray, List.map_cons, List.map_nil]); first | done | rfl | (simp only [List.length_drop, List.length_take]; rfl)) ?_; (with_reducible refine (group_SubQ.calls a0 a1 t230 _ A5.out).mono ?_); rintro e w' ⟨rfl, ⟨nd, rfl⟩⟩; refine ⟨_, rfl, ?_⟩) | ((with_reducible refine gate_callee (f := 13) rfl ?_); refine goesL_ (some 16) rfl rfl Try.func13 (by kernel_rfl) rfl #[.int .i64 4, .int .i64 a0] rfl (by (try simp only [List.map_toArray, List.map_cons, List.map_nil]); first | done | rfl | (simp only [List.length_drop, List.length_take]; rfl)) ?_; (with_reducible refine (group_Exp.calls k 4 a0 t231 _ A6.out).mono ?_); rintro e w' ⟨rfl, ⟨nd, rfl⟩⟩; refine ⟨_, rfl, ?_⟩) | ((with_reducible refine gate_callee (f := 13) rfl ?_); refine goesL_ (some 18) rfl rfl Try.func13 (by kernel_rfl) rfl #[.int .i64 4, .int .i64 a1] rfl (by (try simp only [List.map_toArray, List.map_cons, List.map_nil]); first | done | rfl | (simp only [List.length_drop, List.length_take]; rfl)) ?_; (with_reducible refine (group_Exp.calls k 4 a1 t232 _ A7.out).mono ?_); rintro e w' ⟨rfl, ⟨nd, rfl⟩⟩; refine ⟨_, rfl, ?_⟩))
    go_ret
    exact ⟨by first | rfl | (simp; done) | (simp [*]; done), by repeat (first | exact Drawn0.refl _ | apply Drawn0.step)⟩
  · rw [if_neg c8] at H
    have c8b0 : ((t231 == t232) != (t230 == 0)) = false := by simpa using c8
    (try (have c8b1 : decide ((t231 == t232) = (t230 == 0)) = true := by simpa using c8))
    (try (have c8b2 : ((t231 == t232) == (t230 == 0)) = true := by simpa using c8))
    clear c8
    replace H := Option.bind_eq_some_iff.mp H
    obtain ⟨t233, A90, H⟩ := H
    replace H : (if t233 = 0 then (bournelaw04_GroupOrder.j0 k a0 t229 t233 true) else (bournelaw04_GroupOrder.j0 k a0 t229 t233 (t233 == 1))) = some r := H
    have A9 := Aside0.mk A90
    clear A90
    have HC10 := Aside0.mk H
    clear H
    go_enter Try.func6, Try.ntmps6
    go_upto_region 6 with (first | ((with_reducible refine gate_callee (f := 8) rfl ?_); refine goesL_ (some 10) rfl rfl Try.func8 (by kernel_rfl) rfl #[] rfl (by (try simp only [List.map_toArray, List.map_cons, List.map_nil]); first | done | rfl | (simp only [List.length_drop, List.length_take]; rfl)) ?_; (with_reducible refine (bournelaw04_small.calls k  t229 _ A4.out).mono ?_); rintro e w' ⟨rfl, ⟨nd, rfl⟩⟩; refine ⟨_, rfl, ?_⟩) | ((with_reducible refine gate_callee (f := 19) rfl ?_); refine goesL_ (some 13) rfl rfl Try.func19 (by kernel_rfl) rfl #[.int .i64 a0, .int .i64 a1] rfl (by (try simp only [List.map_toArray, List.map_cons, List.map_nil]); first | done | rfl | (simp only [List.length_drop, List.length_take]; rfl)) ?_; (with_reducible refine (group_SubQ.calls a0 a1 t230 _ A5.out).mono ?_); rintro e w' ⟨rfl, ⟨nd, rfl⟩⟩; refine ⟨_, rfl, ?_⟩) | ((with_reducible refine gate_callee (f := 13) rfl ?_); refine goesL_ (some 16) rfl rfl Try.func13 (by kernel_rfl) rfl #[.int .i64 4, .int .i64 a0] rfl (by (try simp only [List.map_toArray, List.map_cons, List.map_nil]); first | done | rfl | (simp only [List.length_drop, List.length_take]; rfl)) ?_; (with_reducible refine (group_Exp.calls k 4 a0 t231 _ A6.out).mono ?_); rintro e w' ⟨rfl, ⟨nd, rfl⟩⟩; refine ⟨_, rfl, ?_⟩) | ((with_reducible refine gate_callee (f := 13) rfl ?_); refine goesL_ (some 18) rfl rfl Try.func13 (by kernel_rfl) rfl #[.int .i64 4, .int .i64 a1] rfl (by (try simp only [List.map_toArray, List.map_cons, List.map_nil]); first | done | rfl | (simp only [List.length_drop, List.length_take]; rfl)) ?_; (with_reducible refine (group_Exp.calls k 4 a1 t232 _ A7.out).mono ?_); rintro e w' ⟨rfl, ⟨nd, rfl⟩⟩; refine ⟨_, rfl, ?_⟩) | ((with_reducible refine gate_callee (f := 11) rfl ?_); refine goesL_ (some 24) rfl rfl Try.func11 (by kernel_rfl) rfl #[.int .i64 a2, .int .i64 a2] rfl (by (try simp only [List.map_toArray, List.map_cons, List.map_nil]); first | done | rfl | (simp only [List.length_drop, List.length_take]; rfl)) ?_; (with_reducible refine (group_Mul.calls k a2 a2 t233 _ A9.out).mono ?_); rintro e w' ⟨rfl, ⟨nd, rfl⟩⟩; refine ⟨_, rfl, ?_⟩))
    (try simp only [Act.put, List.setIfInBounds_toArray, List.set_cons_zero, List.set_cons_succ])
    go_cut [30] (fun v30 wc => ∃ (kq : Nat) (x30_9 : Bool), v30 = .bool x30_9 ∧ Aside0 (bournelaw04_GroupOrder.j0 kq a0 t229 t233 x30_9 = some r) ∧ Aside0 (kq ≤ k) ∧ Drawn0 w wc)
    case first =>
      have H := HC10.out
      clear HC10
      by_cases c11 : t233 = 0
      · rw [if_pos c11] at H
        have c11b0 : (t233 == 0) = true := beq_iff_eq.mpr c11
        have c11b1 : (t233 != 0) = false := bne_eq_false_iff_eq.mpr c11
        clear c11
        (first | rw [c11b0] | (simp only [i64_w, i32_w]; rw [c11b0]) | skip)
        have H' := Aside0.mk H
        clear H
        go_wp2
        go_meet
        case rel => exact ⟨_, (true), (by first | rfl | (simp; done) | (simp [*]; done)), H', ⟨by first | omega | exact Nat.le_refl _⟩, by repeat (first | exact Drawn0.refl _ | apply Drawn0.step)⟩
      · rw [if_neg c11] at H
        have c11b0 : (t233 == 0) = false := beq_eq_false_iff_ne.mpr c11
        have c11b1 : (t233 != 0) = true := bne_iff_ne.mpr c11
        (first | rw [c11b0] | (simp only [i64_w, i32_w]; rw [c11b0]) | skip)
        have H' := Aside0.mk H
        clear H
        go_wp2
        go_meet
        case rel => exact ⟨_, ((t233 == 1)), (by first | rfl | (simp; done) | (simp [*]; done)), H', ⟨by first | omega | exact Nat.le_refl _⟩, by repeat (first | exact Drawn0.refl _ | apply Drawn0.step)⟩
    case rest =>
      clear HC10
      try clear c1
      try clear p2
      try clear c6
      try clear c8
      try clear c8b0
      try clear c8b1
      try clear c8b2
      try clear c11
      try clear c11b0
      try clear c11b1
      obtain ⟨kq, x30_9, rfl, HA, HJ9, ⟨mc9, rfl⟩⟩ := hcut
      cases kq with
      | zero => exact absurd HA.out (by simp [bournelaw04_GroupOrder.j0])
      | succ kj9 =>
        have H := HA.out
        clear HA
        simp only [bournelaw04_GroupOrder.j0] at H
        by_cases c12 : x30_9 = true
        · subst c12
          have H1 : (some t229) = some r := by rw [if_pos rfl] at H; exact H
          clear H
          have H := H1
          clear H1
          obtain rfl := Option.some.inj H
          go_wp2
          go_ret
          exact ⟨by first | rfl | (simp; done) | (simp [*]; done), by repeat (first | exact Drawn0.refl _ | apply Drawn0.step)⟩
        · replace c12 := Bool.eq_false_iff.mpr c12
          subst c12
          have H1 : (if t229 = true then ((group_Exp.f kj9 t233 a0).bind fun t234 => ((group_AddQ.f a0 0).bind fun t235 => (some ((t234 == 1) == (t235 == 0))))) else (some false)) = some r := by rw [if_neg (show ¬ (false = true) by decide)] at H; exact H
          clear H
          have H := H1
          clear H1
          by_cases c13 : t229 = true
          · subst c13
            have H1 : ((group_Exp.f kj9 t233 a0).bind fun t234 => ((group_AddQ.f a0 0).bind fun t235 => (some ((t234 == 1) == (t235 == 0))))) = some r := by rw [if_pos rfl] at H; exact H
            clear H
            have H := H1
            clear H1
            replace H := Option.bind_eq_some_iff.mp H
            obtain ⟨t234, A140, H⟩ := H
            replace H : ((group_AddQ.f a0 0).bind fun t235 => (some ((t234 == 1) == (t235 == 0)))) = some r := H
            have A14 := Aside0.mk A140
            clear A140
            replace H := Option.bind_eq_some_iff.mp H
            obtain ⟨t235, A150, H⟩ := H
            replace H : (some ((t234 == 1) == (t235 == 0))) = some r := H
            have A15 := Aside0.mk A150
            clear A150
            obtain rfl := Option.some.inj H
            go_wp2_with (first | (go_at_call 13; (with_reducible refine (group_Exp.calls kj9 t233 a0 t234 _ A14.out).mono ?_); rintro e w' ⟨rfl, ⟨nd, rfl⟩⟩; (try clear A14)) | (go_at_call 17; (with_reducible refine (group_AddQ.calls a0 0 t235 _ A15.out).mono ?_); rintro e w' ⟨rfl, ⟨nd, rfl⟩⟩; (try clear A15)))
            go_ret
            exact ⟨by first | rfl | (simp; done) | (simp [*]; done), by repeat (first | exact Drawn0.refl _ | apply Drawn0.step)⟩
          · replace c13 := Bool.eq_false_iff.mpr c13
            subst c13
            have H1 : (some false) = some r := by rw [if_neg (show ¬ (false = true) by decide)] at H; exact H
            clear H
            have H := H1
            clear H1
            obtain rfl := Option.some.inj H
            go_wp2
            go_ret
            exact ⟨by first | rfl | (simp; done) | (simp [*]; done), by repeat (first | exact Drawn0.refl _ | apply Drawn0.step)⟩

/-- THE ONE PURE STATEMENT of bournelaw04_GroupOrder: yours. -/
def bournelaw04_GroupOrder.Pure : Prop := ∀ (a0 : Int) (a1 : Int) (a2 : Int), (Lit.int .i64 a0).wf = true → (Lit.int .i64 a1).wf = true → (Lit.int .i64 a2).wf = true → ∃ k, bournelaw04_GroupOrder.f k a0 a1 a2 = some true
theorem bournelaw04_GroupOrder.walk (P : bournelaw04_GroupOrder.Pure) (a0 : Int) (a1 : Int) (a2 : Int) (w : World) (w0 : (Lit.int .i64 a0).wf = true) (w1 : (Lit.int .i64 a1).wf = true) (w2 : (Lit.int .i64 a2).wf = true) :
    Calls Try.prog 6 #[.int .i64 a0, .int .i64 a1, .int .i64 a2] w fun e w' => e = .returned (.bool true) ∧ Below w.heap.size w w' := by
  obtain ⟨k, h⟩ := P a0 a1 a2 w0 w1 w2
  refine (bournelaw04_GroupOrder.calls k a0 a1 a2 true w h).mono ?_
  rintro e w' ⟨rfl, hd⟩
  exact ⟨rfl, hd.below⟩

end Go.Proofs.Ytlnkmbbmefbnpaa.Fn
