-- written by this session's program myprint.py out of the translation; Lean checks it
import Derived.Test.YtlnkmbbmefbnpaaFn0
import Derived.Test.YtlnkmbbmefbnpaaFn2
import Derived.Test.YtlnkmbbmefbnpaaFn3
namespace Go.Proofs.Ytlnkmbbmefbnpaa.Fn
open Go.RowKit Go.Proofs.YtlnkmbbmefbnpaaW.PrintWords Go.Proofs.YtlnkmbbmefbnpaaW.PrintLast Go.Proofs.YtlnkmbbmefbnpaaW.PrintMore
attribute [local go_sem] max2_int min2_int max_two min_two max_three min_three max_four min_four   -- for this text's walks alone
set_option linter.unusedVariables false
set_option linter.unusedSimpArgs false

/-! ### bourneref04_Mul: function 12 -/
def bourneref04_Mul.f (k : Nat) (a0 : Int) (a1 : Int) : Option (Int) := (bourneref04_Mod.f a0 2305843009213691579).bind fun t150 => ((bourneref04_Mod.f a1 2305843009213691579).bind fun t151 => ((bourneref04_times.f k t150 t151 2305843009213691579).bind fun t152 => (some t152)))
theorem bourneref04_Mul.mono : ∀ a0 a1 k, LeO (bourneref04_Mul.f k a0 a1) (bourneref04_Mul.f (k + 1) a0 a1) := by
  intro a0 a1 k
  unfold bourneref04_Mul.f
  repeat' first
      | (with_reducible exact bourneref04_times.mono _ _ _ _)
      | (with_reducible exact LeO.refl _)
      | (with_reducible exact LeO.none _)
      | (with_reducible refine LeO.ite ?_ ?_)
      | (with_reducible refine LeO.bind ?_ (fun _ => ?_))
      | exact bourneref04_times.mono _ _ _ _
      | exact LeO.none _
      | refine LeO.ite ?_ ?_
      | refine LeO.bind ?_ (fun _ => ?_)
set_option maxHeartbeats 8000000 in
set_option maxRecDepth 100000 in
theorem bourneref04_Mul.calls (k : Nat) (a0 : Int) (a1 : Int) (r : Int) (w : World) (h : bourneref04_Mul.f k a0 a1 = some r) :
    Calls Try.prog 12 #[.int .i64 a0, .int .i64 a1] w fun e w' => e = .returned (.int .i64 r) ∧ Drawn0 w w' := by
  have H : ((bourneref04_Mod.f a0 2305843009213691579).bind fun t150 => ((bourneref04_Mod.f a1 2305843009213691579).bind fun t151 => ((bourneref04_times.f k t150 t151 2305843009213691579).bind fun t152 => (some t152)))) = some r := h
  clear h
  replace H := Option.bind_eq_some_iff.mp H
  obtain ⟨t150, A30, H⟩ := H
  replace H : ((bourneref04_Mod.f a1 2305843009213691579).bind fun t151 => ((bourneref04_times.f k t150 t151 2305843009213691579).bind fun t152 => (some t152))) = some r := H
  have A3 := Aside0.mk A30
  clear A30
  replace H := Option.bind_eq_some_iff.mp H
  obtain ⟨t151, A40, H⟩ := H
  replace H : ((bourneref04_times.f k t150 t151 2305843009213691579).bind fun t152 => (some t152)) = some r := H
  have A4 := Aside0.mk A40
  clear A40
  replace H := Option.bind_eq_some_iff.mp H
  obtain ⟨t152, A50, H⟩ := H
  replace H : (some t152) = some r := H
  have A5 := Aside0.mk A50
  clear A50
  obtain rfl := Option.some.inj H
  go_enter Try.func12, Try.ntmps12
  go_wp2_with (first | ((with_reducible refine gate_callee (f := 24) rfl ?_); refine goesL_ (some 6) rfl rfl Try.func24 (by kernel_rfl) rfl #[.int .i64 a0, .int .i64 2305843009213691579] rfl (by (try simp only [List.map_toArray, List.map_cons, List.map_nil]); first | done | rfl | (simp only [List.length_drop, List.length_take]; rfl)) ?_; (with_reducible refine (bourneref04_Mod.calls a0 2305843009213691579 t150 _ A3.out).mono ?_); rintro e w' ⟨rfl, ⟨nd, rfl⟩⟩; refine ⟨_, rfl, ?_⟩) | ((with_reducible refine gate_callee (f := 24) rfl ?_); refine goesL_ (some 8) rfl rfl Try.func24 (by kernel_rfl) rfl #[.int .i64 a1, .int .i64 2305843009213691579] rfl (by (try simp only [List.map_toArray, List.map_cons, List.map_nil]); first | done | rfl | (simp only [List.length_drop, List.length_take]; rfl)) ?_; (with_reducible refine (bourneref04_Mod.calls a1 2305843009213691579 t151 _ A4.out).mono ?_); rintro e w' ⟨rfl, ⟨nd, rfl⟩⟩; refine ⟨_, rfl, ?_⟩) | ((with_reducible refine gate_callee (f := 26) rfl ?_); refine goesL_ (some 9) rfl rfl Try.func26 (by kernel_rfl) rfl #[.int .i64 t150, .int .i64 t151, .int .i64 2305843009213691579] rfl (by (try simp only [List.map_toArray, List.map_cons, List.map_nil]); first | done | rfl | (simp only [List.length_drop, List.length_take]; rfl)) ?_; (with_reducible refine (bourneref04_times.calls k t150 t151 2305843009213691579 t152 _ A5.out).mono ?_); rintro e w' ⟨rfl, ⟨nd, rfl⟩⟩; refine ⟨_, rfl, ?_⟩))
  go_ret
  exact ⟨by first | rfl | (simp; done) | (simp [*]; done), by repeat (first | exact Drawn0.refl _ | apply Drawn0.step)⟩

/-! ### bourneref04_Exp: function 14 -/
mutual
def bourneref04_Exp.j0 : Nat → Int → Int → Option (Int)
  | 0, _, _ => none
  | k + 1, x0, x1 => (bourneref04_Mod.f x0 2305843009213691579).bind fun t154 => (bourneref04_Exp.l0 k x1 1 t154)
def bourneref04_Exp.l0 : Nat → Int → Int → Int → Option (Int)
  | 0, _, _, _ => none
  | k + 1, x1, x5, x6 => if x1 > 0 then (if (Int.tmod x1 2) = 1 then ((bourneref04_times.f k x5 x6 2305843009213691579).bind fun t155 => ((bourneref04_times.f k x6 x6 2305843009213691579).bind fun t156 => (bourneref04_Exp.l0 k (wrap64 (Int.tdiv x1 2)) t155 t156))) else ((bourneref04_times.f k x6 x6 2305843009213691579).bind fun t157 => (bourneref04_Exp.l0 k (wrap64 (Int.tdiv x1 2)) x5 t157))) else (some x5)
end
def bourneref04_Exp.f (k : Nat) (a0 : Int) (a1 : Int) : Option (Int) := if a1 < 0 then ((bourneref04_Mod.f a1 1152921504606845789).bind fun t153 => (bourneref04_Exp.j0 k a0 t153)) else (bourneref04_Exp.j0 k a0 a1)
theorem bourneref04_Exp.mono_l : ∀ k, (∀ y0 y1, LeO (bourneref04_Exp.j0 k y0 y1) (bourneref04_Exp.j0 (k + 1) y0 y1)) ∧ (∀ y0 y1 y2, LeO (bourneref04_Exp.l0 k y0 y1 y2) (bourneref04_Exp.l0 (k + 1) y0 y1 y2))
  | 0 => ⟨fun _ _ r h => by simp [bourneref04_Exp.j0] at h, fun _ _ _ r h => by simp [bourneref04_Exp.l0] at h⟩
  | k + 1 => by
    obtain ⟨ih0, ih1⟩ := bourneref04_Exp.mono_l k
    refine ⟨?_, ?_⟩
    · intro y0 y1
      unfold bourneref04_Exp.j0
      repeat' first
      | (with_reducible exact ih0 _ _)
      | (with_reducible exact ih1 _ _ _)
      | (with_reducible exact bourneref04_times.mono _ _ _ _)
      | (with_reducible exact LeO.refl _)
      | (with_reducible exact LeO.none _)
      | (with_reducible refine LeO.ite ?_ ?_)
      | (with_reducible refine LeO.bind ?_ (fun _ => ?_))
      | exact ih0 _ _
      | exact ih1 _ _ _
      | exact bourneref04_times.mono _ _ _ _
      | exact LeO.none _
      | refine LeO.ite ?_ ?_
      | refine LeO.bind ?_ (fun _ => ?_)
    · intro y0 y1 y2
      unfold bourneref04_Exp.l0
      repeat' first
      | (with_reducible exact ih0 _ _)
      | (with_reducible exact ih1 _ _ _)
      | (with_reducible exact bourneref04_times.mono _ _ _ _)
      | (with_reducible exact LeO.refl _)
      | (with_reducible exact LeO.none _)
      | (with_reducible refine LeO.ite ?_ ?_)
      | (with_reducible refine LeO.bind ?_ (fun _ => ?_))
      | exact ih0 _ _
      | exact ih1 _ _ _
      | exact bourneref04_times.mono _ _ _ _
      | exact LeO.none _
      | refine LeO.ite ?_ ?_
      | refine LeO.bind ?_ (fun _ => ?_)
theorem bourneref04_Exp.mono : ∀ a0 a1 k, LeO (bourneref04_Exp.f k a0 a1) (bourneref04_Exp.f (k + 1) a0 a1) := by
  intro a0 a1 k
  obtain ⟨ih0, ih1⟩ := bourneref04_Exp.mono_l k
  unfold bourneref04_Exp.f
  repeat' first
      | (with_reducible exact ih0 _ _)
      | (with_reducible exact ih1 _ _ _)
      | (with_reducible exact bourneref04_times.mono _ _ _ _)
      | (with_reducible exact LeO.refl _)
      | (with_reducible exact LeO.none _)
      | (with_reducible refine LeO.ite ?_ ?_)
      | (with_reducible refine LeO.bind ?_ (fun _ => ?_))
      | exact ih0 _ _
      | exact ih1 _ _ _
      | exact bourneref04_times.mono _ _ _ _
      | exact LeO.none _
      | refine LeO.ite ?_ ?_
      | refine LeO.bind ?_ (fun _ => ?_)
set_option maxHeartbeats 8000000 in
set_option maxRecDepth 100000 in
theorem bourneref04_Exp.calls (k : Nat) (a0 : Int) (a1 : Int) (r : Int) (w : World) (h : bourneref04_Exp.f k a0 a1 = some r) :
    Calls Try.prog 14 #[.int .i64 a0, .int .i64 a1] w fun e w' => e = .returned (.int .i64 r) ∧ Drawn0 w w' := by
  have H : (if a1 < 0 then ((bourneref04_Mod.f a1 1152921504606845789).bind fun t153 => (bourneref04_Exp.j0 k a0 t153)) else (bourneref04_Exp.j0 k a0 a1)) = some r := h
  clear h
  have HC3 := Aside0.mk H
  clear H
  go_enter Try.func14, Try.ntmps14
  go_upto_if 8 with (fail)
  go_cut [1] (fun v1 wc => ∃ (kq : Nat) (x1_2 : Int), v1 = .int .i64 x1_2 ∧ Aside0 (bourneref04_Exp.j0 kq a0 x1_2 = some r) ∧ Aside0 (kq ≤ k) ∧ Drawn0 w wc)
  case first =>
    have H := HC3.out
    clear HC3
    by_cases c4 : a1 < 0
    · rw [if_pos c4] at H
      have c4b0 : decide (a1 < 0) = true := decide_eq_true c4
      clear c4
      (first | rw [c4b0] | (simp only [i64_w, i32_w]; rw [c4b0]) | skip)
      replace H := Option.bind_eq_some_iff.mp H
      obtain ⟨t153, A50, H⟩ := H
      replace H : (bourneref04_Exp.j0 k a0 t153) = some r := H
      have A5 := Aside0.mk A50
      clear A50
      have H' := Aside0.mk H
      clear H
      go_wp2_with (first | ((with_reducible refine gate_callee (f := 24) rfl ?_); refine goesL_ (some 10) rfl rfl Try.func24 (by kernel_rfl) rfl #[.int .i64 a1, .int .i64 1152921504606845789] rfl (by (try simp only [List.map_toArray, List.map_cons, List.map_nil]); first | done | rfl | (simp only [List.length_drop, List.length_take]; rfl)) ?_; (with_reducible refine (bourneref04_Mod.calls a1 1152921504606845789 t153 _ A5.out).mono ?_); rintro e w' ⟨rfl, ⟨nd, rfl⟩⟩; refine ⟨_, rfl, ?_⟩))
      go_meet
      case rel => exact ⟨_, (t153), (by first | rfl | (simp; done) | (simp [*]; done)), H', ⟨by first | omega | exact Nat.le_refl _⟩, by repeat (first | exact Drawn0.refl _ | apply Drawn0.step)⟩
    · rw [if_neg c4] at H
      have c4b0 : decide (a1 < 0) = false := decide_eq_false c4
      clear c4
      (first | rw [c4b0] | (simp only [i64_w, i32_w]; rw [c4b0]) | skip)
      have H' := Aside0.mk H
      clear H
      go_wp2
      go_meet
      case rel => exact ⟨_, (a1), (by first | rfl | (simp; done) | (simp [*]; done)), H', ⟨by first | omega | exact Nat.le_refl _⟩, by repeat (first | exact Drawn0.refl _ | apply Drawn0.step)⟩
  case rest =>
    clear HC3
    try clear c1
    try clear c2
    try clear p2
    try clear c4
    try clear c4b0
    obtain ⟨kq, x1_2, rfl, HA, HJ2, ⟨mc2, rfl⟩⟩ := hcut
    cases kq with
    | zero => exact absurd HA.out (by simp [bourneref04_Exp.j0])
    | succ kj2 =>
      have H := HA.out
      clear HA
      simp only [bourneref04_Exp.j0] at H
      replace H := Option.bind_eq_some_iff.mp H
      obtain ⟨t154, A60, H⟩ := H
      replace H : (bourneref04_Exp.l0 kj2 x1_2 1 t154) = some r := H
      have A6 := Aside0.mk A60
      clear A60
      have H' := Aside0.mk H
      clear H
      go_wp2_with (first | ((with_reducible refine gate_callee (f := 24) rfl ?_); refine goesL_ (some 12) rfl rfl Try.func24 (by kernel_rfl) rfl #[.int .i64 a0, .int .i64 2305843009213691579] rfl (by (try simp only [List.map_toArray, List.map_cons, List.map_nil]); first | done | rfl | (simp only [List.length_drop, List.length_take]; rfl)) ?_; (with_reducible refine (bourneref04_Mod.calls a0 2305843009213691579 t154 _ A6.out).mono ?_); rintro e w' ⟨rfl, ⟨nd, rfl⟩⟩; refine ⟨_, rfl, ?_⟩))
      go_loopg [1, 5, 6] kj2 (fun kq v1 v5 v6 w' => ∃ (x1_2 : Int) (x5_2 : Int) (x6_2 : Int), v1 = .int .i64 x1_2 ∧ v5 = .int .i64 x5_2 ∧ v6 = .int .i64 x6_2 ∧ Aside0 (bourneref04_Exp.l0 kq x1_2 x5_2 x6_2 = some r) ∧ Aside0 (kq ≤ kj2) ∧ Drawn0 w w')
      case atStart => exact ⟨(x1_2), (1), (t154), (by first | rfl | (simp; done) | (simp [*]; done)), (by first | rfl | (simp; done) | (simp [*]; done)), (by first | rfl | (simp; done) | (simp [*]; done)), H', ⟨Nat.le_refl _⟩, by repeat (first | exact Drawn0.refl _ | apply Drawn0.step)⟩
      case round =>
        clear H'
        try clear c1
        try clear c2
        try clear p2
        try clear c4
        try clear c4b0
        try clear p2
        obtain ⟨x1_2, x5_2, x6_2, rfl, rfl, rfl, HA, HK2, ⟨m2, rfl⟩⟩ := hrel
        cases gk with
        | zero => exact absurd HA.out (by simp [bourneref04_Exp.l0])
        | succ k2 =>
          have H := HA.out
          clear HA
          simp only [bourneref04_Exp.l0] at H
          by_cases c7 : x1_2 > 0
          · rw [if_pos c7] at H
            have c7b0 : decide (0 < x1_2) = true := decide_eq_true c7
            clear c7
            by_cases c8 : (Int.tmod x1_2 2) = 1
            · rw [if_pos c8] at H
              have c8b0 : ((Int.tmod x1_2 2) == 1) = true := beq_iff_eq.mpr c8
              have c8b1 : ((Int.tmod x1_2 2) != 1) = false := bne_eq_false_iff_eq.mpr c8
              clear c8
              replace H := Option.bind_eq_some_iff.mp H
              obtain ⟨t155, A90, H⟩ := H
              replace H : ((bourneref04_times.f k2 x6_2 x6_2 2305843009213691579).bind fun t156 => (bourneref04_Exp.l0 k2 (wrap64 (Int.tdiv x1_2 2)) t155 t156)) = some r := H
              have A9 := Aside0.mk A90
              clear A90
              replace H := Option.bind_eq_some_iff.mp H
              obtain ⟨t156, A100, H⟩ := H
              replace H : (bourneref04_Exp.l0 k2 (wrap64 (Int.tdiv x1_2 2)) t155 t156) = some r := H
              have A10 := Aside0.mk A100
              clear A100
              have H' := Aside0.mk H
              clear H
              go_wp2_with (first | ((with_reducible refine gate_callee (f := 26) rfl ?_); refine goesL_ (some 20) rfl rfl Try.func26 (by kernel_rfl) rfl #[.int .i64 x5_2, .int .i64 x6_2, .int .i64 2305843009213691579] rfl (by (try simp only [List.map_toArray, List.map_cons, List.map_nil]); first | done | rfl | (simp only [List.length_drop, List.length_take]; rfl)) ?_; (with_reducible refine (bourneref04_times.calls k2 x5_2 x6_2 2305843009213691579 t155 _ A9.out).mono ?_); rintro e w' ⟨rfl, ⟨nd, rfl⟩⟩; refine ⟨_, rfl, ?_⟩) | ((with_reducible refine gate_callee (f := 26) rfl ?_); refine goesL_ (some 23) rfl rfl Try.func26 (by kernel_rfl) rfl #[.int .i64 x6_2, .int .i64 x6_2, .int .i64 2305843009213691579] rfl (by (try simp only [List.map_toArray, List.map_cons, List.map_nil]); first | done | rfl | (simp only [List.length_drop, List.length_take]; rfl)) ?_; (with_reducible refine (bourneref04_times.calls k2 x6_2 x6_2 2305843009213691579 t156 _ A10.out).mono ?_); rintro e w' ⟨rfl, ⟨nd, rfl⟩⟩; refine ⟨_, rfl, ?_⟩))
              go_roundg k2
              case measure => have := HJ2.out; have := HK2.out; omega
              case rel => exact ⟨(wrap64 (Int.tdiv x1_2 2)), (t155), (t156), (by first | rfl | (simp; done) | (simp [*]; done)), (by first | rfl | (simp; done) | (simp [*]; done)), (by first | rfl | (simp; done) | (simp [*]; done)), H', ⟨by have := HJ2.out; have := HK2.out; omega⟩, by repeat (first | exact Drawn0.refl _ | apply Drawn0.step)⟩
            · rw [if_neg c8] at H
              have c8b0 : ((Int.tmod x1_2 2) == 1) = false := beq_eq_false_iff_ne.mpr c8
              have c8b1 : ((Int.tmod x1_2 2) != 1) = true := bne_iff_ne.mpr c8
              replace H := Option.bind_eq_some_iff.mp H
              obtain ⟨t157, A110, H⟩ := H
              replace H : (bourneref04_Exp.l0 k2 (wrap64 (Int.tdiv x1_2 2)) x5_2 t157) = some r := H
              have A11 := Aside0.mk A110
              clear A110
              have H' := Aside0.mk H
              clear H
              go_wp2_with (first | ((with_reducible refine gate_callee (f := 26) rfl ?_); refine goesL_ (some 23) rfl rfl Try.func26 (by kernel_rfl) rfl #[.int .i64 x6_2, .int .i64 x6_2, .int .i64 2305843009213691579] rfl (by (try simp only [List.map_toArray, List.map_cons, List.map_nil]); first | done | rfl | (simp only [List.length_drop, List.length_take]; rfl)) ?_; (with_reducible refine (bourneref04_times.calls k2 x6_2 x6_2 2305843009213691579 t157 _ A11.out).mono ?_); rintro e w' ⟨rfl, ⟨nd, rfl⟩⟩; refine ⟨_, rfl, ?_⟩))
              go_roundg k2
              case measure => have := HJ2.out; have := HK2.out; omega
              case rel => exact ⟨(wrap64 (Int.tdiv x1_2 2)), (x5_2), (t157), (by first | rfl | (simp; done) | (simp [*]; done)), (by first | rfl | (simp; done) | (simp [*]; done)), (by first | rfl | (simp; done) | (simp [*]; done)), H', ⟨by have := HJ2.out; have := HK2.out; omega⟩, by repeat (first | exact Drawn0.refl _ | apply Drawn0.step)⟩
          · rw [if_neg c7] at H
            have c7b0 : decide (0 < x1_2) = false := decide_eq_false c7
            clear c7
            obtain rfl := Option.some.inj H
            go_wp2
            go_ret
            exact ⟨by first | rfl | (simp; done) | (simp [*]; done), by repeat (first | exact Drawn0.refl _ | apply Drawn0.step)⟩

/-! ### bourneref04_In: function 16 -/
def bourneref04_In.f (k : Nat) (a0 : Int) : Option (Bool) := if a0 ≥ 1 then (if a0 < 2305843009213691579 then ((bourneref04_Exp.f k a0 1152921504606845789).bind fun t158 => (some (t158 == 1))) else (some false)) else (some false)
theorem bourneref04_In.mono : ∀ a0 k, LeO (bourneref04_In.f k a0) (bourneref04_In.f (k + 1) a0) := by
  intro a0 k
  unfold bourneref04_In.f
  repeat' first
      | (with_reducible exact bourneref04_Exp.mono _ _ _)
      | (with_reducible exact LeO.refl _)
      | (with_reducible exact LeO.none _)
      | (with_reducible refine LeO.ite ?_ ?_)
      | (with_reducible refine LeO.bind ?_ (fun _ => ?_))
      | exact bourneref04_Exp.mono _ _ _
      | exact LeO.none _
      | refine LeO.ite ?_ ?_
      | refine LeO.bind ?_ (fun _ => ?_)
set_option maxHeartbeats 8000000 in
set_option maxRecDepth 100000 in
theorem bourneref04_In.calls (k : Nat) (a0 : Int) (r : Bool) (w : World) (h : bourneref04_In.f k a0 = some r) :
    Calls Try.prog 16 #[.int .i64 a0] w fun e w' => e = .returned (.bool r) ∧ Drawn0 w w' := by
  have H : (if a0 ≥ 1 then (if a0 < 2305843009213691579 then ((bourneref04_Exp.f k a0 1152921504606845789).bind fun t158 => (some (t158 == 1))) else (some false)) else (some false)) = some r := h
  clear h
  by_cases c2 : a0 ≥ 1
  · rw [if_pos c2] at H
    have c2b0 : decide (1 ≤ a0) = true := decide_eq_true c2
    clear c2
    by_cases c3 : a0 < 2305843009213691579
    · rw [if_pos c3] at H
      have c3b0 : decide (a0 < 2305843009213691579) = true := decide_eq_true c3
      clear c3
      replace H := Option.bind_eq_some_iff.mp H
      obtain ⟨t158, A40, H⟩ := H
      replace H : (some (t158 == 1)) = some r := H
      have A4 := Aside0.mk A40
      clear A40
      obtain rfl := Option.some.inj H
      go_enter Try.func16, Try.ntmps16
      go_wp2_with (first | (go_at_call 14; (with_reducible refine (bourneref04_Exp.calls k a0 1152921504606845789 t158 _ A4.out).mono ?_); rintro e w' ⟨rfl, ⟨nd, rfl⟩⟩; (try clear A4)))
      go_ret
      exact ⟨by first | rfl | (simp; done) | (simp [*]; done), by repeat (first | exact Drawn0.refl _ | apply Drawn0.step)⟩
    · rw [if_neg c3] at H
      have c3b0 : decide (a0 < 2305843009213691579) = false := decide_eq_false c3
      clear c3
      obtain rfl := Option.some.inj H
      go_enter Try.func16, Try.ntmps16
      go_wp2
      go_ret
      exact ⟨by first | rfl | (simp; done) | (simp [*]; done), by repeat (first | exact Drawn0.refl _ | apply Drawn0.step)⟩
  · rw [if_neg c2] at H
    have c2b0 : decide (1 ≤ a0) = false := decide_eq_false c2
    clear c2
    obtain rfl := Option.some.inj H
    go_enter Try.func16, Try.ntmps16
    go_wp2
    go_ret
    exact ⟨by first | rfl | (simp; done) | (simp [*]; done), by repeat (first | exact Drawn0.refl _ | apply Drawn0.step)⟩

/-! ### bourneref04_AddQ: function 18 -/
def bourneref04_AddQ.f (a0 : Int) (a1 : Int) : Option (Int) := (bourneref04_Mod.f a0 1152921504606845789).bind fun t159 => ((bourneref04_Mod.f a1 1152921504606845789).bind fun t160 => ((bourneref04_Mod.f (wrap64 (t159 + t160)) 1152921504606845789).bind fun t161 => (some t161)))
set_option maxHeartbeats 8000000 in
set_option maxRecDepth 100000 in
theorem bourneref04_AddQ.calls (a0 : Int) (a1 : Int) (r : Int) (w : World) (h : bourneref04_AddQ.f a0 a1 = some r) :
    Calls Try.prog 18 #[.int .i64 a0, .int .i64 a1] w fun e w' => e = .returned (.int .i64 r) ∧ Drawn0 w w' := by
  have H : ((bourneref04_Mod.f a0 1152921504606845789).bind fun t159 => ((bourneref04_Mod.f a1 1152921504606845789).bind fun t160 => ((bourneref04_Mod.f (wrap64 (t159 + t160)) 1152921504606845789).bind fun t161 => (some t161)))) = some r := h
  clear h
  replace H := Option.bind_eq_some_iff.mp H
  obtain ⟨t159, A30, H⟩ := H
  replace H : ((bourneref04_Mod.f a1 1152921504606845789).bind fun t160 => ((bourneref04_Mod.f (wrap64 (t159 + t160)) 1152921504606845789).bind fun t161 => (some t161))) = some r := H
  have A3 := Aside0.mk A30
  clear A30
  replace H := Option.bind_eq_some_iff.mp H
  obtain ⟨t160, A40, H⟩ := H
  replace H : ((bourneref04_Mod.f (wrap64 (t159 + t160)) 1152921504606845789).bind fun t161 => (some t161)) = some r := H
  have A4 := Aside0.mk A40
  clear A40
  replace H := Option.bind_eq_some_iff.mp H
  obtain ⟨t161, A50, H⟩ := H
  replace H : (some t161) = some r := H
  have A5 := Aside0.mk A50
  clear A50
  obtain rfl := Option.some.inj H
  go_enter Try.func18, Try.ntmps18
  go_wp2_with (first | ((with_reducible refine gate_callee (f := 24) rfl ?_); refine goesL_ (some 6) rfl rfl Try.func24 (by kernel_rfl) rfl #[.int .i64 a0, .int .i64 1152921504606845789] rfl (by (try simp only [List.map_toArray, List.map_cons, List.map_nil]); first | done | rfl | (simp only [List.length_drop, List.length_take]; rfl)) ?_; (with_reducible refine (bourneref04_Mod.calls a0 1152921504606845789 t159 _ A3.out).mono ?_); rintro e w' ⟨rfl, ⟨nd, rfl⟩⟩; refine ⟨_, rfl, ?_⟩) | ((with_reducible refine gate_callee (f := 24) rfl ?_); refine goesL_ (some 8) rfl rfl Try.func24 (by kernel_rfl) rfl #[.int .i64 a1, .int .i64 1152921504606845789] rfl (by (try simp only [List.map_toArray, List.map_cons, List.map_nil]); first | done | rfl | (simp only [List.length_drop, List.length_take]; rfl)) ?_; (with_reducible refine (bourneref04_Mod.calls a1 1152921504606845789 t160 _ A4.out).mono ?_); rintro e w' ⟨rfl, ⟨nd, rfl⟩⟩; refine ⟨_, rfl, ?_⟩) | ((with_reducible refine gate_callee (f := 24) rfl ?_); refine goesL_ (some 10) rfl rfl Try.func24 (by kernel_rfl) rfl #[.int .i64 (wrap64 (t159 + t160)), .int .i64 1152921504606845789] rfl (by (try simp only [List.map_toArray, List.map_cons, List.map_nil]); first | done | rfl | (simp only [List.length_drop, List.length_take]; rfl)) ?_; (with_reducible refine (bourneref04_Mod.calls (wrap64 (t159 + t160)) 1152921504606845789 t161 _ A5.out).mono ?_); rintro e w' ⟨rfl, ⟨nd, rfl⟩⟩; refine ⟨_, rfl, ?_⟩))
  go_ret
  exact ⟨by first | rfl | (simp; done) | (simp [*]; done), by repeat (first | exact Drawn0.refl _ | apply Drawn0.step)⟩

/-! ### bourneref04_SubQ: function 20 -/
def bourneref04_SubQ.f (a0 : Int) (a1 : Int) : Option (Int) := (bourneref04_Mod.f a0 1152921504606845789).bind fun t162 => ((bourneref04_Mod.f a1 1152921504606845789).bind fun t163 => ((bourneref04_Mod.f (wrap64 (t162 - t163)) 1152921504606845789).bind fun t164 => (some t164)))
set_option maxHeartbeats 8000000 in
set_option maxRecDepth 100000 in
theorem bourneref04_SubQ.calls (a0 : Int) (a1 : Int) (r : Int) (w : World) (h : bourneref04_SubQ.f a0 a1 = some r) :
    Calls Try.prog 20 #[.int .i64 a0, .int .i64 a1] w fun e w' => e = .returned (.int .i64 r) ∧ Drawn0 w w' := by
  have H : ((bourneref04_Mod.f a0 1152921504606845789).bind fun t162 => ((bourneref04_Mod.f a1 1152921504606845789).bind fun t163 => ((bourneref04_Mod.f (wrap64 (t162 - t163)) 1152921504606845789).bind fun t164 => (some t164)))) = some r := h
  clear h
  replace H := Option.bind_eq_some_iff.mp H
  obtain ⟨t162, A30, H⟩ := H
  replace H : ((bourneref04_Mod.f a1 1152921504606845789).bind fun t163 => ((bourneref04_Mod.f (wrap64 (t162 - t163)) 1152921504606845789).bind fun t164 => (some t164))) = some r := H
  have A3 := Aside0.mk A30
  clear A30
  replace H := Option.bind_eq_some_iff.mp H
  obtain ⟨t163, A40, H⟩ := H
  replace H : ((bourneref04_Mod.f (wrap64 (t162 - t163)) 1152921504606845789).bind fun t164 => (some t164)) = some r := H
  have A4 := Aside0.mk A40
  clear A40
  replace H := Option.bind_eq_some_iff.mp H
  obtain ⟨t164, A50, H⟩ := H
  replace H : (some t164) = some r := H
  have A5 := Aside0.mk A50
  clear A50
  obtain rfl := Option.some.inj H
  go_enter Try.func20, Try.ntmps20
  go_wp2_with (first | ((with_reducible refine gate_callee (f := 24) rfl ?_); refine goesL_ (some 6) rfl rfl Try.func24 (by kernel_rfl) rfl #[.int .i64 a0, .int .i64 1152921504606845789] rfl (by (try simp only [List.map_toArray, List.map_cons, List.map_nil]); first | done | rfl | (simp only [List.length_drop, List.length_take]; rfl)) ?_; (with_reducible refine (bourneref04_Mod.calls a0 1152921504606845789 t162 _ A3.out).mono ?_); rintro e w' ⟨rfl, ⟨nd, rfl⟩⟩; refine ⟨_, rfl, ?_⟩) | ((with_reducible refine gate_callee (f := 24) rfl ?_); refine goesL_ (some 8) rfl rfl Try.func24 (by kernel_rfl) rfl #[.int .i64 a1, .int .i64 1152921504606845789] rfl (by (try simp only [List.map_toArray, List.map_cons, List.map_nil]); first | done | rfl | (simp only [List.length_drop, List.length_take]; rfl)) ?_; (with_reducible refine (bourneref04_Mod.calls a1 1152921504606845789 t163 _ A4.out).mono ?_); rintro e w' ⟨rfl, ⟨nd, rfl⟩⟩; refine ⟨_, rfl, ?_⟩) | ((with_reducible refine gate_callee (f := 24) rfl ?_); refine goesL_ (some 10) rfl rfl Try.func24 (by kernel_rfl) rfl #[.int .i64 (wrap64 (t162 - t163)), .int .i64 1152921504606845789] rfl (by (try simp only [List.map_toArray, List.map_cons, List.map_nil]); first | done | rfl | (simp only [List.length_drop, List.length_take]; rfl)) ?_; (with_reducible refine (bourneref04_Mod.calls (wrap64 (t162 - t163)) 1152921504606845789 t164 _ A5.out).mono ?_); rintro e w' ⟨rfl, ⟨nd, rfl⟩⟩; refine ⟨_, rfl, ?_⟩))
  go_ret
  exact ⟨by first | rfl | (simp; done) | (simp [*]; done), by repeat (first | exact Drawn0.refl _ | apply Drawn0.step)⟩

/-! ### bourneref04_MulQ: function 22 -/
def bourneref04_MulQ.f (k : Nat) (a0 : Int) (a1 : Int) : Option (Int) := (bourneref04_Mod.f a0 1152921504606845789).bind fun t165 => ((bourneref04_Mod.f a1 1152921504606845789).bind fun t166 => ((bourneref04_times.f k t165 t166 1152921504606845789).bind fun t167 => (some t167)))
theorem bourneref04_MulQ.mono : ∀ a0 a1 k, LeO (bourneref04_MulQ.f k a0 a1) (bourneref04_MulQ.f (k + 1) a0 a1) := by
  intro a0 a1 k
  unfold bourneref04_MulQ.f
  repeat' first
      | (with_reducible exact bourneref04_times.mono _ _ _ _)
      | (with_reducible exact LeO.refl _)
      | (with_reducible exact LeO.none _)
      | (with_reducible refine LeO.ite ?_ ?_)
      | (with_reducible refine LeO.bind ?_ (fun _ => ?_))
      | exact bourneref04_times.mono _ _ _ _
      | exact LeO.none _
      | refine LeO.ite ?_ ?_
      | refine LeO.bind ?_ (fun _ => ?_)
set_option maxHeartbeats 8000000 in
set_option maxRecDepth 100000 in
theorem bourneref04_MulQ.calls (k : Nat) (a0 : Int) (a1 : Int) (r : Int) (w : World) (h : bourneref04_MulQ.f k a0 a1 = some r) :
    Calls Try.prog 22 #[.int .i64 a0, .int .i64 a1] w fun e w' => e = .returned (.int .i64 r) ∧ Drawn0 w w' := by
  have H : ((bourneref04_Mod.f a0 1152921504606845789).bind fun t165 => ((bourneref04_Mod.f a1 1152921504606845789).bind fun t166 => ((bourneref04_times.f k t165 t166 1152921504606845789).bind fun t167 => (some t167)))) = some r := h
  clear h
  replace H := Option.bind_eq_some_iff.mp H
  obtain ⟨t165, A30, H⟩ := H
  replace H : ((bourneref04_Mod.f a1 1152921504606845789).bind fun t166 => ((bourneref04_times.f k t165 t166 1152921504606845789).bind fun t167 => (some t167))) = some r := H
  have A3 := Aside0.mk A30
  clear A30
  replace H := Option.bind_eq_some_iff.mp H
  obtain ⟨t166, A40, H⟩ := H
  replace H : ((bourneref04_times.f k t165 t166 1152921504606845789).bind fun t167 => (some t167)) = some r := H
  have A4 := Aside0.mk A40
  clear A40
  replace H := Option.bind_eq_some_iff.mp H
  obtain ⟨t167, A50, H⟩ := H
  replace H : (some t167) = some r := H
  have A5 := Aside0.mk A50
  clear A50
  obtain rfl := Option.some.inj H
  go_enter Try.func22, Try.ntmps22
  go_wp2_with (first | ((with_reducible refine gate_callee (f := 24) rfl ?_); refine goesL_ (some 6) rfl rfl Try.func24 (by kernel_rfl) rfl #[.int .i64 a0, .int .i64 1152921504606845789] rfl (by (try simp only [List.map_toArray, List.map_cons, List.map_nil]); first | done | rfl | (simp only [List.length_drop, List.length_take]; rfl)) ?_; (with_reducible refine (bourneref04_Mod.calls a0 1152921504606845789 t165 _ A3.out).mono ?_); rintro e w' ⟨rfl, ⟨nd, rfl⟩⟩; refine ⟨_, rfl, ?_⟩) | ((with_reducible refine gate_callee (f := 24) rfl ?_); refine goesL_ (some 8) rfl rfl Try.func24 (by kernel_rfl) rfl #[.int .i64 a1, .int .i64 1152921504606845789] rfl (by (try simp only [List.map_toArray, List.map_cons, List.map_nil]); first | done | rfl | (simp only [List.length_drop, List.length_take]; rfl)) ?_; (with_reducible refine (bourneref04_Mod.calls a1 1152921504606845789 t166 _ A4.out).mono ?_); rintro e w' ⟨rfl, ⟨nd, rfl⟩⟩; refine ⟨_, rfl, ?_⟩) | ((with_reducible refine gate_callee (f := 26) rfl ?_); refine goesL_ (some 9) rfl rfl Try.func26 (by kernel_rfl) rfl #[.int .i64 t165, .int .i64 t166, .int .i64 1152921504606845789] rfl (by (try simp only [List.map_toArray, List.map_cons, List.map_nil]); first | done | rfl | (simp only [List.length_drop, List.length_take]; rfl)) ?_; (with_reducible refine (bourneref04_times.calls k t165 t166 1152921504606845789 t167 _ A5.out).mono ?_); rintro e w' ⟨rfl, ⟨nd, rfl⟩⟩; refine ⟨_, rfl, ?_⟩))
  go_ret
  exact ⟨by first | rfl | (simp; done) | (simp [*]; done), by repeat (first | exact Drawn0.refl _ | apply Drawn0.step)⟩

/-! ### bournelaw04_GroupTells: function 3 -/
def bournelaw04_GroupTells.j0 : Nat → Int → Int → Bool → Bool → Option (Bool)
  | 0, _, _, _, _ => none
  | k + 1, x0, x1, x5, x53 => if x53 = true then (some false) else (if x5 = true then ((group_AddQ.f x0 x1).bind fun t179 => ((bourneref04_AddQ.f x0 x1).bind fun t180 => (if t179 = t180 then ((group_SubQ.f x0 x1).bind fun t181 => ((bourneref04_SubQ.f x0 x1).bind fun t182 => (if t181 = t182 then ((group_MulQ.f k x0 x1).bind fun t183 => ((bourneref04_MulQ.f k x0 x1).bind fun t184 => (some (t183 == t184)))) else (some false)))) else (some false)))) else (some false))
def bournelaw04_GroupTells.f (k : Nat) (a0 : Int) (a1 : Int) : Option (Bool) := (bournelaw04_small.f k).bind fun t168 => ((group_Inv.f k a0).bind fun bt169 => ((bourneref04_Inv.f k a0).bind fun bt171 => (if bt169.1 = bt171.1 then (if (bt169.2 != bt171.2) = true then (bournelaw04_GroupTells.j0 k a0 a1 t168 true) else ((group_Mul.f k a0 a1).bind fun t173 => ((bourneref04_Mul.f k a0 a1).bind fun t174 => (if t173 = t174 then ((group_Exp.f k a0 a1).bind fun t175 => ((bourneref04_Exp.f k a0 a1).bind fun t176 => (if t175 = t176 then ((group_In.f k a0).bind fun t177 => ((bourneref04_In.f k a0).bind fun t178 => (bournelaw04_GroupTells.j0 k a0 a1 t168 (t177 != t178)))) else (bournelaw04_GroupTells.j0 k a0 a1 t168 true)))) else (bournelaw04_GroupTells.j0 k a0 a1 t168 true))))) else (bournelaw04_GroupTells.j0 k a0 a1 t168 true))))
theorem bournelaw04_GroupTells.mono_l : ∀ k, (∀ y0 y1 y2 y3, LeO (bournelaw04_GroupTells.j0 k y0 y1 y2 y3) (bournelaw04_GroupTells.j0 (k + 1) y0 y1 y2 y3))
  | 0 => fun _ _ _ _ r h => by simp [bournelaw04_GroupTells.j0] at h
  | k + 1 => by
    have ih0 := bournelaw04_GroupTells.mono_l k
    · intro y0 y1 y2 y3
      unfold bournelaw04_GroupTells.j0
      repeat' first
      | (with_reducible exact ih0 _ _ _ _)
      | (with_reducible exact bournelaw04_small.mono _)
      | (with_reducible exact bourneref04_Exp.mono _ _ _)
      | (with_reducible exact bourneref04_In.mono _ _)
      | (with_reducible exact bourneref04_Inv.mono _ _)
      | (with_reducible exact bourneref04_Mul.mono _ _ _)
      | (with_reducible exact bourneref04_MulQ.mono _ _ _)
      | (with_reducible exact group_Exp.mono _ _ _)
      | (with_reducible exact group_In.mono _ _)
      | (with_reducible exact group_Inv.mono _ _)
      | (with_reducible exact group_Mul.mono _ _ _)
      | (with_reducible exact group_MulQ.mono _ _ _)
      | (with_reducible exact LeO.refl _)
      | (with_reducible exact LeO.none _)
      | (with_reducible refine LeO.ite ?_ ?_)
      | (with_reducible refine LeO.bind ?_ (fun _ => ?_))
      | exact ih0 _ _ _ _
      | exact bournelaw04_small.mono _
      | exact bourneref04_Exp.mono _ _ _
      | exact bourneref04_In.mono _ _
      | exact bourneref04_Inv.mono _ _
      | exact bourneref04_Mul.mono _ _ _
      | exact bourneref04_MulQ.mono _ _ _
      | exact group_Exp.mono _ _ _
      | exact group_In.mono _ _
      | exact group_Inv.mono _ _
      | exact group_Mul.mono _ _ _
      | exact group_MulQ.mono _ _ _
      | exact LeO.none _
      | refine LeO.ite ?_ ?_
      | refine LeO.bind ?_ (fun _ => ?_)
theorem bournelaw04_GroupTells.mono : ∀ a0 a1 k, LeO (bournelaw04_GroupTells.f k a0 a1) (bournelaw04_GroupTells.f (k + 1) a0 a1) := by
  intro a0 a1 k
  have ih0 := bournelaw04_GroupTells.mono_l k
  unfold bournelaw04_GroupTells.f
  repeat' first
      | (with_reducible exact ih0 _ _ _ _)
      | (with_reducible exact bournelaw04_small.mono _)
      | (with_reducible exact bourneref04_Exp.mono _ _ _)
      | (with_reducible exact bourneref04_In.mono _ _)
      | (with_reducible exact bourneref04_Inv.mono _ _)
      | (with_reducible exact bourneref04_Mul.mono _ _ _)
      | (with_reducible exact bourneref04_MulQ.mono _ _ _)
      | (with_reducible exact group_Exp.mono _ _ _)
      | (with_reducible exact group_In.mono _ _)
      | (with_reducible exact group_Inv.mono _ _)
      | (with_reducible exact group_Mul.mono _ _ _)
      | (with_reducible exact group_MulQ.mono _ _ _)
      | (with_reducible exact LeO.refl _)
      | (with_reducible exact LeO.none _)
      | (with_reducible refine LeO.ite ?_ ?_)
      | (with_reducible refine LeO.bind ?_ (fun _ => ?_))
      | exact ih0 _ _ _ _
      | exact bournelaw04_small.mono _
      | exact bourneref04_Exp.mono _ _ _
      | exact bourneref04_In.mono _ _
      | exact bourneref04_Inv.mono _ _
      | exact bourneref04_Mul.mono _ _ _
      | exact bourneref04_MulQ.mono _ _ _
      | exact group_Exp.mono _ _ _
      | exact group_In.mono _ _
      | exact group_Inv.mono _ _
      | exact group_Mul.mono _ _ _
      | exact group_MulQ.mono _ _ _
      | exact LeO.none _
      | refine LeO.ite ?_ ?_
      | refine LeO.bind ?_ (fun _ => ?_)
set_option maxHeartbeats 8000000 in
set_option maxRecDepth 100000 in
theorem bournelaw04_GroupTells.calls (k : Nat) (a0 : Int) (a1 : Int) (r : Bool) (w : World) (h : bournelaw04_GroupTells.f k a0 a1 = some r) :
    Calls Try.prog 3 #[.int .i64 a0, .int .i64 a1] w fun e w' => e = .returned (.bool r) ∧ Drawn0 w w' := by
  have H : ((bournelaw04_small.f k).bind fun t168 => ((group_Inv.f k a0).bind fun bt169 => ((bourneref04_Inv.f k a0).bind fun bt171 => (if bt169.1 = bt171.1 then (if (bt169.2 != bt171.2) = true then (bournelaw04_GroupTells.j0 k a0 a1 t168 true) else ((group_Mul.f k a0 a1).bind fun t173 => ((bourneref04_Mul.f k a0 a1).bind fun t174 => (if t173 = t174 then ((group_Exp.f k a0 a1).bind fun t175 => ((bourneref04_Exp.f k a0 a1).bind fun t176 => (if t175 = t176 then ((group_In.f k a0).bind fun t177 => ((bourneref04_In.f k a0).bind fun t178 => (bournelaw04_GroupTells.j0 k a0 a1 t168 (t177 != t178)))) else (bournelaw04_GroupTells.j0 k a0 a1 t168 true)))) else (bournelaw04_GroupTells.j0 k a0 a1 t168 true))))) else (bournelaw04_GroupTells.j0 k a0 a1 t168 true))))) = some r := h
  clear h
  replace H := Option.bind_eq_some_iff.mp H
  obtain ⟨t168, A30, H⟩ := H
  replace H : ((group_Inv.f k a0).bind fun bt169 => ((bourneref04_Inv.f k a0).bind fun bt171 => (if bt169.1 = bt171.1 then (if (bt169.2 != bt171.2) = true then (bournelaw04_GroupTells.j0 k a0 a1 t168 true) else ((group_Mul.f k a0 a1).bind fun t173 => ((bourneref04_Mul.f k a0 a1).bind fun t174 => (if t173 = t174 then ((group_Exp.f k a0 a1).bind fun t175 => ((bourneref04_Exp.f k a0 a1).bind fun t176 => (if t175 = t176 then ((group_In.f k a0).bind fun t177 => ((bourneref04_In.f k a0).bind fun t178 => (bournelaw04_GroupTells.j0 k a0 a1 t168 (t177 != t178)))) else (bournelaw04_GroupTells.j0 k a0 a1 t168 true)))) else (bournelaw04_GroupTells.j0 k a0 a1 t168 true))))) else (bournelaw04_GroupTells.j0 k a0 a1 t168 true)))) = some r := H
  have A3 := Aside0.mk A30
  clear A30
  replace H := Option.bind_eq_some_iff.mp H
  obtain ⟨⟨t169, t170⟩, A40, H⟩ := H
  replace H : ((bourneref04_Inv.f k a0).bind fun bt171 => (if t169 = bt171.1 then (if (t170 != bt171.2) = true then (bournelaw04_GroupTells.j0 k a0 a1 t168 true) else ((group_Mul.f k a0 a1).bind fun t173 => ((bourneref04_Mul.f k a0 a1).bind fun t174 => (if t173 = t174 then ((group_Exp.f k a0 a1).bind fun t175 => ((bourneref04_Exp.f k a0 a1).bind fun t176 => (if t175 = t176 then ((group_In.f k a0).bind fun t177 => ((bourneref04_In.f k a0).bind fun t178 => (bournelaw04_GroupTells.j0 k a0 a1 t168 (t177 != t178)))) else (bournelaw04_GroupTells.j0 k a0 a1 t168 true)))) else (bournelaw04_GroupTells.j0 k a0 a1 t168 true))))) else (bournelaw04_GroupTells.j0 k a0 a1 t168 true))) = some r := H
  have A4 := Aside0.mk A40
  clear A40
  replace H := Option.bind_eq_some_iff.mp H
  obtain ⟨⟨t171, t172⟩, A50, H⟩ := H
  replace H : (if t169 = t171 then (if (t170 != t172) = true then (bournelaw04_GroupTells.j0 k a0 a1 t168 true) else ((group_Mul.f k a0 a1).bind fun t173 => ((bourneref04_Mul.f k a0 a1).bind fun t174 => (if t173 = t174 then ((group_Exp.f k a0 a1).bind fun t175 => ((bourneref04_Exp.f k a0 a1).bind fun t176 => (if t175 = t176 then ((group_In.f k a0).bind fun t177 => ((bourneref04_In.f k a0).bind fun t178 => (bournelaw04_GroupTells.j0 k a0 a1 t168 (t177 != t178)))) else (bournelaw04_GroupTells.j0 k a0 a1 t168 true)))) else (bournelaw04_GroupTells.j0 k a0 a1 t168 true))))) else (bournelaw04_GroupTells.j0 k a0 a1 t168 true)) = some r := H
  have A5 := Aside0.mk A50
  clear A50
  have HC6 := Aside0.mk H
  clear H
  go_enter Try.func3, Try.ntmps3
  go_upto_region 4 with (first | ((with_reducible refine gate_callee (f := 8) rfl ?_); refine goesL_ (some 10) rfl rfl Try.func8 (by kernel_rfl) rfl #[] rfl (by (try simp only [List.map_toArray, List.map_cons, List.map_nil]); first | done | rfl | (simp only [List.length_drop, List.length_take]; rfl)) ?_; (with_reducible refine (bournelaw04_small.calls k  t168 _ A3.out).mono ?_); rintro e w' ⟨rfl, ⟨nd, rfl⟩⟩; refine ⟨_, rfl, ?_⟩) | ((with_reducible refine gate_callee (f := 9) rfl ?_); refine goesL_ (some 13) rfl rfl Try.func9 (by kernel_rfl) rfl #[.int .i64 a0] rfl (by (try simp only [List.map_toArray, List.map_cons, List.map_nil]); first | done | rfl | (simp only [List.length_drop, List.length_take]; rfl)) ?_; (with_reducible refine (group_Inv.calls k a0 t169 t170 _ A4.out).mono ?_); rintro e w' ⟨rfl, ⟨nd, rfl⟩⟩; refine ⟨_, rfl, ?_⟩) | ((with_reducible refine gate_callee (f := 10) rfl ?_); refine goesL_ (some 18) rfl rfl Try.func10 (by kernel_rfl) rfl #[.int .i64 a0] rfl (by (try simp only [List.map_toArray, List.map_cons, List.map_nil]); first | done | rfl | (simp only [List.length_drop, List.length_take]; rfl)) ?_; (with_reducible refine (bourneref04_Inv.calls k a0 t171 t172 _ A5.out).mono ?_); rintro e w' ⟨rfl, ⟨nd, rfl⟩⟩; refine ⟨_, rfl, ?_⟩))
  (try simp only [Act.put, List.setIfInBounds_toArray, List.set_cons_zero, List.set_cons_succ])
  go_cut [53] (fun v53 wc => ∃ (kq : Nat) (x53_5 : Bool), v53 = .bool x53_5 ∧ Aside0 (bournelaw04_GroupTells.j0 kq a0 a1 t168 x53_5 = some r) ∧ Aside0 (kq ≤ k) ∧ Drawn0 w wc)
  case first =>
    have H := HC6.out
    clear HC6
    by_cases c7 : t169 = t171
    · rw [if_pos c7] at H
      have c7b0 : (t169 == t171) = true := beq_iff_eq.mpr c7
      have c7b1 : (t169 != t171) = false := bne_eq_false_iff_eq.mpr c7
      clear c7
      (first | rw [c7b0] | (simp only [i64_w, i32_w]; rw [c7b0]) | skip)
      by_cases c8 : (t170 != t172) = true
      · rw [if_pos c8] at H
        have c8b0 : (t170 != t172) = true := c8
        (try (have c8b1 : decide (t170 = t172) = false := by simpa using c8))
        (try (have c8b2 : (t170 == t172) = false := by simpa using c8))
        (try (have c8b3 : ¬ (t170 = t172) := by simpa using c8))
        clear c8
        have H' := Aside0.mk H
        clear H
        go_wp2
        go_meet
        case rel => exact ⟨_, (true), (by first | rfl | (simp; done) | (simp [*]; done)), H', ⟨by first | omega | exact Nat.le_refl _⟩, by repeat (first | exact Drawn0.refl _ | apply Drawn0.step)⟩
      · rw [if_neg c8] at H
        have c8b0 : (t170 != t172) = false := by simpa using c8
        (try (have c8b1 : decide (t170 = t172) = true := by simpa using c8))
        (try (have c8b2 : (t170 == t172) = true := by simpa using c8))
        clear c8
        replace H := Option.bind_eq_some_iff.mp H
        obtain ⟨t173, A90, H⟩ := H
        replace H : ((bourneref04_Mul.f k a0 a1).bind fun t174 => (if t173 = t174 then ((group_Exp.f k a0 a1).bind fun t175 => ((bourneref04_Exp.f k a0 a1).bind fun t176 => (if t175 = t176 then ((group_In.f k a0).bind fun t177 => ((bourneref04_In.f k a0).bind fun t178 => (bournelaw04_GroupTells.j0 k a0 a1 t168 (t177 != t178)))) else (bournelaw04_GroupTells.j0 k a0 a1 t168 true)))) else (bournelaw04_GroupTells.j0 k a0 a1 t168 true))) = some r := H
        have A9 := Aside0.mk A90
        clear A90
        replace H := Option.bind_eq_some_iff.mp H
        obtain ⟨t174, A100, H⟩ := H
        replace H : (if t173 = t174 then ((group_Exp.f k a0 a1).bind fun t175 => ((bourneref04_Exp.f k a0 a1).bind fun t176 => (if t175 = t176 then ((group_In.f k a0).bind fun t177 => ((bourneref04_In.f k a0).bind fun t178 => (bournelaw04_GroupTells.j0 k a0 a1 t168 (t177 != t178)))) else (bournelaw04_GroupTells.j0 k a0 a1 t168 true)))) else (bournelaw04_GroupTells.j0 k a0 a1 t168 true)) = some r := H
        have A10 := Aside0.mk A100
        clear A100
        by_cases c11 : t173 = t174
        · rw [if_pos c11] at H
          have c11b0 : (t173 == t174) = true := beq_iff_eq.mpr c11
          have c11b1 : (t173 != t174) = false := bne_eq_false_iff_eq.mpr c11
          clear c11
          replace H := Option.bind_eq_some_iff.mp H
          obtain ⟨t175, A120, H⟩ := H
          replace H : ((bourneref04_Exp.f k a0 a1).bind fun t176 => (if t175 = t176 then ((group_In.f k a0).bind fun t177 => ((bourneref04_In.f k a0).bind fun t178 => (bournelaw04_GroupTells.j0 k a0 a1 t168 (t177 != t178)))) else (bournelaw04_GroupTells.j0 k a0 a1 t168 true))) = some r := H
          have A12 := Aside0.mk A120
          clear A120
          replace H := Option.bind_eq_some_iff.mp H
          obtain ⟨t176, A130, H⟩ := H
          replace H : (if t175 = t176 then ((group_In.f k a0).bind fun t177 => ((bourneref04_In.f k a0).bind fun t178 => (bournelaw04_GroupTells.j0 k a0 a1 t168 (t177 != t178)))) else (bournelaw04_GroupTells.j0 k a0 a1 t168 true)) = some r := H
          have A13 := Aside0.mk A130
          clear A130
          by_cases c14 : t175 = t176
          · rw [if_pos c14] at H
            have c14b0 : (t175 == t176) = true := beq_iff_eq.mpr c14
            have c14b1 : (t175 != t176) = false := bne_eq_false_iff_eq.mpr c14
            clear c14
            replace H := Option.bind_eq_some_iff.mp H
            obtain ⟨t177, A150, H⟩ := H
            replace H : ((bourneref04_In.f k a0).bind fun t178 => (bournelaw04_GroupTells.j0 k a0 a1 t168 (t177 != t178))) = some r := H
            have A15 := Aside0.mk A150
            clear A150
            replace H := Option.bind_eq_some_iff.mp H
            obtain ⟨t178, A160, H⟩ := H
            replace H : (bournelaw04_GroupTells.j0 k a0 a1 t168 (t177 != t178)) = some r := H
            have A16 := Aside0.mk A160
            clear A160
            have H' := Aside0.mk H
            clear H
            go_wp2_with (first | (go_at_call 11; (with_reducible refine (group_Mul.calls k a0 a1 t173 _ A9.out).mono ?_); rintro e w' ⟨rfl, ⟨nd, rfl⟩⟩; (try clear A9)) | (go_at_call 12; (with_reducible refine (bourneref04_Mul.calls k a0 a1 t174 _ A10.out).mono ?_); rintro e w' ⟨rfl, ⟨nd, rfl⟩⟩; (try clear A10)) | (go_at_call 13; (with_reducible refine (group_Exp.calls k a0 a1 t175 _ A12.out).mono ?_); rintro e w' ⟨rfl, ⟨nd, rfl⟩⟩; (try clear A12)) | (go_at_call 14; (with_reducible refine (bourneref04_Exp.calls k a0 a1 t176 _ A13.out).mono ?_); rintro e w' ⟨rfl, ⟨nd, rfl⟩⟩; (try clear A13)) | (go_at_call 15; (with_reducible refine (group_In.calls k a0 t177 _ A15.out).mono ?_); rintro e w' ⟨rfl, ⟨nd, rfl⟩⟩; (try clear A15)) | (go_at_call 16; (with_reducible refine (bourneref04_In.calls k a0 t178 _ A16.out).mono ?_); rintro e w' ⟨rfl, ⟨nd, rfl⟩⟩; (try clear A16)))
            go_meet
            case rel => exact ⟨_, ((t177 != t178)), (by first | rfl | (simp; done) | (simp [*]; done)), H', ⟨by first | omega | exact Nat.le_refl _⟩, by repeat (first | exact Drawn0.refl _ | apply Drawn0.step)⟩
          · rw [if_neg c14] at H
            have c14b0 : (t175 == t176) = false := beq_eq_false_iff_ne.mpr c14
            have c14b1 : (t175 != t176) = true := bne_iff_ne.mpr c14
            have H' := Aside0.mk H
            clear H
            go_wp2_with (first | (go_at_call 11; (with_reducible refine (group_Mul.calls k a0 a1 t173 _ A9.out).mono ?_); rintro e w' ⟨rfl, ⟨nd, rfl⟩⟩; (try clear A9)) | (go_at_call 12; (with_reducible refine (bourneref04_Mul.calls k a0 a1 t174 _ A10.out).mono ?_); rintro e w' ⟨rfl, ⟨nd, rfl⟩⟩; (try clear A10)) | (go_at_call 13; (with_reducible refine (group_Exp.calls k a0 a1 t175 _ A12.out).mono ?_); rintro e w' ⟨rfl, ⟨nd, rfl⟩⟩; (try clear A12)) | (go_at_call 14; (with_reducible refine (bourneref04_Exp.calls k a0 a1 t176 _ A13.out).mono ?_); rintro e w' ⟨rfl, ⟨nd, rfl⟩⟩; (try clear A13)))
            go_meet
            case rel => exact ⟨_, (true), (by first | rfl | (simp; done) | (simp [*]; done)), H', ⟨by first | omega | exact Nat.le_refl _⟩, by repeat (first | exact Drawn0.refl _ | apply Drawn0.step)⟩
        · rw [if_neg c11] at H
          have c11b0 : (t173 == t174) = false := beq_eq_false_iff_ne.mpr c11
          have c11b1 : (t173 != t174) = true := bne_iff_ne.mpr c11
          have H' := Aside0.mk H
          clear H
          go_wp2_with (first | (go_at_call 11; (with_reducible refine (group_Mul.calls k a0 a1 t173 _ A9.out).mono ?_); rintro e w' ⟨rfl, ⟨nd, rfl⟩⟩; (try clear A9)) | (go_at_call 12; (with_reducible refine (bourneref04_Mul.calls k a0 a1 t174 _ A10.out).mono ?_); rintro e w' ⟨rfl, ⟨nd, rfl⟩⟩; (try clear A10)))
          go_meet
          case rel => exact ⟨_, (true), (by first | rfl | (simp; done) | (simp [*]; done)), H', ⟨by first | omega | exact Nat.le_refl _⟩, by repeat (first | exact Drawn0.refl _ | apply Drawn0.step)⟩
    · rw [if_neg c7] at H
      have c7b0 : (t169 == t171) = false := beq_eq_false_iff_ne.mpr c7
      have c7b1 : (t169 != t171) = true := bne_iff_ne.mpr c7
      (first | rw [c7b0] | (simp only [i64_w, i32_w]; rw [c7b0]) | skip)
      have H' := Aside0.mk H
      clear H
      go_wp2
      go_meet
      case rel => exact ⟨_, (true), (by first | rfl | (simp; done) | (simp [*]; done)), H', ⟨by first | omega | exact Nat.le_refl _⟩, by repeat (first | exact Drawn0.refl _ | apply Drawn0.step)⟩
  case rest =>
    clear HC6
    try clear c1
    try clear p2
    try clear c3
    try clear c7
    try clear c7b0
    try clear c7b1
    try clear c8
    try clear c8b0
    try clear c8b1
    try clear c8b2
    try clear c9
    try clear c10
    try clear c11
    try clear c11b0
    try clear c11b1
    try clear c14
    try clear c14b0
    try clear c14b1
    obtain ⟨kq, x53_5, rfl, HA, HJ5, ⟨mc5, rfl⟩⟩ := hcut
    cases kq with
    | zero => exact absurd HA.out (by simp [bournelaw04_GroupTells.j0])
    | succ kj5 =>
      have H := HA.out
      clear HA
      simp only [bournelaw04_GroupTells.j0] at H
      by_cases c17 : x53_5 = true
      · subst c17
        have H1 : (some false) = some r := by rw [if_pos rfl] at H; exact H
        clear H
        have H := H1
        clear H1
        obtain rfl := Option.some.inj H
        go_wp2
        go_ret
        exact ⟨by first | rfl | (simp; done) | (simp [*]; done), by repeat (first | exact Drawn0.refl _ | apply Drawn0.step)⟩
      · replace c17 := Bool.eq_false_iff.mpr c17
        subst c17
        have H1 : (if t168 = true then ((group_AddQ.f a0 a1).bind fun t179 => ((bourneref04_AddQ.f a0 a1).bind fun t180 => (if t179 = t180 then ((group_SubQ.f a0 a1).bind fun t181 => ((bourneref04_SubQ.f a0 a1).bind fun t182 => (if t181 = t182 then ((group_MulQ.f kj5 a0 a1).bind fun t183 => ((bourneref04_MulQ.f kj5 a0 a1).bind fun t184 => (some (t183 == t184)))) else (some false)))) else (some false)))) else (some false)) = some r := by rw [if_neg (show ¬ (false = true) by decide)] at H; exact H
        clear H
        have H := H1
        clear H1
        by_cases c18 : t168 = true
        · subst c18
          have H1 : ((group_AddQ.f a0 a1).bind fun t179 => ((bourneref04_AddQ.f a0 a1).bind fun t180 => (if t179 = t180 then ((group_SubQ.f a0 a1).bind fun t181 => ((bourneref04_SubQ.f a0 a1).bind fun t182 => (if t181 = t182 then ((group_MulQ.f kj5 a0 a1).bind fun t183 => ((bourneref04_MulQ.f kj5 a0 a1).bind fun t184 => (some (t183 == t184)))) else (some false)))) else (some false)))) = some r := by rw [if_pos rfl] at H; exact H
          clear H
          have H := H1
          clear H1
          replace H := Option.bind_eq_some_iff.mp H
          obtain ⟨t179, A190, H⟩ := H
          replace H : ((bourneref04_AddQ.f a0 a1).bind fun t180 => (if t179 = t180 then ((group_SubQ.f a0 a1).bind fun t181 => ((bourneref04_SubQ.f a0 a1).bind fun t182 => (if t181 = t182 then ((group_MulQ.f kj5 a0 a1).bind fun t183 => ((bourneref04_MulQ.f kj5 a0 a1).bind fun t184 => (some (t183 == t184)))) else (some false)))) else (some false))) = some r := H
          have A19 := Aside0.mk A190
          clear A190
          replace H := Option.bind_eq_some_iff.mp H
          obtain ⟨t180, A200, H⟩ := H
          replace H : (if t179 = t180 then ((group_SubQ.f a0 a1).bind fun t181 => ((bourneref04_SubQ.f a0 a1).bind fun t182 => (if t181 = t182 then ((group_MulQ.f kj5 a0 a1).bind fun t183 => ((bourneref04_MulQ.f kj5 a0 a1).bind fun t184 => (some (t183 == t184)))) else (some false)))) else (some false)) = some r := H
          have A20 := Aside0.mk A200
          clear A200
          by_cases c21 : t179 = t180
          · rw [if_pos c21] at H
            have c21b0 : (t179 == t180) = true := beq_iff_eq.mpr c21
            have c21b1 : (t179 != t180) = false := bne_eq_false_iff_eq.mpr c21
            clear c21
            replace H := Option.bind_eq_some_iff.mp H
            obtain ⟨t181, A220, H⟩ := H
            replace H : ((bourneref04_SubQ.f a0 a1).bind fun t182 => (if t181 = t182 then ((group_MulQ.f kj5 a0 a1).bind fun t183 => ((bourneref04_MulQ.f kj5 a0 a1).bind fun t184 => (some (t183 == t184)))) else (some false))) = some r := H
            have A22 := Aside0.mk A220
            clear A220
            replace H := Option.bind_eq_some_iff.mp H
            obtain ⟨t182, A230, H⟩ := H
            replace H : (if t181 = t182 then ((group_MulQ.f kj5 a0 a1).bind fun t183 => ((bourneref04_MulQ.f kj5 a0 a1).bind fun t184 => (some (t183 == t184)))) else (some false)) = some r := H
            have A23 := Aside0.mk A230
            clear A230
            by_cases c24 : t181 = t182
            · rw [if_pos c24] at H
              have c24b0 : (t181 == t182) = true := beq_iff_eq.mpr c24
              have c24b1 : (t181 != t182) = false := bne_eq_false_iff_eq.mpr c24
              clear c24
              replace H := Option.bind_eq_some_iff.mp H
              obtain ⟨t183, A250, H⟩ := H
              replace H : ((bourneref04_MulQ.f kj5 a0 a1).bind fun t184 => (some (t183 == t184))) = some r := H
              have A25 := Aside0.mk A250
              clear A250
              replace H := Option.bind_eq_some_iff.mp H
              obtain ⟨t184, A260, H⟩ := H
              replace H : (some (t183 == t184)) = some r := H
              have A26 := Aside0.mk A260
              clear A260
              obtain rfl := Option.some.inj H
              go_wp2_with (first | (go_at_call 17; (with_reducible refine (group_AddQ.calls a0 a1 t179 _ A19.out).mono ?_); rintro e w' ⟨rfl, ⟨nd, rfl⟩⟩; (try clear A19)) | (go_at_call 18; (with_reducible refine (bourneref04_AddQ.calls a0 a1 t180 _ A20.out).mono ?_); rintro e w' ⟨rfl, ⟨nd, rfl⟩⟩; (try clear A20)) | (go_at_call 19; (with_reducible refine (group_SubQ.calls a0 a1 t181 _ A22.out).mono ?_); rintro e w' ⟨rfl, ⟨nd, rfl⟩⟩; (try clear A22)) | (go_at_call 20; (with_reducible refine (bourneref04_SubQ.calls a0 a1 t182 _ A23.out).mono ?_); rintro e w' ⟨rfl, ⟨nd, rfl⟩⟩; (try clear A23)) | (go_at_call 21; (with_reducible refine (group_MulQ.calls kj5 a0 a1 t183 _ A25.out).mono ?_); rintro e w' ⟨rfl, ⟨nd, rfl⟩⟩; (try clear A25)) | (go_at_call 22; (with_reducible refine (bourneref04_MulQ.calls kj5 a0 a1 t184 _ A26.out).mono ?_); rintro e w' ⟨rfl, ⟨nd, rfl⟩⟩; (try clear A26)))
              go_ret
              exact ⟨by first | rfl | (simp; done) | (simp [*]; done), by repeat (first | exact Drawn0.refl _ | apply Drawn0.step)⟩
            · rw [if_neg c24] at H
              have c24b0 : (t181 == t182) = false := beq_eq_false_iff_ne.mpr c24
              have c24b1 : (t181 != t182) = true := bne_iff_ne.mpr c24
              obtain rfl := Option.some.inj H
              go_wp2_with (first | (go_at_call 17; (with_reducible refine (group_AddQ.calls a0 a1 t179 _ A19.out).mono ?_); rintro e w' ⟨rfl, ⟨nd, rfl⟩⟩; (try clear A19)) | (go_at_call 18; (with_reducible refine (bourneref04_AddQ.calls a0 a1 t180 _ A20.out).mono ?_); rintro e w' ⟨rfl, ⟨nd, rfl⟩⟩; (try clear A20)) | (go_at_call 19; (with_reducible refine (group_SubQ.calls a0 a1 t181 _ A22.out).mono ?_); rintro e w' ⟨rfl, ⟨nd, rfl⟩⟩; (try clear A22)) | (go_at_call 20; (with_reducible refine (bourneref04_SubQ.calls a0 a1 t182 _ A23.out).mono ?_); rintro e w' ⟨rfl, ⟨nd, rfl⟩⟩; (try clear A23)))
              go_ret
              exact ⟨by first | rfl | (simp; done) | (simp [*]; done), by repeat (first | exact Drawn0.refl _ | apply Drawn0.step)⟩
          · rw [if_neg c21] at H
            have c21b0 : (t179 == t180) = false := beq_eq_false_iff_ne.mpr c21
            have c21b1 : (t179 != t180) = true := bne_iff_ne.mpr c21
            obtain rfl := Option.some.inj H
            go_wp2_with (first | (go_at_call 17; (with_reducible refine (group_AddQ.calls a0 a1 t179 _ A19.out).mono ?_); rintro e w' ⟨rfl, ⟨nd, rfl⟩⟩; (try clear A19)) | (go_at_call 18; (with_reducible refine (bourneref04_AddQ.calls a0 a1 t180 _ A20.out).mono ?_); rintro e w' ⟨rfl, ⟨nd, rfl⟩⟩; (try clear A20)))
            go_ret
            exact ⟨by first | rfl | (simp; done) | (simp [*]; done), by repeat (first | exact Drawn0.refl _ | apply Drawn0.step)⟩
        · replace c18 := Bool.eq_false_iff.mpr c18
          subst c18
          have H1 : (some false) = some r := by rw [if_neg (show ¬ (false = true) by decide)] at H; exact H
          clear H
          have H := H1
          clear H1
          obtain rfl := Option.some.inj H
          go_wp2
          go_ret
          exact ⟨by first | rfl | (simp; done) | (simp [*]; done), by repeat (first | exact Drawn0.refl _ | apply Drawn0.step)⟩

/-- THE ONE PURE STATEMENT of bournelaw04_GroupTells: yours. -/
def bournelaw04_GroupTells.Pure : Prop := ∀ (a0 : Int) (a1 : Int), (Lit.int .i64 a0).wf = true → (Lit.int .i64 a1).wf = true → ∃ k, bournelaw04_GroupTells.f k a0 a1 = some true
theorem bournelaw04_GroupTells.walk (P : bournelaw04_GroupTells.Pure) (a0 : Int) (a1 : Int) (w : World) (w0 : (Lit.int .i64 a0).wf = true) (w1 : (Lit.int .i64 a1).wf = true) :
    Calls Try.prog 3 #[.int .i64 a0, .int .i64 a1] w fun e w' => e = .returned (.bool true) ∧ Below w.heap.size w w' := by
  obtain ⟨k, h⟩ := P a0 a1 w0 w1
  refine (bournelaw04_GroupTells.calls k a0 a1 true w h).mono ?_
  rintro e w' ⟨rfl, hd⟩
  exact ⟨rfl, hd.below⟩

end Go.Proofs.Ytlnkmbbmefbnpaa.Fn
