-- Written by a program of this session out of the translation. Lean checks it.
import Derived.Test.YteecekhfpfnepaaPAllx0
import Derived.Test.YteecekhfpfnepaaPAllx4
import Derived.Test.YteecekhfpfnepaaHRaw
namespace Go.Proofs.Yteecekhfpfnepaa.PAll
open Go.RowKit Go.Proofs.YteecekhfpfnepaaW.PrintWords Go.Proofs.YteecekhfpfnepaaW.PrintLast Go.Proofs.YteecekhfpfnepaaW.PrintMore
attribute [local go_sem] max2_int min2_int max_two min_two max_three min_three max_four min_four   -- for this text's walks alone
set_option linter.unusedVariables false
set_option linter.unusedSimpArgs false

/-! ### heraldref03_Mul: function 16 -/
mutual
def heraldref03_Mul.j0 : Nat → Int → Bool → Int → Int → Int → Bool → Int → Int → Bool → Option (Int)
  | 0, _, _, _, _, _, _, _, _, _ => none
  | k + 1, x5, x6, x7, x8, x9, x10, x11, x12, x13 => if x5 = 2 then (heraldref03_Mul.j1 k x5 x6 x7 x8 x9 x10 x11 x12 true) else (if x9 = 2 then (heraldref03_Mul.j1 k x5 x6 x7 x8 x9 x10 x11 x12 true) else (if x13 = true then (if x5 = 1 then (heraldref03_Mul.j1 k x5 x6 x7 x8 x9 x10 x11 x12 true) else (heraldref03_Mul.j1 k x5 x6 x7 x8 x9 x10 x11 x12 (x9 == 1))) else (heraldref03_Mul.j1 k x5 x6 x7 x8 x9 x10 x11 x12 false)))
def heraldref03_Mul.j1 : Nat → Int → Bool → Int → Int → Int → Bool → Int → Int → Bool → Option (Int)
  | 0, _, _, _, _, _, _, _, _, _ => none
  | k + 1, x5, x6, x7, x8, x9, x10, x11, x12, x58 => if x58 = true then (some 2143289344) else (if x5 = 1 then (heraldref03_Mul.j2 k x6 x7 x8 x10 x11 x12 true) else (heraldref03_Mul.j2 k x6 x7 x8 x10 x11 x12 (x9 == 1)))
def heraldref03_Mul.j2 : Nat → Bool → Int → Int → Bool → Int → Int → Bool → Option (Int)
  | 0, _, _, _, _, _, _, _ => none
  | k + 1, x6, x7, x8, x10, x11, x12, x64 => if x64 = true then (if (x6 != x10) = true then (some 4286578688) else (some 2139095040)) else ((heraldref03_near.f k (x6 != x10) (IntKind.u64.wrap ((IntKind.u64.wrap (x7)) * (IntKind.u64.wrap (x11)))) (wrap64 (x8 + x12))).bind fun t140 => (some t140))
end
def heraldref03_Mul.f (k : Nat) (a0 : Int) (a1 : Int) : Option (Int) := (heraldref03_raw.f a0).bind fun bt132 => ((heraldref03_raw.f a1).bind fun bt136 => (if bt132.1 = 0 then (if bt132.2.2.1 = 0 then (heraldref03_Mul.j0 k bt132.1 bt132.2.1 bt132.2.2.1 bt132.2.2.2 bt136.1 bt136.2.1 bt136.2.2.1 bt136.2.2.2 true) else (if bt136.1 = 0 then (heraldref03_Mul.j0 k bt132.1 bt132.2.1 bt132.2.2.1 bt132.2.2.2 bt136.1 bt136.2.1 bt136.2.2.1 bt136.2.2.2 (bt136.2.2.1 == 0)) else (heraldref03_Mul.j0 k bt132.1 bt132.2.1 bt132.2.2.1 bt132.2.2.2 bt136.1 bt136.2.1 bt136.2.2.1 bt136.2.2.2 false))) else (if bt136.1 = 0 then (heraldref03_Mul.j0 k bt132.1 bt132.2.1 bt132.2.2.1 bt132.2.2.2 bt136.1 bt136.2.1 bt136.2.2.1 bt136.2.2.2 (bt136.2.2.1 == 0)) else (heraldref03_Mul.j0 k bt132.1 bt132.2.1 bt132.2.2.1 bt132.2.2.2 bt136.1 bt136.2.1 bt136.2.2.1 bt136.2.2.2 false))))
theorem heraldref03_Mul.mono_l : ∀ k, (∀ y0 y1 y2 y3 y4 y5 y6 y7 y8, LeO (heraldref03_Mul.j0 k y0 y1 y2 y3 y4 y5 y6 y7 y8) (heraldref03_Mul.j0 (k + 1) y0 y1 y2 y3 y4 y5 y6 y7 y8)) ∧ (∀ y0 y1 y2 y3 y4 y5 y6 y7 y8, LeO (heraldref03_Mul.j1 k y0 y1 y2 y3 y4 y5 y6 y7 y8) (heraldref03_Mul.j1 (k + 1) y0 y1 y2 y3 y4 y5 y6 y7 y8)) ∧ (∀ y0 y1 y2 y3 y4 y5 y6, LeO (heraldref03_Mul.j2 k y0 y1 y2 y3 y4 y5 y6) (heraldref03_Mul.j2 (k + 1) y0 y1 y2 y3 y4 y5 y6))
  | 0 => ⟨fun _ _ _ _ _ _ _ _ _ r h => by simp [heraldref03_Mul.j0] at h, fun _ _ _ _ _ _ _ _ _ r h => by simp [heraldref03_Mul.j1] at h, fun _ _ _ _ _ _ _ r h => by simp [heraldref03_Mul.j2] at h⟩
  | k + 1 => by
    obtain ⟨ih0, ih1, ih2⟩ := heraldref03_Mul.mono_l k
    refine ⟨?_, ?_, ?_⟩
    · intro y0 y1 y2 y3 y4 y5 y6 y7 y8
      unfold heraldref03_Mul.j0
      repeat' first
      | (with_reducible exact ih0 _ _ _ _ _ _ _ _ _)
      | (with_reducible exact ih1 _ _ _ _ _ _ _ _ _)
      | (with_reducible exact ih2 _ _ _ _ _ _ _)
      | (with_reducible exact heraldref03_near.mono _ _ _ _)
      | (with_reducible exact LeO.refl _)
      | (with_reducible exact LeO.none _)
      | (with_reducible refine LeO.ite ?_ ?_)
      | (with_reducible refine LeO.bind ?_ (fun _ => ?_))
      | exact ih0 _ _ _ _ _ _ _ _ _
      | exact ih1 _ _ _ _ _ _ _ _ _
      | exact ih2 _ _ _ _ _ _ _
      | exact heraldref03_near.mono _ _ _ _
      | exact LeO.none _
      | refine LeO.ite ?_ ?_
      | refine LeO.bind ?_ (fun _ => ?_)
    · intro y0 y1 y2 y3 y4 y5 y6 y7 y8
      unfold heraldref03_Mul.j1
      repeat' first
      | (with_reducible exact ih0 _ _ _ _ _ _ _ _ _)
      | (with_reducible exact ih1 _ _ _ _ _ _ _ _ _)
      | (with_reducible exact ih2 _ _ _ _ _ _ _)
      | (with_reducible exact heraldref03_near.mono _ _ _ _)
      | (with_reducible exact LeO.refl _)
      | (with_reducible exact LeO.none _)
      | (with_reducible refine LeO.ite ?_ ?_)
      | (with_reducible refine LeO.bind ?_ (fun _ => ?_))
      | exact ih0 _ _ _ _ _ _ _ _ _
      | exact ih1 _ _ _ _ _ _ _ _ _
      | exact ih2 _ _ _ _ _ _ _
      | exact heraldref03_near.mono _ _ _ _
      | exact LeO.none _
      | refine LeO.ite ?_ ?_
      | refine LeO.bind ?_ (fun _ => ?_)
    · intro y0 y1 y2 y3 y4 y5 y6
      unfold heraldref03_Mul.j2
      repeat' first
      | (with_reducible exact ih0 _ _ _ _ _ _ _ _ _)
      | (with_reducible exact ih1 _ _ _ _ _ _ _ _ _)
      | (with_reducible exact ih2 _ _ _ _ _ _ _)
      | (with_reducible exact heraldref03_near.mono _ _ _ _)
      | (with_reducible exact LeO.refl _)
      | (with_reducible exact LeO.none _)
      | (with_reducible refine LeO.ite ?_ ?_)
      | (with_reducible refine LeO.bind ?_ (fun _ => ?_))
      | exact ih0 _ _ _ _ _ _ _ _ _
      | exact ih1 _ _ _ _ _ _ _ _ _
      | exact ih2 _ _ _ _ _ _ _
      | exact heraldref03_near.mono _ _ _ _
      | exact LeO.none _
      | refine LeO.ite ?_ ?_
      | refine LeO.bind ?_ (fun _ => ?_)
theorem heraldref03_Mul.mono : ∀ a0 a1 k, LeO (heraldref03_Mul.f k a0 a1) (heraldref03_Mul.f (k + 1) a0 a1) := by
  intro a0 a1 k
  obtain ⟨ih0, ih1, ih2⟩ := heraldref03_Mul.mono_l k
  unfold heraldref03_Mul.f
  repeat' first
      | (with_reducible exact ih0 _ _ _ _ _ _ _ _ _)
      | (with_reducible exact ih1 _ _ _ _ _ _ _ _ _)
      | (with_reducible exact ih2 _ _ _ _ _ _ _)
      | (with_reducible exact heraldref03_near.mono _ _ _ _)
      | (with_reducible exact LeO.refl _)
      | (with_reducible exact LeO.none _)
      | (with_reducible refine LeO.ite ?_ ?_)
      | (with_reducible refine LeO.bind ?_ (fun _ => ?_))
      | exact ih0 _ _ _ _ _ _ _ _ _
      | exact ih1 _ _ _ _ _ _ _ _ _
      | exact ih2 _ _ _ _ _ _ _
      | exact heraldref03_near.mono _ _ _ _
      | exact LeO.none _
      | refine LeO.ite ?_ ?_
      | refine LeO.bind ?_ (fun _ => ?_)
set_option maxHeartbeats 8000000 in
set_option maxRecDepth 100000 in
theorem heraldref03_Mul.calls (k : Nat) (a0 : Int) (a1 : Int) (r : Int) (w : World) (h : heraldref03_Mul.f k a0 a1 = some r) :
    Calls Try.prog 16 #[.int .u32 a0, .int .u32 a1] w fun e w' => e = .returned (.int .u32 r) ∧ Drawn0 w w' := by
  have H : ((heraldref03_raw.f a0).bind fun bt132 => ((heraldref03_raw.f a1).bind fun bt136 => (if bt132.1 = 0 then (if bt132.2.2.1 = 0 then (heraldref03_Mul.j0 k bt132.1 bt132.2.1 bt132.2.2.1 bt132.2.2.2 bt136.1 bt136.2.1 bt136.2.2.1 bt136.2.2.2 true) else (if bt136.1 = 0 then (heraldref03_Mul.j0 k bt132.1 bt132.2.1 bt132.2.2.1 bt132.2.2.2 bt136.1 bt136.2.1 bt136.2.2.1 bt136.2.2.2 (bt136.2.2.1 == 0)) else (heraldref03_Mul.j0 k bt132.1 bt132.2.1 bt132.2.2.1 bt132.2.2.2 bt136.1 bt136.2.1 bt136.2.2.1 bt136.2.2.2 false))) else (if bt136.1 = 0 then (heraldref03_Mul.j0 k bt132.1 bt132.2.1 bt132.2.2.1 bt132.2.2.2 bt136.1 bt136.2.1 bt136.2.2.1 bt136.2.2.2 (bt136.2.2.1 == 0)) else (heraldref03_Mul.j0 k bt132.1 bt132.2.1 bt132.2.2.1 bt132.2.2.2 bt136.1 bt136.2.1 bt136.2.2.1 bt136.2.2.2 false))))) = some r := h
  clear h
  replace H := Option.bind_eq_some_iff.mp H
  obtain ⟨⟨t132, t133, t134, t135⟩, A30, H⟩ := H
  replace H : ((heraldref03_raw.f a1).bind fun bt136 => (if t132 = 0 then (if t134 = 0 then (heraldref03_Mul.j0 k t132 t133 t134 t135 bt136.1 bt136.2.1 bt136.2.2.1 bt136.2.2.2 true) else (if bt136.1 = 0 then (heraldref03_Mul.j0 k t132 t133 t134 t135 bt136.1 bt136.2.1 bt136.2.2.1 bt136.2.2.2 (bt136.2.2.1 == 0)) else (heraldref03_Mul.j0 k t132 t133 t134 t135 bt136.1 bt136.2.1 bt136.2.2.1 bt136.2.2.2 false))) else (if bt136.1 = 0 then (heraldref03_Mul.j0 k t132 t133 t134 t135 bt136.1 bt136.2.1 bt136.2.2.1 bt136.2.2.2 (bt136.2.2.1 == 0)) else (heraldref03_Mul.j0 k t132 t133 t134 t135 bt136.1 bt136.2.1 bt136.2.2.1 bt136.2.2.2 false)))) = some r := H
  have A3 := Aside0.mk A30
  clear A30
  replace H := Option.bind_eq_some_iff.mp H
  obtain ⟨⟨t136, t137, t138, t139⟩, A40, H⟩ := H
  replace H : (if t132 = 0 then (if t134 = 0 then (heraldref03_Mul.j0 k t132 t133 t134 t135 t136 t137 t138 t139 true) else (if t136 = 0 then (heraldref03_Mul.j0 k t132 t133 t134 t135 t136 t137 t138 t139 (t138 == 0)) else (heraldref03_Mul.j0 k t132 t133 t134 t135 t136 t137 t138 t139 false))) else (if t136 = 0 then (heraldref03_Mul.j0 k t132 t133 t134 t135 t136 t137 t138 t139 (t138 == 0)) else (heraldref03_Mul.j0 k t132 t133 t134 t135 t136 t137 t138 t139 false))) = some r := H
  have A4 := Aside0.mk A40
  clear A40
  have HC5 := Aside0.mk H
  clear H
  go_enter Try.func16, Try.ntmps16
  go_upto_region 3 with (first | ((with_reducible refine gate_callee (f := 32) rfl ?_); refine goesL_ (some 16) rfl rfl Try.func32 (by kernel_rfl) rfl #[.int .u32 a0] rfl (by (try simp only [List.map_toArray, List.map_cons, List.map_nil]); first | done | rfl | (simp only [List.length_drop, List.length_take]; rfl)) ?_; (with_reducible refine (heraldref03_raw.calls a0 t132 t133 t134 t135 _ A3.out).mono ?_); rintro e w' ⟨rfl, ⟨nd, rfl⟩⟩; refine ⟨_, rfl, ?_⟩) | ((with_reducible refine gate_callee (f := 32) rfl ?_); refine goesL_ (some 23) rfl rfl Try.func32 (by kernel_rfl) rfl #[.int .u32 a1] rfl (by (try simp only [List.map_toArray, List.map_cons, List.map_nil]); first | done | rfl | (simp only [List.length_drop, List.length_take]; rfl)) ?_; (with_reducible refine (heraldref03_raw.calls a1 t136 t137 t138 t139 _ A4.out).mono ?_); rintro e w' ⟨rfl, ⟨nd, rfl⟩⟩; refine ⟨_, rfl, ?_⟩))
  (try simp only [Act.put, List.setIfInBounds_toArray, List.set_cons_zero, List.set_cons_succ])
  go_cut [13] (fun v13 wc => ∃ (kq : Nat) (x13_4 : Bool), v13 = .bool x13_4 ∧ Aside0 (heraldref03_Mul.j0 kq t132 t133 t134 t135 t136 t137 t138 t139 x13_4 = some r) ∧ Aside0 (kq ≤ k) ∧ Drawn0 w wc)
  case first =>
    have H := HC5.out
    clear HC5
    by_cases c6 : t132 = 0
    · rw [if_pos c6] at H
      have c6b0 : (t132 == 0) = true := beq_iff_eq.mpr c6
      have c6b1 : (t132 != 0) = false := bne_eq_false_iff_eq.mpr c6
      clear c6
      (first | rw [c6b0] | (simp only [i64_w, i32_w]; rw [c6b0]) | skip)
      by_cases c7 : t134 = 0
      · rw [if_pos c7] at H
        have c7b0 : (t134 == 0) = true := beq_iff_eq.mpr c7
        have c7b1 : (t134 != 0) = false := bne_eq_false_iff_eq.mpr c7
        clear c7
        have H' := Aside0.mk H
        clear H
        go_wp2
        go_meet
        case rel => exact ⟨_, (true), (by first | rfl | (simp; done) | (simp [*]; done) | (simp [i64_w]; done) | (simp [*, i64_w]; done)), H', ⟨by first | omega | exact Nat.le_refl _⟩, by repeat (first | exact Drawn0.refl _ | apply Drawn0.step)⟩
      · rw [if_neg c7] at H
        have c7b0 : (t134 == 0) = false := beq_eq_false_iff_ne.mpr c7
        have c7b1 : (t134 != 0) = true := bne_iff_ne.mpr c7
        by_cases c8 : t136 = 0
        · rw [if_pos c8] at H
          have c8b0 : (t136 == 0) = true := beq_iff_eq.mpr c8
          have c8b1 : (t136 != 0) = false := bne_eq_false_iff_eq.mpr c8
          clear c8
          have H' := Aside0.mk H
          clear H
          go_wp2
          go_meet
          case rel => exact ⟨_, ((t138 == 0)), (by first | rfl | (simp; done) | (simp [*]; done) | (simp [i64_w]; done) | (simp [*, i64_w]; done)), H', ⟨by first | omega | exact Nat.le_refl _⟩, by repeat (first | exact Drawn0.refl _ | apply Drawn0.step)⟩
        · rw [if_neg c8] at H
          have c8b0 : (t136 == 0) = false := beq_eq_false_iff_ne.mpr c8
          have c8b1 : (t136 != 0) = true := bne_iff_ne.mpr c8
          have H' := Aside0.mk H
          clear H
          go_wp2
          go_meet
          case rel => exact ⟨_, (false), (by first | rfl | (simp; done) | (simp [*]; done) | (simp [i64_w]; done) | (simp [*, i64_w]; done)), H', ⟨by first | omega | exact Nat.le_refl _⟩, by repeat (first | exact Drawn0.refl _ | apply Drawn0.step)⟩
    · rw [if_neg c6] at H
      have c6b0 : (t132 == 0) = false := beq_eq_false_iff_ne.mpr c6
      have c6b1 : (t132 != 0) = true := bne_iff_ne.mpr c6
      (first | rw [c6b0] | (simp only [i64_w, i32_w]; rw [c6b0]) | skip)
      by_cases c9 : t136 = 0
      · rw [if_pos c9] at H
        have c9b0 : (t136 == 0) = true := beq_iff_eq.mpr c9
        have c9b1 : (t136 != 0) = false := bne_eq_false_iff_eq.mpr c9
        clear c9
        have H' := Aside0.mk H
        clear H
        go_wp2
        go_meet
        case rel => exact ⟨_, ((t138 == 0)), (by first | rfl | (simp; done) | (simp [*]; done) | (simp [i64_w]; done) | (simp [*, i64_w]; done)), H', ⟨by first | omega | exact Nat.le_refl _⟩, by repeat (first | exact Drawn0.refl _ | apply Drawn0.step)⟩
      · rw [if_neg c9] at H
        have c9b0 : (t136 == 0) = false := beq_eq_false_iff_ne.mpr c9
        have c9b1 : (t136 != 0) = true := bne_iff_ne.mpr c9
        have H' := Aside0.mk H
        clear H
        go_wp2
        go_meet
        case rel => exact ⟨_, (false), (by first | rfl | (simp; done) | (simp [*]; done) | (simp [i64_w]; done) | (simp [*, i64_w]; done)), H', ⟨by first | omega | exact Nat.le_refl _⟩, by repeat (first | exact Drawn0.refl _ | apply Drawn0.step)⟩
  case rest =>
    clear HC5
    try clear c1
    try clear p2
    try clear c3
    try clear c6
    try clear c6b0
    try clear c6b1
    try clear c7
    try clear c7b0
    try clear c7b1
    try clear c8
    try clear c8b0
    try clear c8b1
    try clear c9
    try clear c9b0
    try clear c9b1
    obtain ⟨kq, x13_4, rfl, HA, HJ4, ⟨mc4, rfl⟩⟩ := hcut
    cases kq with
    | zero => exact absurd HA.out (by simp [heraldref03_Mul.j0])
    | succ kj4 =>
      have H := HA.out
      clear HA
      simp only [heraldref03_Mul.j0] at H
      have HC10 := Aside0.mk H
      clear H
      go_upto_region 4 with (fail)
      go_cut [58] (fun v58 wc => ∃ (kq : Nat) (x58_9 : Bool), v58 = .bool x58_9 ∧ Aside0 (heraldref03_Mul.j1 kq t132 t133 t134 t135 t136 t137 t138 t139 x58_9 = some r) ∧ Aside0 (kq ≤ kj4) ∧ Drawn0 w wc)
      case first =>
        have H := HC10.out
        clear HC10
        by_cases c11 : t132 = 2
        · rw [if_pos c11] at H
          have c11b0 : (t132 == 2) = true := beq_iff_eq.mpr c11
          have c11b1 : (t132 != 2) = false := bne_eq_false_iff_eq.mpr c11
          clear c11
          (first | rw [c11b0] | (simp only [i64_w, i32_w]; rw [c11b0]) | skip)
          have H' := Aside0.mk H
          clear H
          go_wp2
          go_meet
          case rel => exact ⟨_, (true), (by first | rfl | (simp; done) | (simp [*]; done) | (simp [i64_w]; done) | (simp [*, i64_w]; done)), H', ⟨by have := HJ4.out; first | omega | exact Nat.le_refl _⟩, by repeat (first | exact Drawn0.refl _ | apply Drawn0.step)⟩
        · rw [if_neg c11] at H
          have c11b0 : (t132 == 2) = false := beq_eq_false_iff_ne.mpr c11
          have c11b1 : (t132 != 2) = true := bne_iff_ne.mpr c11
          (first | rw [c11b0] | (simp only [i64_w, i32_w]; rw [c11b0]) | skip)
          by_cases c12 : t136 = 2
          · rw [if_pos c12] at H
            have c12b0 : (t136 == 2) = true := beq_iff_eq.mpr c12
            have c12b1 : (t136 != 2) = false := bne_eq_false_iff_eq.mpr c12
            clear c12
            have H' := Aside0.mk H
            clear H
            go_wp2
            go_meet
            case rel => exact ⟨_, (true), (by first | rfl | (simp; done) | (simp [*]; done) | (simp [i64_w]; done) | (simp [*, i64_w]; done)), H', ⟨by have := HJ4.out; first | omega | exact Nat.le_refl _⟩, by repeat (first | exact Drawn0.refl _ | apply Drawn0.step)⟩
          · rw [if_neg c12] at H
            have c12b0 : (t136 == 2) = false := beq_eq_false_iff_ne.mpr c12
            have c12b1 : (t136 != 2) = true := bne_iff_ne.mpr c12
            by_cases c13 : x13_4 = true
            · subst c13
              have H1 : (if t132 = 1 then (heraldref03_Mul.j1 kj4 t132 t133 t134 t135 t136 t137 t138 t139 true) else (heraldref03_Mul.j1 kj4 t132 t133 t134 t135 t136 t137 t138 t139 (t136 == 1))) = some r := by rw [if_pos rfl] at H; exact H
              clear H
              have H := H1
              clear H1
              by_cases c14 : t132 = 1
              · rw [if_pos c14] at H
                have c14b0 : (t132 == 1) = true := beq_iff_eq.mpr c14
                have c14b1 : (t132 != 1) = false := bne_eq_false_iff_eq.mpr c14
                clear c14
                have H' := Aside0.mk H
                clear H
                go_wp2
                go_meet
                case rel => exact ⟨_, (true), (by first | rfl | (simp; done) | (simp [*]; done) | (simp [i64_w]; done) | (simp [*, i64_w]; done)), H', ⟨by have := HJ4.out; first | omega | exact Nat.le_refl _⟩, by repeat (first | exact Drawn0.refl _ | apply Drawn0.step)⟩
              · rw [if_neg c14] at H
                have c14b0 : (t132 == 1) = false := beq_eq_false_iff_ne.mpr c14
                have c14b1 : (t132 != 1) = true := bne_iff_ne.mpr c14
                have H' := Aside0.mk H
                clear H
                go_wp2
                go_meet
                case rel => exact ⟨_, ((t136 == 1)), (by first | rfl | (simp; done) | (simp [*]; done) | (simp [i64_w]; done) | (simp [*, i64_w]; done)), H', ⟨by have := HJ4.out; first | omega | exact Nat.le_refl _⟩, by repeat (first | exact Drawn0.refl _ | apply Drawn0.step)⟩
            · replace c13 := Bool.eq_false_iff.mpr c13
              subst c13
              have H1 : (heraldref03_Mul.j1 kj4 t132 t133 t134 t135 t136 t137 t138 t139 false) = some r := by rw [if_neg (show ¬ (false = true) by decide)] at H; exact H
              clear H
              have H := H1
              clear H1
              have H' := Aside0.mk H
              clear H
              go_wp2
              go_meet
              case rel => exact ⟨_, (false), (by first | rfl | (simp; done) | (simp [*]; done) | (simp [i64_w]; done) | (simp [*, i64_w]; done)), H', ⟨by have := HJ4.out; first | omega | exact Nat.le_refl _⟩, by repeat (first | exact Drawn0.refl _ | apply Drawn0.step)⟩
      case rest =>
        clear HC10
        try clear c1
        try clear p2
        try clear c3
        try clear c4
        try clear c6
        try clear c6b0
        try clear c6b1
        try clear c7
        try clear c7b0
        try clear c7b1
        try clear c8
        try clear c8b0
        try clear c8b1
        try clear c9
        try clear c9b0
        try clear c9b1
        try clear c11
        try clear c11b0
        try clear c11b1
        try clear c12
        try clear c12b0
        try clear c12b1
        try clear c13
        try clear c14
        try clear c14b0
        try clear c14b1
        try clear p2
        obtain ⟨kq, x58_9, rfl, HA, HJ9, ⟨mc9, rfl⟩⟩ := hcut
        cases kq with
        | zero => exact absurd HA.out (by simp [heraldref03_Mul.j1])
        | succ kj9 =>
          have H := HA.out
          clear HA
          simp only [heraldref03_Mul.j1] at H
          by_cases c15 : x58_9 = true
          · subst c15
            have H1 : (some 2143289344) = some r := by rw [if_pos rfl] at H; exact H
            clear H
            have H := H1
            clear H1
            obtain rfl := Option.some.inj H
            go_wp2
            go_ret
            exact ⟨by first | rfl | (simp; done) | (simp [*]; done), by repeat (first | exact Drawn0.refl _ | apply Drawn0.step)⟩
          · replace c15 := Bool.eq_false_iff.mpr c15
            subst c15
            have H1 : (if t132 = 1 then (heraldref03_Mul.j2 kj9 t133 t134 t135 t137 t138 t139 true) else (heraldref03_Mul.j2 kj9 t133 t134 t135 t137 t138 t139 (t136 == 1))) = some r := by rw [if_neg (show ¬ (false = true) by decide)] at H; exact H
            clear H
            have H := H1
            clear H1
            have HC16 := Aside0.mk H
            clear H
            go_upto_region 6 with (fail)
            go_cut [64] (fun v64 wc => ∃ (kq : Nat) (x64_15 : Bool), v64 = .bool x64_15 ∧ Aside0 (heraldref03_Mul.j2 kq t133 t134 t135 t137 t138 t139 x64_15 = some r) ∧ Aside0 (kq ≤ kj9) ∧ Drawn0 w wc)
            case first =>
              have H := HC16.out
              clear HC16
              by_cases c17 : t132 = 1
              · rw [if_pos c17] at H
                have c17b0 : (t132 == 1) = true := beq_iff_eq.mpr c17
                have c17b1 : (t132 != 1) = false := bne_eq_false_iff_eq.mpr c17
                clear c17
                (first | rw [c17b0] | (simp only [i64_w, i32_w]; rw [c17b0]) | skip)
                have H' := Aside0.mk H
                clear H
                go_wp2
                go_meet
                case rel => exact ⟨_, (true), (by first | rfl | (simp; done) | (simp [*]; done) | (simp [i64_w]; done) | (simp [*, i64_w]; done)), H', ⟨by have := HJ4.out; have := HJ9.out; first | omega | exact Nat.le_refl _⟩, by repeat (first | exact Drawn0.refl _ | apply Drawn0.step)⟩
              · rw [if_neg c17] at H
                have c17b0 : (t132 == 1) = false := beq_eq_false_iff_ne.mpr c17
                have c17b1 : (t132 != 1) = true := bne_iff_ne.mpr c17
                (first | rw [c17b0] | (simp only [i64_w, i32_w]; rw [c17b0]) | skip)
                have H' := Aside0.mk H
                clear H
                go_wp2
                go_meet
                case rel => exact ⟨_, ((t136 == 1)), (by first | rfl | (simp; done) | (simp [*]; done) | (simp [i64_w]; done) | (simp [*, i64_w]; done)), H', ⟨by have := HJ4.out; have := HJ9.out; first | omega | exact Nat.le_refl _⟩, by repeat (first | exact Drawn0.refl _ | apply Drawn0.step)⟩
            case rest =>
              clear HC16
              try clear c1
              try clear p2
              try clear c3
              try clear c4
              try clear c6
              try clear c6b0
              try clear c6b1
              try clear c7
              try clear c7b0
              try clear c7b1
              try clear c8
              try clear c8b0
              try clear c8b1
              try clear c9
              try clear c9b0
              try clear c9b1
              try clear c11
              try clear c11b0
              try clear c11b1
              try clear c12
              try clear c12b0
              try clear c12b1
              try clear c13
              try clear c14
              try clear c14b0
              try clear c14b1
              try clear c15
              try clear c16
              try clear c17
              try clear c17b0
              try clear c17b1
              try clear p2
              obtain ⟨kq, x64_15, rfl, HA, HJ15, ⟨mc15, rfl⟩⟩ := hcut
              cases kq with
              | zero => exact absurd HA.out (by simp [heraldref03_Mul.j2])
              | succ kj15 =>
                have H := HA.out
                clear HA
                simp only [heraldref03_Mul.j2] at H
                by_cases c18 : x64_15 = true
                · subst c18
                  have H1 : (if (t133 != t137) = true then (some 4286578688) else (some 2139095040)) = some r := by rw [if_pos rfl] at H; exact H
                  clear H
                  have H := H1
                  clear H1
                  by_cases c19 : (t133 != t137) = true
                  · rw [if_pos c19] at H
                    have c19b0 : (t133 != t137) = true := c19
                    (try (have c19b1 : decide (t133 = t137) = false := by simpa using c19))
                    (try (have c19b2 : (t133 == t137) = false := by simpa using c19))
                    (try (have c19b3 : ¬ (t133 = t137) := by simpa using c19))
                    clear c19
                    obtain rfl := Option.some.inj H
                    go_wp2
                    go_ret
                    exact ⟨by first | rfl | (simp; done) | (simp [*]; done), by repeat (first | exact Drawn0.refl _ | apply Drawn0.step)⟩
                  · rw [if_neg c19] at H
                    have c19b0 : (t133 != t137) = false := by simpa using c19
                    (try (have c19b1 : decide (t133 = t137) = true := by simpa using c19))
                    (try (have c19b2 : (t133 == t137) = true := by simpa using c19))
                    clear c19
                    obtain rfl := Option.some.inj H
                    go_wp2
                    go_ret
                    exact ⟨by first | rfl | (simp; done) | (simp [*]; done), by repeat (first | exact Drawn0.refl _ | apply Drawn0.step)⟩
                · replace c18 := Bool.eq_false_iff.mpr c18
                  subst c18
                  have H1 : ((heraldref03_near.f kj15 (t133 != t137) (IntKind.u64.wrap ((IntKind.u64.wrap (t134)) * (IntKind.u64.wrap (t138)))) (wrap64 (t135 + t139))).bind fun t140 => (some t140)) = some r := by rw [if_neg (show ¬ (false = true) by decide)] at H; exact H
                  clear H
                  have H := H1
                  clear H1
                  replace H := Option.bind_eq_some_iff.mp H
                  obtain ⟨t140, A200, H⟩ := H
                  replace H : (some t140) = some r := H
                  have A20 := Aside0.mk A200
                  clear A200
                  obtain rfl := Option.some.inj H
                  go_wp2_with (first | ((with_reducible refine gate_callee (f := 29) rfl ?_); refine goesL_ (some 79) rfl rfl Try.func29 (by kernel_rfl) rfl #[.bool (t133 != t137), .int .u64 (IntKind.u64.wrap ((IntKind.u64.wrap (t134)) * (IntKind.u64.wrap (t138)))), .int .i64 (wrap64 (t135 + t139))] rfl (by (try simp only [List.map_toArray, List.map_cons, List.map_nil]); first | done | rfl | (simp only [List.length_drop, List.length_take]; rfl)) ?_; (with_reducible refine (heraldref03_near.calls kj15 (t133 != t137) (IntKind.u64.wrap ((IntKind.u64.wrap (t134)) * (IntKind.u64.wrap (t138)))) (wrap64 (t135 + t139)) t140 _ A20.out).mono ?_); rintro e w' ⟨rfl, ⟨nd, rfl⟩⟩; refine ⟨_, rfl, ?_⟩))
                  go_ret
                  exact ⟨by first | rfl | (simp; done) | (simp [*]; done), by repeat (first | exact Drawn0.refl _ | apply Drawn0.step)⟩

end Go.Proofs.Yteecekhfpfnepaa.PAll
