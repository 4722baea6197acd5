-- Written by a program of this session out of the translation. Lean checks it.
import Derived.Test.YteecekhfpfnepaaPAllx0
import Derived.Test.YteecekhfpfnepaaPAllx4
import Derived.Test.YteecekhfpfnepaaPAllx6
import Derived.Test.YteecekhfpfnepaaHRaw
namespace Go.Proofs.Yteecekhfpfnepaa.PAll
open Go.RowKit Go.Proofs.YteecekhfpfnepaaW.PrintWords Go.Proofs.YteecekhfpfnepaaW.PrintLast Go.Proofs.YteecekhfpfnepaaW.PrintMore
attribute [local go_sem] max2_int min2_int max_two min_two max_three min_three max_four min_four   -- for this text's walks alone
set_option linter.unusedVariables false
set_option linter.unusedSimpArgs false

/-! ### heraldref03_Add: function 14 -/
mutual
def heraldref03_Add.j0 : Nat → Int → Int → Int → Bool → Int → Int → Int → Bool → Int → Int → Bool → Option (Int)
  | 0, _, _, _, _, _, _, _, _, _, _, _ => none
  | k + 1, x0, x1, x5, x6, x7, x8, x9, x10, x11, x12, x48 => if x48 = true then (some 2143289344) else (if x5 = 1 then (some x0) else (if x9 = 1 then (some x1) else (if x7 = 0 then (heraldref03_Add.j1 k x0 x1 x6 x7 x8 x10 x11 x12 (x11 == 0)) else (heraldref03_Add.j1 k x0 x1 x6 x7 x8 x10 x11 x12 false))))
def heraldref03_Add.j1 : Nat → Int → Int → Bool → Int → Int → Bool → Int → Int → Bool → Option (Int)
  | 0, _, _, _, _, _, _, _, _, _ => none
  | k + 1, x0, x1, x6, x7, x8, x10, x11, x12, x60 => if x60 = true then (if x6 = true then (if x10 = true then (some 2147483648) else (some 0)) else (some 0)) else (if x7 = 0 then (some x1) else (if x11 = 0 then (some x0) else ((heraldref03_ahead.f k x7 x8 x11 x12).bind fun t124 => (if t124 < 0 then (heraldref03_Add.j2 k x10 x11 x12 x6 x7 x8) else (heraldref03_Add.j2 k x6 x7 x8 x10 x11 x12)))))
def heraldref03_Add.j2 : Nat → Bool → Int → Int → Bool → Int → Int → Option (Int)
  | 0, _, _, _, _, _, _ => none
  | k + 1, x6, x7, x8, x10, x11, x12 => if (wrap64 (x8 - x12)) ≤ 33 then (if 0 ≤ (IntKind.u64.wrap (wrap64 (33 - (wrap64 (x8 - x12))))) then (heraldref03_Add.j3 k x6 x8 x10 (IntKind.u64.wrap ((IntKind.u64.wrap (x7)) * 8589934592)) (shl .u64 (IntKind.u64.wrap (x11)) (IntKind.u64.wrap (wrap64 (33 - (wrap64 (x8 - x12))))))) else (none)) else (if (wrap64 (x8 - x12)) < 64 then (if 0 ≤ (IntKind.u64.wrap (wrap64 ((wrap64 (x8 - x12)) - 33))) then (if (shl .u64 (shr .u64 (IntKind.u64.wrap (x11)) (IntKind.u64.wrap (wrap64 ((wrap64 (x8 - x12)) - 33)))) (IntKind.u64.wrap (wrap64 ((wrap64 (x8 - x12)) - 33)))) = (IntKind.u64.wrap (x11)) then (heraldref03_Add.j3 k x6 x8 x10 (IntKind.u64.wrap ((IntKind.u64.wrap (x7)) * 8589934592)) (shr .u64 (IntKind.u64.wrap (x11)) (IntKind.u64.wrap (wrap64 ((wrap64 (x8 - x12)) - 33))))) else (heraldref03_Add.j3 k x6 x8 x10 (IntKind.u64.wrap ((IntKind.u64.wrap (x7)) * 8589934592)) (Go.bits .or .u64 (shr .u64 (IntKind.u64.wrap (x11)) (IntKind.u64.wrap (wrap64 ((wrap64 (x8 - x12)) - 33)))) 1))) else (none)) else (heraldref03_Add.j3 k x6 x8 x10 (IntKind.u64.wrap ((IntKind.u64.wrap (x7)) * 8589934592)) 1))
def heraldref03_Add.j3 : Nat → Bool → Int → Bool → Int → Int → Option (Int)
  | 0, _, _, _, _, _ => none
  | k + 1, x6, x8, x10, x13, x14 => if (x6 == x10) = true then ((heraldref03_near.f k x6 (IntKind.u64.wrap (x13 + x14)) (wrap64 (x8 - 33))).bind fun t125 => (some t125)) else (if x13 = x14 then (some 0) else ((heraldref03_near.f k x6 (IntKind.u64.wrap (x13 - x14)) (wrap64 (x8 - 33))).bind fun t126 => (some t126)))
end
def heraldref03_Add.f (k : Nat) (a0 : Int) (a1 : Int) : Option (Int) := (heraldref03_raw.f a0).bind fun bt116 => ((heraldref03_raw.f a1).bind fun bt120 => (if bt116.1 = 2 then (heraldref03_Add.j0 k a0 a1 bt116.1 bt116.2.1 bt116.2.2.1 bt116.2.2.2 bt120.1 bt120.2.1 bt120.2.2.1 bt120.2.2.2 true) else (if bt120.1 = 2 then (heraldref03_Add.j0 k a0 a1 bt116.1 bt116.2.1 bt116.2.2.1 bt116.2.2.2 bt120.1 bt120.2.1 bt120.2.2.1 bt120.2.2.2 true) else (if bt116.1 = 1 then (if bt120.1 = 1 then (heraldref03_Add.j0 k a0 a1 bt116.1 bt116.2.1 bt116.2.2.1 bt116.2.2.2 bt120.1 bt120.2.1 bt120.2.2.1 bt120.2.2.2 (bt116.2.1 != bt120.2.1)) else (heraldref03_Add.j0 k a0 a1 bt116.1 bt116.2.1 bt116.2.2.1 bt116.2.2.2 bt120.1 bt120.2.1 bt120.2.2.1 bt120.2.2.2 false)) else (heraldref03_Add.j0 k a0 a1 bt116.1 bt116.2.1 bt116.2.2.1 bt116.2.2.2 bt120.1 bt120.2.1 bt120.2.2.1 bt120.2.2.2 false)))))
theorem heraldref03_Add.mono_l : ∀ k, (∀ y0 y1 y2 y3 y4 y5 y6 y7 y8 y9 y10, LeO (heraldref03_Add.j0 k y0 y1 y2 y3 y4 y5 y6 y7 y8 y9 y10) (heraldref03_Add.j0 (k + 1) y0 y1 y2 y3 y4 y5 y6 y7 y8 y9 y10)) ∧ (∀ y0 y1 y2 y3 y4 y5 y6 y7 y8, LeO (heraldref03_Add.j1 k y0 y1 y2 y3 y4 y5 y6 y7 y8) (heraldref03_Add.j1 (k + 1) y0 y1 y2 y3 y4 y5 y6 y7 y8)) ∧ (∀ y0 y1 y2 y3 y4 y5, LeO (heraldref03_Add.j2 k y0 y1 y2 y3 y4 y5) (heraldref03_Add.j2 (k + 1) y0 y1 y2 y3 y4 y5)) ∧ (∀ y0 y1 y2 y3 y4, LeO (heraldref03_Add.j3 k y0 y1 y2 y3 y4) (heraldref03_Add.j3 (k + 1) y0 y1 y2 y3 y4))
  | 0 => ⟨fun _ _ _ _ _ _ _ _ _ _ _ r h => by simp [heraldref03_Add.j0] at h, fun _ _ _ _ _ _ _ _ _ r h => by simp [heraldref03_Add.j1] at h, fun _ _ _ _ _ _ r h => by simp [heraldref03_Add.j2] at h, fun _ _ _ _ _ r h => by simp [heraldref03_Add.j3] at h⟩
  | k + 1 => by
    obtain ⟨ih0, ih1, ih2, ih3⟩ := heraldref03_Add.mono_l k
    refine ⟨?_, ?_, ?_, ?_⟩
    · intro y0 y1 y2 y3 y4 y5 y6 y7 y8 y9 y10
      unfold heraldref03_Add.j0
      repeat' first
      | (with_reducible exact ih0 _ _ _ _ _ _ _ _ _ _ _)
      | (with_reducible exact ih1 _ _ _ _ _ _ _ _ _)
      | (with_reducible exact ih2 _ _ _ _ _ _)
      | (with_reducible exact ih3 _ _ _ _ _)
      | (with_reducible exact heraldref03_ahead.mono _ _ _ _ _)
      | (with_reducible exact heraldref03_near.mono _ _ _ _)
      | (with_reducible exact LeO.refl _)
      | (with_reducible exact LeO.none _)
      | (with_reducible refine LeO.ite ?_ ?_)
      | (with_reducible refine LeO.bind ?_ (fun _ => ?_))
      | exact ih0 _ _ _ _ _ _ _ _ _ _ _
      | exact ih1 _ _ _ _ _ _ _ _ _
      | exact ih2 _ _ _ _ _ _
      | exact ih3 _ _ _ _ _
      | exact heraldref03_ahead.mono _ _ _ _ _
      | exact heraldref03_near.mono _ _ _ _
      | exact LeO.none _
      | refine LeO.ite ?_ ?_
      | refine LeO.bind ?_ (fun _ => ?_)
    · intro y0 y1 y2 y3 y4 y5 y6 y7 y8
      unfold heraldref03_Add.j1
      repeat' first
      | (with_reducible exact ih0 _ _ _ _ _ _ _ _ _ _ _)
      | (with_reducible exact ih1 _ _ _ _ _ _ _ _ _)
      | (with_reducible exact ih2 _ _ _ _ _ _)
      | (with_reducible exact ih3 _ _ _ _ _)
      | (with_reducible exact heraldref03_ahead.mono _ _ _ _ _)
      | (with_reducible exact heraldref03_near.mono _ _ _ _)
      | (with_reducible exact LeO.refl _)
      | (with_reducible exact LeO.none _)
      | (with_reducible refine LeO.ite ?_ ?_)
      | (with_reducible refine LeO.bind ?_ (fun _ => ?_))
      | exact ih0 _ _ _ _ _ _ _ _ _ _ _
      | exact ih1 _ _ _ _ _ _ _ _ _
      | exact ih2 _ _ _ _ _ _
      | exact ih3 _ _ _ _ _
      | exact heraldref03_ahead.mono _ _ _ _ _
      | exact heraldref03_near.mono _ _ _ _
      | exact LeO.none _
      | refine LeO.ite ?_ ?_
      | refine LeO.bind ?_ (fun _ => ?_)
    · intro y0 y1 y2 y3 y4 y5
      unfold heraldref03_Add.j2
      repeat' first
      | (with_reducible exact ih0 _ _ _ _ _ _ _ _ _ _ _)
      | (with_reducible exact ih1 _ _ _ _ _ _ _ _ _)
      | (with_reducible exact ih2 _ _ _ _ _ _)
      | (with_reducible exact ih3 _ _ _ _ _)
      | (with_reducible exact heraldref03_ahead.mono _ _ _ _ _)
      | (with_reducible exact heraldref03_near.mono _ _ _ _)
      | (with_reducible exact LeO.refl _)
      | (with_reducible exact LeO.none _)
      | (with_reducible refine LeO.ite ?_ ?_)
      | (with_reducible refine LeO.bind ?_ (fun _ => ?_))
      | exact ih0 _ _ _ _ _ _ _ _ _ _ _
      | exact ih1 _ _ _ _ _ _ _ _ _
      | exact ih2 _ _ _ _ _ _
      | exact ih3 _ _ _ _ _
      | exact heraldref03_ahead.mono _ _ _ _ _
      | exact heraldref03_near.mono _ _ _ _
      | exact LeO.none _
      | refine LeO.ite ?_ ?_
      | refine LeO.bind ?_ (fun _ => ?_)
    · intro y0 y1 y2 y3 y4
      unfold heraldref03_Add.j3
      repeat' first
      | (with_reducible exact ih0 _ _ _ _ _ _ _ _ _ _ _)
      | (with_reducible exact ih1 _ _ _ _ _ _ _ _ _)
      | (with_reducible exact ih2 _ _ _ _ _ _)
      | (with_reducible exact ih3 _ _ _ _ _)
      | (with_reducible exact heraldref03_ahead.mono _ _ _ _ _)
      | (with_reducible exact heraldref03_near.mono _ _ _ _)
      | (with_reducible exact LeO.refl _)
      | (with_reducible exact LeO.none _)
      | (with_reducible refine LeO.ite ?_ ?_)
      | (with_reducible refine LeO.bind ?_ (fun _ => ?_))
      | exact ih0 _ _ _ _ _ _ _ _ _ _ _
      | exact ih1 _ _ _ _ _ _ _ _ _
      | exact ih2 _ _ _ _ _ _
      | exact ih3 _ _ _ _ _
      | exact heraldref03_ahead.mono _ _ _ _ _
      | exact heraldref03_near.mono _ _ _ _
      | exact LeO.none _
      | refine LeO.ite ?_ ?_
      | refine LeO.bind ?_ (fun _ => ?_)
theorem heraldref03_Add.mono : ∀ a0 a1 k, LeO (heraldref03_Add.f k a0 a1) (heraldref03_Add.f (k + 1) a0 a1) := by
  intro a0 a1 k
  obtain ⟨ih0, ih1, ih2, ih3⟩ := heraldref03_Add.mono_l k
  unfold heraldref03_Add.f
  repeat' first
      | (with_reducible exact ih0 _ _ _ _ _ _ _ _ _ _ _)
      | (with_reducible exact ih1 _ _ _ _ _ _ _ _ _)
      | (with_reducible exact ih2 _ _ _ _ _ _)
      | (with_reducible exact ih3 _ _ _ _ _)
      | (with_reducible exact heraldref03_ahead.mono _ _ _ _ _)
      | (with_reducible exact heraldref03_near.mono _ _ _ _)
      | (with_reducible exact LeO.refl _)
      | (with_reducible exact LeO.none _)
      | (with_reducible refine LeO.ite ?_ ?_)
      | (with_reducible refine LeO.bind ?_ (fun _ => ?_))
      | exact ih0 _ _ _ _ _ _ _ _ _ _ _
      | exact ih1 _ _ _ _ _ _ _ _ _
      | exact ih2 _ _ _ _ _ _
      | exact ih3 _ _ _ _ _
      | exact heraldref03_ahead.mono _ _ _ _ _
      | exact heraldref03_near.mono _ _ _ _
      | exact LeO.none _
      | refine LeO.ite ?_ ?_
      | refine LeO.bind ?_ (fun _ => ?_)
set_option maxHeartbeats 8000000 in
set_option maxRecDepth 100000 in
theorem heraldref03_Add.calls (k : Nat) (a0 : Int) (a1 : Int) (r : Int) (w : World) (h : heraldref03_Add.f k a0 a1 = some r) :
    Calls Try.prog 14 #[.int .u32 a0, .int .u32 a1] w fun e w' => e = .returned (.int .u32 r) ∧ Drawn0 w w' := by
  have H : ((heraldref03_raw.f a0).bind fun bt116 => ((heraldref03_raw.f a1).bind fun bt120 => (if bt116.1 = 2 then (heraldref03_Add.j0 k a0 a1 bt116.1 bt116.2.1 bt116.2.2.1 bt116.2.2.2 bt120.1 bt120.2.1 bt120.2.2.1 bt120.2.2.2 true) else (if bt120.1 = 2 then (heraldref03_Add.j0 k a0 a1 bt116.1 bt116.2.1 bt116.2.2.1 bt116.2.2.2 bt120.1 bt120.2.1 bt120.2.2.1 bt120.2.2.2 true) else (if bt116.1 = 1 then (if bt120.1 = 1 then (heraldref03_Add.j0 k a0 a1 bt116.1 bt116.2.1 bt116.2.2.1 bt116.2.2.2 bt120.1 bt120.2.1 bt120.2.2.1 bt120.2.2.2 (bt116.2.1 != bt120.2.1)) else (heraldref03_Add.j0 k a0 a1 bt116.1 bt116.2.1 bt116.2.2.1 bt116.2.2.2 bt120.1 bt120.2.1 bt120.2.2.1 bt120.2.2.2 false)) else (heraldref03_Add.j0 k a0 a1 bt116.1 bt116.2.1 bt116.2.2.1 bt116.2.2.2 bt120.1 bt120.2.1 bt120.2.2.1 bt120.2.2.2 false)))))) = some r := h
  clear h
  replace H := Option.bind_eq_some_iff.mp H
  obtain ⟨⟨t116, t117, t118, t119⟩, A30, H⟩ := H
  replace H : ((heraldref03_raw.f a1).bind fun bt120 => (if t116 = 2 then (heraldref03_Add.j0 k a0 a1 t116 t117 t118 t119 bt120.1 bt120.2.1 bt120.2.2.1 bt120.2.2.2 true) else (if bt120.1 = 2 then (heraldref03_Add.j0 k a0 a1 t116 t117 t118 t119 bt120.1 bt120.2.1 bt120.2.2.1 bt120.2.2.2 true) else (if t116 = 1 then (if bt120.1 = 1 then (heraldref03_Add.j0 k a0 a1 t116 t117 t118 t119 bt120.1 bt120.2.1 bt120.2.2.1 bt120.2.2.2 (t117 != bt120.2.1)) else (heraldref03_Add.j0 k a0 a1 t116 t117 t118 t119 bt120.1 bt120.2.1 bt120.2.2.1 bt120.2.2.2 false)) else (heraldref03_Add.j0 k a0 a1 t116 t117 t118 t119 bt120.1 bt120.2.1 bt120.2.2.1 bt120.2.2.2 false))))) = some r := H
  have A3 := Aside0.mk A30
  clear A30
  replace H := Option.bind_eq_some_iff.mp H
  obtain ⟨⟨t120, t121, t122, t123⟩, A40, H⟩ := H
  replace H : (if t116 = 2 then (heraldref03_Add.j0 k a0 a1 t116 t117 t118 t119 t120 t121 t122 t123 true) else (if t120 = 2 then (heraldref03_Add.j0 k a0 a1 t116 t117 t118 t119 t120 t121 t122 t123 true) else (if t116 = 1 then (if t120 = 1 then (heraldref03_Add.j0 k a0 a1 t116 t117 t118 t119 t120 t121 t122 t123 (t117 != t121)) else (heraldref03_Add.j0 k a0 a1 t116 t117 t118 t119 t120 t121 t122 t123 false)) else (heraldref03_Add.j0 k a0 a1 t116 t117 t118 t119 t120 t121 t122 t123 false)))) = some r := H
  have A4 := Aside0.mk A40
  clear A40
  have HC5 := Aside0.mk H
  clear H
  go_enter Try.func14, Try.ntmps14
  go_upto_region 3 with (first | ((with_reducible refine gate_callee (f := 32) rfl ?_); refine goesL_ (some 18) rfl rfl Try.func32 (by kernel_rfl) rfl #[.int .u32 a0] rfl (by (try simp only [List.map_toArray, List.map_cons, List.map_nil]); first | done | rfl | (simp only [List.length_drop, List.length_take]; rfl)) ?_; (with_reducible refine (heraldref03_raw.calls a0 t116 t117 t118 t119 _ A3.out).mono ?_); rintro e w' ⟨rfl, ⟨nd, rfl⟩⟩; refine ⟨_, rfl, ?_⟩) | ((with_reducible refine gate_callee (f := 32) rfl ?_); refine goesL_ (some 25) rfl rfl Try.func32 (by kernel_rfl) rfl #[.int .u32 a1] rfl (by (try simp only [List.map_toArray, List.map_cons, List.map_nil]); first | done | rfl | (simp only [List.length_drop, List.length_take]; rfl)) ?_; (with_reducible refine (heraldref03_raw.calls a1 t120 t121 t122 t123 _ A4.out).mono ?_); rintro e w' ⟨rfl, ⟨nd, rfl⟩⟩; refine ⟨_, rfl, ?_⟩))
  (try simp only [Act.put, List.setIfInBounds_toArray, List.set_cons_zero, List.set_cons_succ])
  go_cut [48] (fun v48 wc => ∃ (kq : Nat) (x48_4 : Bool), v48 = .bool x48_4 ∧ Aside0 (heraldref03_Add.j0 kq a0 a1 t116 t117 t118 t119 t120 t121 t122 t123 x48_4 = some r) ∧ Aside0 (kq ≤ k) ∧ Drawn0 w wc)
  case first =>
    have H := HC5.out
    clear HC5
    by_cases c6 : t116 = 2
    · rw [if_pos c6] at H
      have c6b0 : (t116 == 2) = true := beq_iff_eq.mpr c6
      have c6b1 : (t116 != 2) = false := bne_eq_false_iff_eq.mpr c6
      clear c6
      (first | rw [c6b0] | (simp only [i64_w, i32_w]; rw [c6b0]) | skip)
      have H' := Aside0.mk H
      clear H
      go_wp2
      go_meet
      case rel => exact ⟨_, (true), (by first | rfl | (simp; done) | (simp [*]; done) | (simp [i64_w]; done) | (simp [*, i64_w]; done)), H', ⟨by first | omega | exact Nat.le_refl _⟩, by repeat (first | exact Drawn0.refl _ | apply Drawn0.step)⟩
    · rw [if_neg c6] at H
      have c6b0 : (t116 == 2) = false := beq_eq_false_iff_ne.mpr c6
      have c6b1 : (t116 != 2) = true := bne_iff_ne.mpr c6
      (first | rw [c6b0] | (simp only [i64_w, i32_w]; rw [c6b0]) | skip)
      by_cases c7 : t120 = 2
      · rw [if_pos c7] at H
        have c7b0 : (t120 == 2) = true := beq_iff_eq.mpr c7
        have c7b1 : (t120 != 2) = false := bne_eq_false_iff_eq.mpr c7
        clear c7
        have H' := Aside0.mk H
        clear H
        go_wp2
        go_meet
        case rel => exact ⟨_, (true), (by first | rfl | (simp; done) | (simp [*]; done) | (simp [i64_w]; done) | (simp [*, i64_w]; done)), H', ⟨by first | omega | exact Nat.le_refl _⟩, by repeat (first | exact Drawn0.refl _ | apply Drawn0.step)⟩
      · rw [if_neg c7] at H
        have c7b0 : (t120 == 2) = false := beq_eq_false_iff_ne.mpr c7
        have c7b1 : (t120 != 2) = true := bne_iff_ne.mpr c7
        by_cases c8 : t116 = 1
        · rw [if_pos c8] at H
          have c8b0 : (t116 == 1) = true := beq_iff_eq.mpr c8
          have c8b1 : (t116 != 1) = false := bne_eq_false_iff_eq.mpr c8
          clear c8
          by_cases c9 : t120 = 1
          · rw [if_pos c9] at H
            have c9b0 : (t120 == 1) = true := beq_iff_eq.mpr c9
            have c9b1 : (t120 != 1) = false := bne_eq_false_iff_eq.mpr c9
            clear c9
            have H' := Aside0.mk H
            clear H
            go_wp2
            go_meet
            case rel => exact ⟨_, ((t117 != t121)), (by first | rfl | (simp; done) | (simp [*]; done) | (simp [i64_w]; done) | (simp [*, i64_w]; done)), H', ⟨by first | omega | exact Nat.le_refl _⟩, by repeat (first | exact Drawn0.refl _ | apply Drawn0.step)⟩
          · rw [if_neg c9] at H
            have c9b0 : (t120 == 1) = false := beq_eq_false_iff_ne.mpr c9
            have c9b1 : (t120 != 1) = true := bne_iff_ne.mpr c9
            have H' := Aside0.mk H
            clear H
            go_wp2
            go_meet
            case rel => exact ⟨_, (false), (by first | rfl | (simp; done) | (simp [*]; done) | (simp [i64_w]; done) | (simp [*, i64_w]; done)), H', ⟨by first | omega | exact Nat.le_refl _⟩, by repeat (first | exact Drawn0.refl _ | apply Drawn0.step)⟩
        · rw [if_neg c8] at H
          have c8b0 : (t116 == 1) = false := beq_eq_false_iff_ne.mpr c8
          have c8b1 : (t116 != 1) = true := bne_iff_ne.mpr c8
          have H' := Aside0.mk H
          clear H
          go_wp2
          go_meet
          case rel => exact ⟨_, (false), (by first | rfl | (simp; done) | (simp [*]; done) | (simp [i64_w]; done) | (simp [*, i64_w]; done)), H', ⟨by first | omega | exact Nat.le_refl _⟩, by repeat (first | exact Drawn0.refl _ | apply Drawn0.step)⟩
  case rest =>
    clear HC5
    try clear c1
    try clear p2
    try clear c3
    try clear c6
    try clear c6b0
    try clear c6b1
    try clear c7
    try clear c7b0
    try clear c7b1
    try clear c8
    try clear c8b0
    try clear c8b1
    try clear c9
    try clear c9b0
    try clear c9b1
    obtain ⟨kq, x48_4, rfl, HA, HJ4, ⟨mc4, rfl⟩⟩ := hcut
    cases kq with
    | zero => exact absurd HA.out (by simp [heraldref03_Add.j0])
    | succ kj4 =>
      have H := HA.out
      clear HA
      simp only [heraldref03_Add.j0] at H
      by_cases c10 : x48_4 = true
      · subst c10
        have H1 : (some 2143289344) = some r := by rw [if_pos rfl] at H; exact H
        clear H
        have H := H1
        clear H1
        obtain rfl := Option.some.inj H
        go_wp2
        go_ret
        exact ⟨by first | rfl | (simp; done) | (simp [*]; done), by repeat (first | exact Drawn0.refl _ | apply Drawn0.step)⟩
      · replace c10 := Bool.eq_false_iff.mpr c10
        subst c10
        have H1 : (if t116 = 1 then (some a0) else (if t120 = 1 then (some a1) else (if t118 = 0 then (heraldref03_Add.j1 kj4 a0 a1 t117 t118 t119 t121 t122 t123 (t122 == 0)) else (heraldref03_Add.j1 kj4 a0 a1 t117 t118 t119 t121 t122 t123 false)))) = some r := by rw [if_neg (show ¬ (false = true) by decide)] at H; exact H
        clear H
        have H := H1
        clear H1
        by_cases c11 : t116 = 1
        · rw [if_pos c11] at H
          have c11b0 : (t116 == 1) = true := beq_iff_eq.mpr c11
          have c11b1 : (t116 != 1) = false := bne_eq_false_iff_eq.mpr c11
          clear c11
          obtain rfl := Option.some.inj H
          go_wp2
          go_ret
          exact ⟨by first | rfl | (simp; done) | (simp [*]; done), by repeat (first | exact Drawn0.refl _ | apply Drawn0.step)⟩
        · rw [if_neg c11] at H
          have c11b0 : (t116 == 1) = false := beq_eq_false_iff_ne.mpr c11
          have c11b1 : (t116 != 1) = true := bne_iff_ne.mpr c11
          by_cases c12 : t120 = 1
          · rw [if_pos c12] at H
            have c12b0 : (t120 == 1) = true := beq_iff_eq.mpr c12
            have c12b1 : (t120 != 1) = false := bne_eq_false_iff_eq.mpr c12
            clear c12
            obtain rfl := Option.some.inj H
            go_wp2
            go_ret
            exact ⟨by first | rfl | (simp; done) | (simp [*]; done), by repeat (first | exact Drawn0.refl _ | apply Drawn0.step)⟩
          · rw [if_neg c12] at H
            have c12b0 : (t120 == 1) = false := beq_eq_false_iff_ne.mpr c12
            have c12b1 : (t120 != 1) = true := bne_iff_ne.mpr c12
            have HC13 := Aside0.mk H
            clear H
            go_upto_region 9 with (fail)
            go_cut [60] (fun v60 wc => ∃ (kq : Nat) (x60_12 : Bool), v60 = .bool x60_12 ∧ Aside0 (heraldref03_Add.j1 kq a0 a1 t117 t118 t119 t121 t122 t123 x60_12 = some r) ∧ Aside0 (kq ≤ kj4) ∧ Drawn0 w wc)
            case first =>
              have H := HC13.out
              clear HC13
              by_cases c14 : t118 = 0
              · rw [if_pos c14] at H
                have c14b0 : (t118 == 0) = true := beq_iff_eq.mpr c14
                have c14b1 : (t118 != 0) = false := bne_eq_false_iff_eq.mpr c14
                clear c14
                (first | rw [c14b0] | (simp only [i64_w, i32_w]; rw [c14b0]) | skip)
                have H' := Aside0.mk H
                clear H
                go_wp2
                go_meet
                case rel => exact ⟨_, ((t122 == 0)), (by first | rfl | (simp; done) | (simp [*]; done) | (simp [i64_w]; done) | (simp [*, i64_w]; done)), H', ⟨by have := HJ4.out; first | omega | exact Nat.le_refl _⟩, by repeat (first | exact Drawn0.refl _ | apply Drawn0.step)⟩
              · rw [if_neg c14] at H
                have c14b0 : (t118 == 0) = false := beq_eq_false_iff_ne.mpr c14
                have c14b1 : (t118 != 0) = true := bne_iff_ne.mpr c14
                (first | rw [c14b0] | (simp only [i64_w, i32_w]; rw [c14b0]) | skip)
                have H' := Aside0.mk H
                clear H
                go_wp2
                go_meet
                case rel => exact ⟨_, (false), (by first | rfl | (simp; done) | (simp [*]; done) | (simp [i64_w]; done) | (simp [*, i64_w]; done)), H', ⟨by have := HJ4.out; first | omega | exact Nat.le_refl _⟩, by repeat (first | exact Drawn0.refl _ | apply Drawn0.step)⟩
            case rest =>
              clear HC13
              try clear c1
              try clear p2
              try clear c3
              try clear c4
              try clear c6
              try clear c6b0
              try clear c6b1
              try clear c7
              try clear c7b0
              try clear c7b1
              try clear c8
              try clear c8b0
              try clear c8b1
              try clear c9
              try clear c9b0
              try clear c9b1
              try clear c10
              try clear c11
              try clear c11b0
              try clear c11b1
              try clear c12
              try clear c12b0
              try clear c12b1
              try clear c14
              try clear c14b0
              try clear c14b1
              try clear p2
              obtain ⟨kq, x60_12, rfl, HA, HJ12, ⟨mc12, rfl⟩⟩ := hcut
              cases kq with
              | zero => exact absurd HA.out (by simp [heraldref03_Add.j1])
              | succ kj12 =>
                have H := HA.out
                clear HA
                simp only [heraldref03_Add.j1] at H
                by_cases c15 : x60_12 = true
                · subst c15
                  have H1 : (if t117 = true then (if t121 = true then (some 2147483648) else (some 0)) else (some 0)) = some r := by rw [if_pos rfl] at H; exact H
                  clear H
                  have H := H1
                  clear H1
                  by_cases c16 : t117 = true
                  · subst c16
                    have H1 : (if t121 = true then (some 2147483648) else (some 0)) = some r := by rw [if_pos rfl] at H; exact H
                    clear H
                    have H := H1
                    clear H1
                    by_cases c17 : t121 = true
                    · subst c17
                      have H1 : (some 2147483648) = some r := by rw [if_pos rfl] at H; exact H
                      clear H
                      have H := H1
                      clear H1
                      obtain rfl := Option.some.inj H
                      go_wp2
                      go_ret
                      exact ⟨by first | rfl | (simp; done) | (simp [*]; done), by repeat (first | exact Drawn0.refl _ | apply Drawn0.step)⟩
                    · replace c17 := Bool.eq_false_iff.mpr c17
                      subst c17
                      have H1 : (some 0) = some r := by rw [if_neg (show ¬ (false = true) by decide)] at H; exact H
                      clear H
                      have H := H1
                      clear H1
                      obtain rfl := Option.some.inj H
                      go_wp2
                      go_ret
                      exact ⟨by first | rfl | (simp; done) | (simp [*]; done), by repeat (first | exact Drawn0.refl _ | apply Drawn0.step)⟩
                  · replace c16 := Bool.eq_false_iff.mpr c16
                    subst c16
                    have H1 : (some 0) = some r := by rw [if_neg (show ¬ (false = true) by decide)] at H; exact H
                    clear H
                    have H := H1
                    clear H1
                    obtain rfl := Option.some.inj H
                    go_wp2
                    go_ret
                    exact ⟨by first | rfl | (simp; done) | (simp [*]; done), by repeat (first | exact Drawn0.refl _ | apply Drawn0.step)⟩
                · replace c15 := Bool.eq_false_iff.mpr c15
                  subst c15
                  have H1 : (if t118 = 0 then (some a1) else (if t122 = 0 then (some a0) else ((heraldref03_ahead.f kj12 t118 t119 t122 t123).bind fun t124 => (if t124 < 0 then (heraldref03_Add.j2 kj12 t121 t122 t123 t117 t118 t119) else (heraldref03_Add.j2 kj12 t117 t118 t119 t121 t122 t123))))) = some r := by rw [if_neg (show ¬ (false = true) by decide)] at H; exact H
                  clear H
                  have H := H1
                  clear H1
                  by_cases c18 : t118 = 0
                  · rw [if_pos c18] at H
                    have c18b0 : (t118 == 0) = true := beq_iff_eq.mpr c18
                    have c18b1 : (t118 != 0) = false := bne_eq_false_iff_eq.mpr c18
                    clear c18
                    obtain rfl := Option.some.inj H
                    go_wp2
                    go_ret
                    exact ⟨by first | rfl | (simp; done) | (simp [*]; done), by repeat (first | exact Drawn0.refl _ | apply Drawn0.step)⟩
                  · rw [if_neg c18] at H
                    have c18b0 : (t118 == 0) = false := beq_eq_false_iff_ne.mpr c18
                    have c18b1 : (t118 != 0) = true := bne_iff_ne.mpr c18
                    by_cases c19 : t122 = 0
                    · rw [if_pos c19] at H
                      have c19b0 : (t122 == 0) = true := beq_iff_eq.mpr c19
                      have c19b1 : (t122 != 0) = false := bne_eq_false_iff_eq.mpr c19
                      clear c19
                      obtain rfl := Option.some.inj H
                      go_wp2
                      go_ret
                      exact ⟨by first | rfl | (simp; done) | (simp [*]; done), by repeat (first | exact Drawn0.refl _ | apply Drawn0.step)⟩
                    · rw [if_neg c19] at H
                      have c19b0 : (t122 == 0) = false := beq_eq_false_iff_ne.mpr c19
                      have c19b1 : (t122 != 0) = true := bne_iff_ne.mpr c19
                      replace H := Option.bind_eq_some_iff.mp H
                      obtain ⟨t124, A200, H⟩ := H
                      replace H : (if t124 < 0 then (heraldref03_Add.j2 kj12 t121 t122 t123 t117 t118 t119) else (heraldref03_Add.j2 kj12 t117 t118 t119 t121 t122 t123)) = some r := H
                      have A20 := Aside0.mk A200
                      clear A200
                      have HC21 := Aside0.mk H
                      clear H
                      go_upto_if 76 with (first | ((with_reducible refine gate_callee (f := 33) rfl ?_); refine goesL_ (some 75) rfl rfl Try.func33 (by kernel_rfl) rfl #[.int .i64 t118, .int .i64 t119, .int .i64 t122, .int .i64 t123] rfl (by (try simp only [List.map_toArray, List.map_cons, List.map_nil]); first | done | rfl | (simp only [List.length_drop, List.length_take]; rfl)) ?_; (with_reducible refine (heraldref03_ahead.calls kj12 t118 t119 t122 t123 t124 _ A20.out).mono ?_); rintro e w' ⟨rfl, ⟨nd, rfl⟩⟩; refine ⟨_, rfl, ?_⟩))
                      (try simp only [Act.put, List.setIfInBounds_toArray, List.set_cons_zero, List.set_cons_succ])
                      go_cut [6, 7, 8, 10, 11, 12] (fun v6 v7 v8 v10 v11 v12 wc => ∃ (kq : Nat) (x6_20 : Bool) (x7_20 : Int) (x8_20 : Int) (x10_20 : Bool) (x11_20 : Int) (x12_20 : Int), v6 = .bool x6_20 ∧ v7 = .int .i64 x7_20 ∧ v8 = .int .i64 x8_20 ∧ v10 = .bool x10_20 ∧ v11 = .int .i64 x11_20 ∧ v12 = .int .i64 x12_20 ∧ Aside0 (heraldref03_Add.j2 kq x6_20 x7_20 x8_20 x10_20 x11_20 x12_20 = some r) ∧ Aside0 (kq ≤ kj12) ∧ Drawn0 w wc)
                      case first =>
                        have H := HC21.out
                        clear HC21
                        by_cases c22 : t124 < 0
                        · rw [if_pos c22] at H
                          have c22b0 : decide (t124 < 0) = true := decide_eq_true c22
                          clear c22
                          (first | rw [c22b0] | (simp only [i64_w, i32_w]; rw [c22b0]) | skip)
                          have H' := Aside0.mk H
                          clear H
                          go_wp2
                          go_meet
                          case rel => exact ⟨_, (t121), (t122), (t123), (t117), (t118), (t119), (by first | rfl | (simp; done) | (simp [*]; done) | (simp [i64_w]; done) | (simp [*, i64_w]; done)), (by first | rfl | (simp; done) | (simp [*]; done) | (simp [i64_w]; done) | (simp [*, i64_w]; done)), (by first | rfl | (simp; done) | (simp [*]; done) | (simp [i64_w]; done) | (simp [*, i64_w]; done)), (by first | rfl | (simp; done) | (simp [*]; done) | (simp [i64_w]; done) | (simp [*, i64_w]; done)), (by first | rfl | (simp; done) | (simp [*]; done) | (simp [i64_w]; done) | (simp [*, i64_w]; done)), (by first | rfl | (simp; done) | (simp [*]; done) | (simp [i64_w]; done) | (simp [*, i64_w]; done)), H', ⟨by have := HJ4.out; have := HJ12.out; first | omega | exact Nat.le_refl _⟩, by repeat (first | exact Drawn0.refl _ | apply Drawn0.step)⟩
                        · rw [if_neg c22] at H
                          have c22b0 : decide (t124 < 0) = false := decide_eq_false c22
                          clear c22
                          (first | rw [c22b0] | (simp only [i64_w, i32_w]; rw [c22b0]) | skip)
                          have H' := Aside0.mk H
                          clear H
                          go_wp2
                          go_meet
                          case rel => exact ⟨_, (t117), (t118), (t119), (t121), (t122), (t123), (by first | rfl | (simp; done) | (simp [*]; done) | (simp [i64_w]; done) | (simp [*, i64_w]; done)), (by first | rfl | (simp; done) | (simp [*]; done) | (simp [i64_w]; done) | (simp [*, i64_w]; done)), (by first | rfl | (simp; done) | (simp [*]; done) | (simp [i64_w]; done) | (simp [*, i64_w]; done)), (by first | rfl | (simp; done) | (simp [*]; done) | (simp [i64_w]; done) | (simp [*, i64_w]; done)), (by first | rfl | (simp; done) | (simp [*]; done) | (simp [i64_w]; done) | (simp [*, i64_w]; done)), (by first | rfl | (simp; done) | (simp [*]; done) | (simp [i64_w]; done) | (simp [*, i64_w]; done)), H', ⟨by have := HJ4.out; have := HJ12.out; first | omega | exact Nat.le_refl _⟩, by repeat (first | exact Drawn0.refl _ | apply Drawn0.step)⟩
                      case rest =>
                        clear HC21
                        try clear c1
                        try clear c2
                        try clear p2
                        try clear c3
                        try clear c4
                        try clear c6
                        try clear c6b0
                        try clear c6b1
                        try clear c7
                        try clear c7b0
                        try clear c7b1
                        try clear c8
                        try clear c8b0
                        try clear c8b1
                        try clear c9
                        try clear c9b0
                        try clear c9b1
                        try clear c10
                        try clear c11
                        try clear c11b0
                        try clear c11b1
                        try clear c12
                        try clear c12b0
                        try clear c12b1
                        try clear c14
                        try clear c14b0
                        try clear c14b1
                        try clear c15
                        try clear c16
                        try clear c17
                        try clear c18
                        try clear c18b0
                        try clear c18b1
                        try clear c19
                        try clear c19b0
                        try clear c19b1
                        try clear c22
                        try clear c22b0
                        try clear p2
                        obtain ⟨kq, x6_20, x7_20, x8_20, x10_20, x11_20, x12_20, rfl, rfl, rfl, rfl, rfl, rfl, HA, HJ20, ⟨mc20, rfl⟩⟩ := hcut
                        cases kq with
                        | zero => exact absurd HA.out (by simp [heraldref03_Add.j2])
                        | succ kj20 =>
                          have H := HA.out
                          clear HA
                          simp only [heraldref03_Add.j2] at H
                          have HC23 := Aside0.mk H
                          clear H
                          go_upto_if 90 with (fail)
                          go_cut [14] (fun v14 wc => ∃ (kq : Nat) (x14_22 : Int), v14 = .int .u64 x14_22 ∧ Aside0 (heraldref03_Add.j3 kq x6_20 x8_20 x10_20 (IntKind.u64.wrap ((IntKind.u64.wrap (x7_20)) * 8589934592)) x14_22 = some r) ∧ Aside0 (kq ≤ kj20) ∧ Drawn0 w wc)
                          case first =>
                            have H := HC23.out
                            clear HC23
                            by_cases c24 : (wrap64 (x8_20 - x12_20)) ≤ 33
                            · rw [if_pos c24] at H
                              have c24b0 : decide ((wrap64 (x8_20 - x12_20)) ≤ 33) = true := decide_eq_true c24
                              clear c24
                              (first | rw [c24b0] | (simp only [i64_w, i32_w]; rw [c24b0]) | skip)
                              obtain ⟨ji25, hji25⟩ : ∃ j_ : Int, (IntKind.u64.wrap (wrap64 (33 - (wrap64 (x8_20 - x12_20))))) = j_ := ⟨_, rfl⟩
                              replace H : (if 0 ≤ (ji25) then (heraldref03_Add.j3 kj20 x6_20 x8_20 x10_20 (IntKind.u64.wrap ((IntKind.u64.wrap (x7_20)) * 8589934592)) (shl .u64 (IntKind.u64.wrap (x11_20)) (ji25))) else (none)) = some r := by first | (rw [hji25] at H; exact H) | (simp only [hji25] at H ⊢; exact H)
                              by_cases c26 : 0 ≤ (ji25)
                              · rw [if_pos c26] at H
                                have c26b0 := eq_true c26
                                have c26b1 : decide (0 ≤ (ji25)) = true := decide_eq_true c26
                                clear c26
                                obtain ⟨ji27, hji27⟩ : ∃ j_ : Int, (shl .u64 (IntKind.u64.wrap (x11_20)) (ji25)) = j_ := ⟨_, rfl⟩
                                replace H : (heraldref03_Add.j3 kj20 x6_20 x8_20 x10_20 (IntKind.u64.wrap ((IntKind.u64.wrap (x7_20)) * 8589934592)) ji27) = some r := by first | (rw [hji27] at H; exact H) | (simp only [hji27] at H ⊢; exact H)
                                have hji27_ : (IntKind.u64.wrap ((IntKind.u64.wrap (x11_20)) * 2 ^ min (ji25).toNat 64)) = ji27 := hji27
                                have hji27z : (ji25) ≤ 64 → (IntKind.u64.wrap ((IntKind.u64.wrap (x11_20)) * 2 ^ (ji25).toNat)) = ji27 := shl_small hji27
                                have H' := Aside0.mk H
                                clear H
                                go_wp2
                                go_meet
                                case rel => exact ⟨_, (ji27), (by first | rfl | (simp; done) | (simp only [← hji27] <;> (first | rfl | simp)) | (simp [*]; done)), H', ⟨by have := HJ4.out; have := HJ12.out; have := HJ20.out; first | omega | exact Nat.le_refl _⟩, by repeat (first | exact Drawn0.refl _ | apply Drawn0.step)⟩
                              · rw [if_neg c26] at H
                                exact absurd H (by simp)
                            · rw [if_neg c24] at H
                              have c24b0 : decide ((wrap64 (x8_20 - x12_20)) ≤ 33) = false := decide_eq_false c24
                              clear c24
                              (first | rw [c24b0] | (simp only [i64_w, i32_w]; rw [c24b0]) | skip)
                              by_cases c28 : (wrap64 (x8_20 - x12_20)) < 64
                              · rw [if_pos c28] at H
                                have c28b0 : decide ((wrap64 (x8_20 - x12_20)) < 64) = true := decide_eq_true c28
                                clear c28
                                obtain ⟨ji29, hji29⟩ : ∃ j_ : Int, (IntKind.u64.wrap (wrap64 ((wrap64 (x8_20 - x12_20)) - 33))) = j_ := ⟨_, rfl⟩
                                replace H : (if 0 ≤ (ji29) then (if (shl .u64 (shr .u64 (IntKind.u64.wrap (x11_20)) (ji29)) (ji29)) = (IntKind.u64.wrap (x11_20)) then (heraldref03_Add.j3 kj20 x6_20 x8_20 x10_20 (IntKind.u64.wrap ((IntKind.u64.wrap (x7_20)) * 8589934592)) (shr .u64 (IntKind.u64.wrap (x11_20)) (ji29))) else (heraldref03_Add.j3 kj20 x6_20 x8_20 x10_20 (IntKind.u64.wrap ((IntKind.u64.wrap (x7_20)) * 8589934592)) (Go.bits .or .u64 (shr .u64 (IntKind.u64.wrap (x11_20)) (ji29)) 1))) else (none)) = some r := by first | (rw [hji29] at H; exact H) | (simp only [hji29] at H ⊢; exact H)
                                by_cases c30 : 0 ≤ (ji29)
                                · rw [if_pos c30] at H
                                  have c30b0 := eq_true c30
                                  have c30b1 : decide (0 ≤ (ji29)) = true := decide_eq_true c30
                                  clear c30
                                  obtain ⟨ji31, hji31⟩ : ∃ j_ : Int, (shr .u64 (IntKind.u64.wrap (x11_20)) (ji29)) = j_ := ⟨_, rfl⟩
                                  replace H : (if (shl .u64 (ji31) (ji29)) = (IntKind.u64.wrap (x11_20)) then (heraldref03_Add.j3 kj20 x6_20 x8_20 x10_20 (IntKind.u64.wrap ((IntKind.u64.wrap (x7_20)) * 8589934592)) ji31) else (heraldref03_Add.j3 kj20 x6_20 x8_20 x10_20 (IntKind.u64.wrap ((IntKind.u64.wrap (x7_20)) * 8589934592)) (Go.bits .or .u64 (ji31) 1))) = some r := by first | (rw [hji31] at H; exact H) | (simp only [hji31] at H ⊢; exact H)
                                  have hji31_ : ((IntKind.u64.wrap (x11_20)) / 2 ^ min (ji29).toNat 64) = ji31 := hji31
                                  have hji31z : (ji29) ≤ 64 → ((IntKind.u64.wrap (x11_20)) / 2 ^ (ji29).toNat) = ji31 := shr_small hji31
                                  have c32b0 := eq_true (of_decide_eq_true (by first | (with_reducible assumption) | assumption) : 0 ≤ (ji29))
                                  have c34b0 := eq_true (of_decide_eq_true (by first | (with_reducible assumption) | assumption) : 0 ≤ (ji29))
                                  obtain ⟨ji35, hji35⟩ : ∃ j_ : Int, (shl .u64 (ji31) (ji29)) = j_ := ⟨_, rfl⟩
                                  replace H : (if (ji35) = (IntKind.u64.wrap (x11_20)) then (heraldref03_Add.j3 kj20 x6_20 x8_20 x10_20 (IntKind.u64.wrap ((IntKind.u64.wrap (x7_20)) * 8589934592)) ji31) else (heraldref03_Add.j3 kj20 x6_20 x8_20 x10_20 (IntKind.u64.wrap ((IntKind.u64.wrap (x7_20)) * 8589934592)) (Go.bits .or .u64 (ji31) 1))) = some r := by first | (rw [hji35] at H; exact H) | (simp only [hji35] at H ⊢; exact H)
                                  have hji35_ : (IntKind.u64.wrap ((ji31) * 2 ^ min (ji29).toNat 64)) = ji35 := hji35
                                  have hji35z : (ji29) ≤ 64 → (IntKind.u64.wrap ((ji31) * 2 ^ (ji29).toNat)) = ji35 := shl_small hji35
                                  by_cases c36 : (ji35) = (IntKind.u64.wrap (x11_20))
                                  · rw [if_pos c36] at H
                                    have c36b0 : ((ji35) == (IntKind.u64.wrap (x11_20))) = true := beq_iff_eq.mpr c36
                                    have c36b1 : ((ji35) != (IntKind.u64.wrap (x11_20))) = false := bne_eq_false_iff_eq.mpr c36
                                    clear c36
                                    have c37b0 := eq_true (of_decide_eq_true (by first | (with_reducible assumption) | assumption) : 0 ≤ (ji29))
                                    have H' := Aside0.mk H
                                    clear H
                                    go_wp2
                                    go_meet
                                    case rel => exact ⟨_, (ji31), (by first | rfl | (simp; done) | (simp only [← hji31] <;> (first | rfl | simp)) | (simp [*]; done)), H', ⟨by have := HJ4.out; have := HJ12.out; have := HJ20.out; first | omega | exact Nat.le_refl _⟩, by repeat (first | exact Drawn0.refl _ | apply Drawn0.step)⟩
                                  · rw [if_neg c36] at H
                                    have c36b0 : ((ji35) == (IntKind.u64.wrap (x11_20))) = false := beq_eq_false_iff_ne.mpr c36
                                    have c36b1 : ((ji35) != (IntKind.u64.wrap (x11_20))) = true := bne_iff_ne.mpr c36
                                    have H' := Aside0.mk H
                                    clear H
                                    go_wp2
                                    go_meet
                                    case rel => exact ⟨_, (Go.bits .or .u64 (ji31) 1), (by first | rfl | (simp; done) | (simp only [← hji31] <;> (first | rfl | simp)) | (simp [*]; done)), H', ⟨by have := HJ4.out; have := HJ12.out; have := HJ20.out; first | omega | exact Nat.le_refl _⟩, by repeat (first | exact Drawn0.refl _ | apply Drawn0.step)⟩
                                · rw [if_neg c30] at H
                                  exact absurd H (by simp)
                              · rw [if_neg c28] at H
                                have c28b0 : decide ((wrap64 (x8_20 - x12_20)) < 64) = false := decide_eq_false c28
                                clear c28
                                have H' := Aside0.mk H
                                clear H
                                go_wp2
                                go_meet
                                case rel => exact ⟨_, (1), (by first | rfl | (simp; done) | (simp [*]; done) | (simp [i64_w]; done) | (simp [*, i64_w]; done)), H', ⟨by have := HJ4.out; have := HJ12.out; have := HJ20.out; first | omega | exact Nat.le_refl _⟩, by repeat (first | exact Drawn0.refl _ | apply Drawn0.step)⟩
                          case rest =>
                            clear HC23
                            try clear c1
                            try clear c2
                            try clear p2
                            try clear c3
                            try clear c4
                            try clear c6
                            try clear c6b0
                            try clear c6b1
                            try clear p6
                            try clear c7
                            try clear c7b0
                            try clear c7b1
                            try clear c8
                            try clear c8b0
                            try clear c8b1
                            try clear c9
                            try clear c9b0
                            try clear c9b1
                            try clear c10
                            try clear c11
                            try clear c11b0
                            try clear c11b1
                            try clear c12
                            try clear c12b0
                            try clear c12b1
                            try clear c14
                            try clear c14b0
                            try clear c14b1
                            try clear c15
                            try clear c16
                            try clear c17
                            try clear c18
                            try clear c18b0
                            try clear c18b1
                            try clear c19
                            try clear c19b0
                            try clear c19b1
                            try clear c20
                            try clear c22
                            try clear c22b0
                            try clear c24
                            try clear c24b0
                            try clear c26
                            try clear c26b0
                            try clear c26b1
                            try clear c28
                            try clear c28b0
                            try clear c30
                            try clear c30b0
                            try clear c30b1
                            try clear c32
                            try clear c32b0
                            try clear c33
                            try clear c33b0
                            try clear c34
                            try clear c34b0
                            try clear c36
                            try clear c36b0
                            try clear c36b1
                            try clear c37
                            try clear c37b0
                            try clear c38
                            try clear c38b0
                            try clear p2
                            obtain ⟨kq, x14_22, rfl, HA, HJ22, ⟨mc22, rfl⟩⟩ := hcut
                            cases kq with
                            | zero => exact absurd HA.out (by simp [heraldref03_Add.j3])
                            | succ kj22 =>
                              have H := HA.out
                              clear HA
                              simp only [heraldref03_Add.j3] at H
                              by_cases c39 : (x6_20 == x10_20) = true
                              · rw [if_pos c39] at H
                                have c39b0 : (x6_20 == x10_20) = true := c39
                                (try (have c39b1 : decide (x6_20 = x10_20) = true := by simpa using c39))
                                (try (have c39b2 : (x6_20 == x10_20) = true := by simpa using c39))
                                clear c39
                                replace H := Option.bind_eq_some_iff.mp H
                                obtain ⟨t125, A400, H⟩ := H
                                replace H : (some t125) = some r := H
                                have A40 := Aside0.mk A400
                                clear A400
                                obtain rfl := Option.some.inj H
                                go_wp2_with (first | ((with_reducible refine gate_callee (f := 29) rfl ?_); refine goesL_ (some 134) rfl rfl Try.func29 (by kernel_rfl) rfl #[.bool x6_20, .int .u64 (IntKind.u64.wrap ((IntKind.u64.wrap ((IntKind.u64.wrap (x7_20)) * 8589934592)) + x14_22)), .int .i64 (wrap64 (x8_20 - 33))] rfl (by (try simp only [List.map_toArray, List.map_cons, List.map_nil]); first | done | rfl | (simp only [List.length_drop, List.length_take]; rfl)) ?_; (with_reducible refine (heraldref03_near.calls kj22 x6_20 (IntKind.u64.wrap ((IntKind.u64.wrap ((IntKind.u64.wrap (x7_20)) * 8589934592)) + x14_22)) (wrap64 (x8_20 - 33)) t125 _ A40.out).mono ?_); rintro e w' ⟨rfl, ⟨nd, rfl⟩⟩; refine ⟨_, rfl, ?_⟩))
                                go_ret
                                exact ⟨by first | rfl | (simp; done) | (simp [*]; done), by repeat (first | exact Drawn0.refl _ | apply Drawn0.step)⟩
                              · rw [if_neg c39] at H
                                have c39b0 : (x6_20 == x10_20) = false := by simpa using c39
                                (try (have c39b1 : decide (x6_20 = x10_20) = false := by simpa using c39))
                                (try (have c39b2 : (x6_20 == x10_20) = false := by simpa using c39))
                                (try (have c39b3 : ¬ (x6_20 = x10_20) := by simpa using c39))
                                clear c39
                                by_cases c41 : (IntKind.u64.wrap ((IntKind.u64.wrap (x7_20)) * 8589934592)) = x14_22
                                · rw [if_pos c41] at H
                                  have c41b0 : ((IntKind.u64.wrap ((IntKind.u64.wrap (x7_20)) * 8589934592)) == x14_22) = true := beq_iff_eq.mpr c41
                                  have c41b1 : ((IntKind.u64.wrap ((IntKind.u64.wrap (x7_20)) * 8589934592)) != x14_22) = false := bne_eq_false_iff_eq.mpr c41
                                  clear c41
                                  obtain rfl := Option.some.inj H
                                  go_wp2
                                  go_ret
                                  exact ⟨by first | rfl | (simp; done) | (simp [*]; done), by repeat (first | exact Drawn0.refl _ | apply Drawn0.step)⟩
                                · rw [if_neg c41] at H
                                  have c41b0 : ((IntKind.u64.wrap ((IntKind.u64.wrap (x7_20)) * 8589934592)) == x14_22) = false := beq_eq_false_iff_ne.mpr c41
                                  have c41b1 : ((IntKind.u64.wrap ((IntKind.u64.wrap (x7_20)) * 8589934592)) != x14_22) = true := bne_iff_ne.mpr c41
                                  replace H := Option.bind_eq_some_iff.mp H
                                  obtain ⟨t126, A420, H⟩ := H
                                  replace H : (some t126) = some r := H
                                  have A42 := Aside0.mk A420
                                  clear A420
                                  obtain rfl := Option.some.inj H
                                  go_wp2_with (first | ((with_reducible refine gate_callee (f := 29) rfl ?_); refine goesL_ (some 144) rfl rfl Try.func29 (by kernel_rfl) rfl #[.bool x6_20, .int .u64 (IntKind.u64.wrap ((IntKind.u64.wrap ((IntKind.u64.wrap (x7_20)) * 8589934592)) - x14_22)), .int .i64 (wrap64 (x8_20 - 33))] rfl (by (try simp only [List.map_toArray, List.map_cons, List.map_nil]); first | done | rfl | (simp only [List.length_drop, List.length_take]; rfl)) ?_; (with_reducible refine (heraldref03_near.calls kj22 x6_20 (IntKind.u64.wrap ((IntKind.u64.wrap ((IntKind.u64.wrap (x7_20)) * 8589934592)) - x14_22)) (wrap64 (x8_20 - 33)) t126 _ A42.out).mono ?_); rintro e w' ⟨rfl, ⟨nd, rfl⟩⟩; refine ⟨_, rfl, ?_⟩))
                                  go_ret
                                  exact ⟨by first | rfl | (simp; done) | (simp [*]; done), by repeat (first | exact Drawn0.refl _ | apply Drawn0.step)⟩

end Go.Proofs.Yteecekhfpfnepaa.PAll
