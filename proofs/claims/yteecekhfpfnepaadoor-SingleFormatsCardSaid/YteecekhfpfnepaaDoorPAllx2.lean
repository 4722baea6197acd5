-- Written by a program of this session out of the translation. Lean checks it.
import Derived.Test.YteecekhfpfnepaaDoorPAllx0
namespace Go.Proofs.YteecekhfpfnepaaDoor.PAll
open Go.RowKit Go.Proofs.YteecekhfpfnepaaDoorW.PrintWords Go.Proofs.YteecekhfpfnepaaDoorW.PrintLast Go.Proofs.YteecekhfpfnepaaDoorW.PrintMore
attribute [local go_sem] max2_int min2_int max_two min_two max_three min_three max_four min_four   -- for this text's walks alone
set_option linter.unusedVariables false
set_option linter.unusedSimpArgs false

/-! ### single_down: function 40 -/
def single_down.f (a0 : Int) (a1 : Int) : Option (Int) := if a1 ≤ 0 then (if 0 ≤ (wrap64 (-a1)) then (some (shl .u64 a0 (wrap64 (-a1)))) else (none)) else (if a1 > 64 then (some 0) else (if 0 ≤ (wrap64 (a1 - 1)) then (if a1 < 64 then (if 0 ≤ a1 then (if (Go.bits .and .u64 a0 (IntKind.u64.wrap ((shl .u64 1 a1) - 1))) > (shl .u64 1 (wrap64 (a1 - 1))) then (some (IntKind.u64.wrap ((shr .u64 a0 a1) + 1))) else (if (Go.bits .and .u64 a0 (IntKind.u64.wrap ((shl .u64 1 a1) - 1))) = (shl .u64 1 (wrap64 (a1 - 1))) then (if (Go.bits .and .u64 (shr .u64 a0 a1) 1) = 1 then (some (IntKind.u64.wrap ((shr .u64 a0 a1) + 1))) else (some (shr .u64 a0 a1))) else (some (shr .u64 a0 a1)))) else (none)) else (if a0 > (shl .u64 1 (wrap64 (a1 - 1))) then (some (0 + 1)) else (if a0 = (shl .u64 1 (wrap64 (a1 - 1))) then (if (Go.bits .and .u64 0 1) = 1 then (some (0 + 1)) else (some 0)) else (some 0)))) else (none)))
set_option maxHeartbeats 8000000 in
set_option maxRecDepth 100000 in
theorem single_down.calls (a0 : Int) (a1 : Int) (r : Int) (w : World) (h : single_down.f a0 a1 = some r) :
    Calls Tryd.prog 40 #[.int .u64 a0, .int .i64 a1] w fun e w' => e = .returned (.int .u64 r) ∧ Drawn0 w w' := by
  have H : (if a1 ≤ 0 then (if 0 ≤ (wrap64 (-a1)) then (some (shl .u64 a0 (wrap64 (-a1)))) else (none)) else (if a1 > 64 then (some 0) else (if 0 ≤ (wrap64 (a1 - 1)) then (if a1 < 64 then (if 0 ≤ a1 then (if (Go.bits .and .u64 a0 (IntKind.u64.wrap ((shl .u64 1 a1) - 1))) > (shl .u64 1 (wrap64 (a1 - 1))) then (some (IntKind.u64.wrap ((shr .u64 a0 a1) + 1))) else (if (Go.bits .and .u64 a0 (IntKind.u64.wrap ((shl .u64 1 a1) - 1))) = (shl .u64 1 (wrap64 (a1 - 1))) then (if (Go.bits .and .u64 (shr .u64 a0 a1) 1) = 1 then (some (IntKind.u64.wrap ((shr .u64 a0 a1) + 1))) else (some (shr .u64 a0 a1))) else (some (shr .u64 a0 a1)))) else (none)) else (if a0 > (shl .u64 1 (wrap64 (a1 - 1))) then (some (0 + 1)) else (if a0 = (shl .u64 1 (wrap64 (a1 - 1))) then (if (Go.bits .and .u64 0 1) = 1 then (some (0 + 1)) else (some 0)) else (some 0)))) else (none)))) = some r := h
  clear h
  by_cases c3 : a1 ≤ 0
  · rw [if_pos c3] at H
    have c3b0 : decide (a1 ≤ 0) = true := decide_eq_true c3
    clear c3
    obtain ⟨ji4, hji4⟩ : ∃ j_ : Int, (wrap64 (-a1)) = j_ := ⟨_, rfl⟩
    replace H : (if 0 ≤ (ji4) then (some (shl .u64 a0 (ji4))) else (none)) = some r := by first | (rw [hji4] at H; exact H) | (simp only [hji4] at H ⊢; exact H)
    have hji4w : (IntKind.i64.wrap (-a1)) = ji4 := (i64_w _).trans hji4
    by_cases c5 : 0 ≤ (ji4)
    · rw [if_pos c5] at H
      have c5b0 := eq_true c5
      have c5b1 : decide (0 ≤ (ji4)) = true := decide_eq_true c5
      clear c5
      obtain ⟨ji6, hji6⟩ : ∃ j_ : Int, (shl .u64 a0 (ji4)) = j_ := ⟨_, rfl⟩
      replace H : (some ji6) = some r := by first | (rw [hji6] at H; exact H) | (simp only [hji6] at H ⊢; exact H)
      have hji6_ : (IntKind.u64.wrap (a0 * 2 ^ min (ji4).toNat 64)) = ji6 := hji6
      have hji6z : (ji4) ≤ 64 → (IntKind.u64.wrap (a0 * 2 ^ (ji4).toNat)) = ji6 := shl_small hji6
      obtain rfl := Option.some.inj H
      go_enter Tryd.func40, Tryd.ntmps40
      go_wp2
      repeat (go_quiet (fail); try go_wp2)
      go_ret
      exact ⟨by first | rfl | (simp; done) | (simp only [← hji4, ← hji6] <;> (first | rfl | simp)) | (simp [*]; done), by repeat (first | exact Drawn0.refl _ | apply Drawn0.step)⟩
    · rw [if_neg c5] at H
      exact absurd H (by simp)
  · rw [if_neg c3] at H
    have c3b0 : decide (a1 ≤ 0) = false := decide_eq_false c3
    clear c3
    by_cases c7 : a1 > 64
    · rw [if_pos c7] at H
      have c7b0 : decide (64 < a1) = true := decide_eq_true c7
      clear c7
      obtain rfl := Option.some.inj H
      go_enter Tryd.func40, Tryd.ntmps40
      go_wp2
      repeat (go_quiet (fail); try go_wp2)
      go_ret
      exact ⟨by first | rfl | (simp; done) | (simp [*]; done), by repeat (first | exact Drawn0.refl _ | apply Drawn0.step)⟩
    · rw [if_neg c7] at H
      have c7b0 : decide (64 < a1) = false := decide_eq_false c7
      clear c7
      obtain ⟨ji8, hji8⟩ : ∃ j_ : Int, (wrap64 (a1 - 1)) = j_ := ⟨_, rfl⟩
      replace H : (if 0 ≤ (ji8) then (if a1 < 64 then (if 0 ≤ a1 then (if (Go.bits .and .u64 a0 (IntKind.u64.wrap ((shl .u64 1 a1) - 1))) > (shl .u64 1 (ji8)) then (some (IntKind.u64.wrap ((shr .u64 a0 a1) + 1))) else (if (Go.bits .and .u64 a0 (IntKind.u64.wrap ((shl .u64 1 a1) - 1))) = (shl .u64 1 (ji8)) then (if (Go.bits .and .u64 (shr .u64 a0 a1) 1) = 1 then (some (IntKind.u64.wrap ((shr .u64 a0 a1) + 1))) else (some (shr .u64 a0 a1))) else (some (shr .u64 a0 a1)))) else (none)) else (if a0 > (shl .u64 1 (ji8)) then (some (0 + 1)) else (if a0 = (shl .u64 1 (ji8)) then (if (Go.bits .and .u64 0 1) = 1 then (some (0 + 1)) else (some 0)) else (some 0)))) else (none)) = some r := by first | (rw [hji8] at H; exact H) | (simp only [hji8] at H ⊢; exact H)
      have hji8w : (IntKind.i64.wrap (a1 - 1)) = ji8 := (i64_w _).trans hji8
      by_cases c9 : 0 ≤ (ji8)
      · rw [if_pos c9] at H
        have c9b0 := eq_true c9
        have c9b1 : decide (0 ≤ (ji8)) = true := decide_eq_true c9
        clear c9
        obtain ⟨ji10, hji10⟩ : ∃ j_ : Int, (shl .u64 1 (ji8)) = j_ := ⟨_, rfl⟩
        replace H : (if a1 < 64 then (if 0 ≤ a1 then (if (Go.bits .and .u64 a0 (IntKind.u64.wrap ((shl .u64 1 a1) - 1))) > (ji10) then (some (IntKind.u64.wrap ((shr .u64 a0 a1) + 1))) else (if (Go.bits .and .u64 a0 (IntKind.u64.wrap ((shl .u64 1 a1) - 1))) = (ji10) then (if (Go.bits .and .u64 (shr .u64 a0 a1) 1) = 1 then (some (IntKind.u64.wrap ((shr .u64 a0 a1) + 1))) else (some (shr .u64 a0 a1))) else (some (shr .u64 a0 a1)))) else (none)) else (if a0 > (ji10) then (some (0 + 1)) else (if a0 = (ji10) then (if (Go.bits .and .u64 0 1) = 1 then (some (0 + 1)) else (some 0)) else (some 0)))) = some r := by first | (rw [hji10] at H; exact H) | (simp only [hji10] at H ⊢; exact H)
        have hji10_ : (IntKind.u64.wrap (1 * 2 ^ min (ji8).toNat 64)) = ji10 := hji10
        have hji10z : (ji8) ≤ 64 → (IntKind.u64.wrap (1 * 2 ^ (ji8).toNat)) = ji10 := shl_small hji10
        have hji10u : (IntKind.u64.wrap (2 ^ min (ji8).toNat 64)) = ji10 := by have h_ := hji10_; rw [Int.one_mul] at h_; exact h_
        have hji10v : (ji8) ≤ 64 → (IntKind.u64.wrap (2 ^ (ji8).toNat)) = ji10 := fun hle_ => by have h_ := hji10z hle_; rw [Int.one_mul] at h_; exact h_
        by_cases c11 : a1 < 64
        · rw [if_pos c11] at H
          have c11b0 : decide (a1 < 64) = true := decide_eq_true c11
          clear c11
          by_cases c12 : 0 ≤ a1
          · rw [if_pos c12] at H
            have c12b0 := eq_true c12
            have c12b1 : decide (0 ≤ a1) = true := decide_eq_true c12
            clear c12
            obtain ⟨ji13, hji13⟩ : ∃ j_ : Int, (shr .u64 a0 a1) = j_ := ⟨_, rfl⟩
            replace H : (if (Go.bits .and .u64 a0 (IntKind.u64.wrap ((shl .u64 1 a1) - 1))) > (ji10) then (some (IntKind.u64.wrap ((ji13) + 1))) else (if (Go.bits .and .u64 a0 (IntKind.u64.wrap ((shl .u64 1 a1) - 1))) = (ji10) then (if (Go.bits .and .u64 (ji13) 1) = 1 then (some (IntKind.u64.wrap ((ji13) + 1))) else (some ji13)) else (some ji13))) = some r := by first | (rw [hji13] at H; exact H) | (simp only [hji13] at H ⊢; exact H)
            have hji13_ : (a0 / 2 ^ min a1.toNat 64) = ji13 := hji13
            have hji13z : a1 ≤ 64 → (a0 / 2 ^ a1.toNat) = ji13 := shr_small hji13
            have c14b0 := eq_true (of_decide_eq_true (by first | (with_reducible assumption) | assumption) : 0 ≤ a1)
            obtain ⟨ji15, hji15⟩ : ∃ j_ : Int, (shl .u64 1 a1) = j_ := ⟨_, rfl⟩
            replace H : (if (Go.bits .and .u64 a0 (IntKind.u64.wrap ((ji15) - 1))) > (ji10) then (some (IntKind.u64.wrap ((ji13) + 1))) else (if (Go.bits .and .u64 a0 (IntKind.u64.wrap ((ji15) - 1))) = (ji10) then (if (Go.bits .and .u64 (ji13) 1) = 1 then (some (IntKind.u64.wrap ((ji13) + 1))) else (some ji13)) else (some ji13))) = some r := by first | (rw [hji15] at H; exact H) | (simp only [hji15] at H ⊢; exact H)
            have hji15_ : (IntKind.u64.wrap (1 * 2 ^ min a1.toNat 64)) = ji15 := hji15
            have hji15z : a1 ≤ 64 → (IntKind.u64.wrap (1 * 2 ^ a1.toNat)) = ji15 := shl_small hji15
            have hji15u : (IntKind.u64.wrap (2 ^ min a1.toNat 64)) = ji15 := by have h_ := hji15_; rw [Int.one_mul] at h_; exact h_
            have hji15v : a1 ≤ 64 → (IntKind.u64.wrap (2 ^ a1.toNat)) = ji15 := fun hle_ => by have h_ := hji15z hle_; rw [Int.one_mul] at h_; exact h_
            by_cases c16 : (Go.bits .and .u64 a0 (IntKind.u64.wrap ((ji15) - 1))) > (ji10)
            · rw [if_pos c16] at H
              have c16b0 : decide ((ji10) < (Go.bits .and .u64 a0 (IntKind.u64.wrap ((ji15) - 1)))) = true := decide_eq_true c16
              clear c16
              obtain rfl := Option.some.inj H
              go_enter Tryd.func40, Tryd.ntmps40
              go_wp2
              repeat (go_quiet (fail); try go_wp2)
              go_ret
              exact ⟨by first | rfl | (simp; done) | (simp only [← hji8, ← hji10, ← hji13, ← hji15] <;> (first | rfl | simp)) | (simp [*]; done), by repeat (first | exact Drawn0.refl _ | apply Drawn0.step)⟩
            · rw [if_neg c16] at H
              have c16b0 : decide ((ji10) < (Go.bits .and .u64 a0 (IntKind.u64.wrap ((ji15) - 1)))) = false := decide_eq_false c16
              clear c16
              by_cases c17 : (Go.bits .and .u64 a0 (IntKind.u64.wrap ((ji15) - 1))) = (ji10)
              · rw [if_pos c17] at H
                have c17b0 : ((Go.bits .and .u64 a0 (IntKind.u64.wrap ((ji15) - 1))) == (ji10)) = true := beq_iff_eq.mpr c17
                have c17b1 : ((Go.bits .and .u64 a0 (IntKind.u64.wrap ((ji15) - 1))) != (ji10)) = false := bne_eq_false_iff_eq.mpr c17
                clear c17
                by_cases c18 : (Go.bits .and .u64 (ji13) 1) = 1
                · rw [if_pos c18] at H
                  have c18b0 : ((Go.bits .and .u64 (ji13) 1) == 1) = true := beq_iff_eq.mpr c18
                  have c18b1 : ((Go.bits .and .u64 (ji13) 1) != 1) = false := bne_eq_false_iff_eq.mpr c18
                  clear c18
                  obtain rfl := Option.some.inj H
                  go_enter Tryd.func40, Tryd.ntmps40
                  go_wp2
                  repeat (go_quiet (fail); try go_wp2)
                  go_ret
                  exact ⟨by first | rfl | (simp; done) | (simp only [← hji8, ← hji10, ← hji13, ← hji15] <;> (first | rfl | simp)) | (simp [*]; done), by repeat (first | exact Drawn0.refl _ | apply Drawn0.step)⟩
                · rw [if_neg c18] at H
                  have c18b0 : ((Go.bits .and .u64 (ji13) 1) == 1) = false := beq_eq_false_iff_ne.mpr c18
                  have c18b1 : ((Go.bits .and .u64 (ji13) 1) != 1) = true := bne_iff_ne.mpr c18
                  obtain rfl := Option.some.inj H
                  go_enter Tryd.func40, Tryd.ntmps40
                  go_wp2
                  repeat (go_quiet (fail); try go_wp2)
                  go_ret
                  exact ⟨by first | rfl | (simp; done) | (simp only [← hji8, ← hji10, ← hji13, ← hji15] <;> (first | rfl | simp)) | (simp [*]; done), by repeat (first | exact Drawn0.refl _ | apply Drawn0.step)⟩
              · rw [if_neg c17] at H
                have c17b0 : ((Go.bits .and .u64 a0 (IntKind.u64.wrap ((ji15) - 1))) == (ji10)) = false := beq_eq_false_iff_ne.mpr c17
                have c17b1 : ((Go.bits .and .u64 a0 (IntKind.u64.wrap ((ji15) - 1))) != (ji10)) = true := bne_iff_ne.mpr c17
                obtain rfl := Option.some.inj H
                go_enter Tryd.func40, Tryd.ntmps40
                go_wp2
                repeat (go_quiet (fail); try go_wp2)
                go_ret
                exact ⟨by first | rfl | (simp; done) | (simp only [← hji8, ← hji10, ← hji13, ← hji15] <;> (first | rfl | simp)) | (simp [*]; done), by repeat (first | exact Drawn0.refl _ | apply Drawn0.step)⟩
          · rw [if_neg c12] at H
            exact absurd H (by simp)
        · rw [if_neg c11] at H
          have c11b0 : decide (a1 < 64) = false := decide_eq_false c11
          clear c11
          by_cases c19 : a0 > (ji10)
          · rw [if_pos c19] at H
            have c19b0 : decide ((ji10) < a0) = true := decide_eq_true c19
            clear c19
            obtain rfl := Option.some.inj H
            go_enter Tryd.func40, Tryd.ntmps40
            go_wp2
            repeat (go_quiet (fail); try go_wp2)
            go_ret
            exact ⟨by first | rfl | (simp; done) | (simp only [← hji8, ← hji10] <;> (first | rfl | simp)) | (simp [*]; done), by repeat (first | exact Drawn0.refl _ | apply Drawn0.step)⟩
          · rw [if_neg c19] at H
            have c19b0 : decide ((ji10) < a0) = false := decide_eq_false c19
            clear c19
            by_cases c20 : a0 = (ji10)
            · rw [if_pos c20] at H
              have c20b0 : (a0 == (ji10)) = true := beq_iff_eq.mpr c20
              have c20b1 : (a0 != (ji10)) = false := bne_eq_false_iff_eq.mpr c20
              clear c20
              by_cases c21 : (Go.bits .and .u64 0 1) = 1
              · rw [if_pos c21] at H
                have c21b0 : ((Go.bits .and .u64 0 1) == 1) = true := beq_iff_eq.mpr c21
                have c21b1 : ((Go.bits .and .u64 0 1) != 1) = false := bne_eq_false_iff_eq.mpr c21
                clear c21
                obtain rfl := Option.some.inj H
                go_enter Tryd.func40, Tryd.ntmps40
                go_wp2
                repeat (go_quiet (fail); try go_wp2)
                go_ret
                exact ⟨by first | rfl | (simp; done) | (simp only [← hji8, ← hji10] <;> (first | rfl | simp)) | (simp [*]; done), by repeat (first | exact Drawn0.refl _ | apply Drawn0.step)⟩
              · rw [if_neg c21] at H
                have c21b0 : ((Go.bits .and .u64 0 1) == 1) = false := beq_eq_false_iff_ne.mpr c21
                have c21b1 : ((Go.bits .and .u64 0 1) != 1) = true := bne_iff_ne.mpr c21
                obtain rfl := Option.some.inj H
                go_enter Tryd.func40, Tryd.ntmps40
                go_wp2
                repeat (go_quiet (fail); try go_wp2)
                go_ret
                exact ⟨by first | rfl | (simp; done) | (simp only [← hji8, ← hji10] <;> (first | rfl | simp)) | (simp [*]; done), by repeat (first | exact Drawn0.refl _ | apply Drawn0.step)⟩
            · rw [if_neg c20] at H
              have c20b0 : (a0 == (ji10)) = false := beq_eq_false_iff_ne.mpr c20
              have c20b1 : (a0 != (ji10)) = true := bne_iff_ne.mpr c20
              obtain rfl := Option.some.inj H
              go_enter Tryd.func40, Tryd.ntmps40
              go_wp2
              repeat (go_quiet (fail); try go_wp2)
              go_ret
              exact ⟨by first | rfl | (simp; done) | (simp only [← hji8, ← hji10] <;> (first | rfl | simp)) | (simp [*]; done), by repeat (first | exact Drawn0.refl _ | apply Drawn0.step)⟩
      · rw [if_neg c9] at H
        exact absurd H (by simp)

end Go.Proofs.YteecekhfpfnepaaDoor.PAll
