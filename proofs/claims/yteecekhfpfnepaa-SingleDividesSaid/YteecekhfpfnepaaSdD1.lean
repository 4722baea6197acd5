/- Texts of this session and printed texts, merged, what is not needed left out: PAllx0, PAllx1, HLen, PAllx2, HFloat, HAdd, PAllx3, PAllx17, PAllx4, PAllx6, HRaw, PAllx7, PAllx18, PAllx19, PAllx20, PAllx21, PAllx22, HDiv, HSqrt. -/
import Derived.Test.YteecekhfpfnepaaSdD0
import Derived.Test.YteecekhfpfnepaaProg
import Derived.Below
import Derived.Deep.Draws
import Derived.Deep.AppendLies
import Derived.Maps.AppendAt
import Derived.OwnWalk
import Derived.Laws.BytesArg
import Derived.Laws.MakeOwn
import Derived.Laws.OwnMore
import Derived.Deep.OwnRows
import Derived.Tactics
import Derived.Lib.ConvBytes
import Derived.Laws.Slices
import Derived.WalkKit
import Derived.KernelRfl
import Derived.RowKit3
import Derived.Deep.LoopGhost
import Derived.Deep.QuietTactic
import Derived.BigQuiet
import Derived.WideLaws
import Derived.Deep.DeepCutAuto
import Derived.Deep.CutBlock
import Derived.Deep.RegionHeld3
import Derived.Laws.Rows
import Derived.Lib.AppendStr
import Derived.ArgAppend
import Derived.Laws.IdiomCopy
import Derived.OrdersHeld
import Derived.Laws.BitsLemmas
import Derived.RowKit
import Derived.Laws.Externs
import Derived.Laws.ComplexArith
import Derived.WalkLawsBesides
import Derived.Laws.FloatArith
section
namespace Go.Proofs.Yteecekhfpfnepaa.PAll
open Go.RowKit Go.Proofs.YteecekhfpfnepaaW.PrintWords Go.Proofs.YteecekhfpfnepaaW.PrintLast Go.Proofs.YteecekhfpfnepaaW.PrintMore
attribute [local go_sem] max2_int min2_int max_two min_two max_three min_three max_four min_four   -- for this text's walks alone
set_option linter.unusedVariables false
set_option linter.unusedSimpArgs false
def errW : Option Int → Value
  | none => .nilIface
  | some c => .iface 0 (.int .i64 c)
theorem errW_none : errW none = .nilIface := rfl
theorem errW_some (c : Int) : errW (some c) = .iface 0 (.int .i64 c) := rfl
end Go.Proofs.Yteecekhfpfnepaa.PAll
end

section
namespace Go.Proofs.Yteecekhfpfnepaa.PAll
open Go.RowKit Go.Proofs.YteecekhfpfnepaaW.PrintWords Go.Proofs.YteecekhfpfnepaaW.PrintLast Go.Proofs.YteecekhfpfnepaaW.PrintMore
attribute [local go_sem] max2_int min2_int max_two min_two max_three min_three max_four min_four   -- for this text's walks alone
set_option linter.unusedVariables false
set_option linter.unusedSimpArgs false
def single_down.f (a0 : Int) (a1 : Int) : Option (Int) := if a1 ≤ 0 then (if 0 ≤ (wrap64 (-a1)) then (some (shl .u64 a0 (wrap64 (-a1)))) else (none)) else (if a1 > 64 then (some 0) else (if 0 ≤ (wrap64 (a1 - 1)) then (if a1 < 64 then (if 0 ≤ a1 then (if (Go.bits .and .u64 a0 (IntKind.u64.wrap ((shl .u64 1 a1) - 1))) > (shl .u64 1 (wrap64 (a1 - 1))) then (some (IntKind.u64.wrap ((shr .u64 a0 a1) + 1))) else (if (Go.bits .and .u64 a0 (IntKind.u64.wrap ((shl .u64 1 a1) - 1))) = (shl .u64 1 (wrap64 (a1 - 1))) then (if (Go.bits .and .u64 (shr .u64 a0 a1) 1) = 1 then (some (IntKind.u64.wrap ((shr .u64 a0 a1) + 1))) else (some (shr .u64 a0 a1))) else (some (shr .u64 a0 a1)))) else (none)) else (if a0 > (shl .u64 1 (wrap64 (a1 - 1))) then (some (0 + 1)) else (if a0 = (shl .u64 1 (wrap64 (a1 - 1))) then (if (Go.bits .and .u64 0 1) = 1 then (some (0 + 1)) else (some 0)) else (some 0)))) else (none)))
set_option maxHeartbeats 8000000 in
set_option maxRecDepth 100000 in
theorem single_down.calls (a0 : Int) (a1 : Int) (r : Int) (w : World) (h : single_down.f a0 a1 = some r) :
    Calls Try.prog 28 #[.int .u64 a0, .int .i64 a1] w fun e w' => e = .returned (.int .u64 r) ∧ Drawn0 w w' := by
  have H : (if a1 ≤ 0 then (if 0 ≤ (wrap64 (-a1)) then (some (shl .u64 a0 (wrap64 (-a1)))) else (none)) else (if a1 > 64 then (some 0) else (if 0 ≤ (wrap64 (a1 - 1)) then (if a1 < 64 then (if 0 ≤ a1 then (if (Go.bits .and .u64 a0 (IntKind.u64.wrap ((shl .u64 1 a1) - 1))) > (shl .u64 1 (wrap64 (a1 - 1))) then (some (IntKind.u64.wrap ((shr .u64 a0 a1) + 1))) else (if (Go.bits .and .u64 a0 (IntKind.u64.wrap ((shl .u64 1 a1) - 1))) = (shl .u64 1 (wrap64 (a1 - 1))) then (if (Go.bits .and .u64 (shr .u64 a0 a1) 1) = 1 then (some (IntKind.u64.wrap ((shr .u64 a0 a1) + 1))) else (some (shr .u64 a0 a1))) else (some (shr .u64 a0 a1)))) else (none)) else (if a0 > (shl .u64 1 (wrap64 (a1 - 1))) then (some (0 + 1)) else (if a0 = (shl .u64 1 (wrap64 (a1 - 1))) then (if (Go.bits .and .u64 0 1) = 1 then (some (0 + 1)) else (some 0)) else (some 0)))) else (none)))) = some r := h
  clear h
  by_cases c3 : a1 ≤ 0
  · rw [if_pos c3] at H
    have c3b0 : decide (a1 ≤ 0) = true := decide_eq_true c3
    clear c3
    obtain ⟨ji4, hji4⟩ : ∃ j_ : Int, (wrap64 (-a1)) = j_ := ⟨_, rfl⟩
    replace H : (if 0 ≤ (ji4) then (some (shl .u64 a0 (ji4))) else (none)) = some r := by first | (rw [hji4] at H; exact H) | (simp only [hji4] at H ⊢; exact H)
    have hji4w : (IntKind.i64.wrap (-a1)) = ji4 := (i64_w _).trans hji4
    by_cases c5 : 0 ≤ (ji4)
    · rw [if_pos c5] at H
      have c5b0 := eq_true c5
      have c5b1 : decide (0 ≤ (ji4)) = true := decide_eq_true c5
      clear c5
      obtain ⟨ji6, hji6⟩ : ∃ j_ : Int, (shl .u64 a0 (ji4)) = j_ := ⟨_, rfl⟩
      replace H : (some ji6) = some r := by first | (rw [hji6] at H; exact H) | (simp only [hji6] at H ⊢; exact H)
      have hji6_ : (IntKind.u64.wrap (a0 * 2 ^ min (ji4).toNat 64)) = ji6 := hji6
      have hji6z : (ji4) ≤ 64 → (IntKind.u64.wrap (a0 * 2 ^ (ji4).toNat)) = ji6 := shl_small hji6
      obtain rfl := Option.some.inj H
      go_enter Try.func28, Try.ntmps28
      go_wp2
      repeat (go_quiet (fail); try go_wp2)
      go_ret
      exact ⟨by first | rfl | (simp; done) | (simp only [← hji4, ← hji6] <;> (first | rfl | simp)) | (simp [*]; done), by repeat (first | exact Drawn0.refl _ | apply Drawn0.step)⟩
    · rw [if_neg c5] at H
      exact absurd H (by simp)
  · rw [if_neg c3] at H
    have c3b0 : decide (a1 ≤ 0) = false := decide_eq_false c3
    clear c3
    by_cases c7 : a1 > 64
    · rw [if_pos c7] at H
      have c7b0 : decide (64 < a1) = true := decide_eq_true c7
      clear c7
      obtain rfl := Option.some.inj H
      go_enter Try.func28, Try.ntmps28
      go_wp2
      repeat (go_quiet (fail); try go_wp2)
      go_ret
      exact ⟨by first | rfl | (simp; done) | (simp [*]; done), by repeat (first | exact Drawn0.refl _ | apply Drawn0.step)⟩
    · rw [if_neg c7] at H
      have c7b0 : decide (64 < a1) = false := decide_eq_false c7
      clear c7
      obtain ⟨ji8, hji8⟩ : ∃ j_ : Int, (wrap64 (a1 - 1)) = j_ := ⟨_, rfl⟩
      replace H : (if 0 ≤ (ji8) then (if a1 < 64 then (if 0 ≤ a1 then (if (Go.bits .and .u64 a0 (IntKind.u64.wrap ((shl .u64 1 a1) - 1))) > (shl .u64 1 (ji8)) then (some (IntKind.u64.wrap ((shr .u64 a0 a1) + 1))) else (if (Go.bits .and .u64 a0 (IntKind.u64.wrap ((shl .u64 1 a1) - 1))) = (shl .u64 1 (ji8)) then (if (Go.bits .and .u64 (shr .u64 a0 a1) 1) = 1 then (some (IntKind.u64.wrap ((shr .u64 a0 a1) + 1))) else (some (shr .u64 a0 a1))) else (some (shr .u64 a0 a1)))) else (none)) else (if a0 > (shl .u64 1 (ji8)) then (some (0 + 1)) else (if a0 = (shl .u64 1 (ji8)) then (if (Go.bits .and .u64 0 1) = 1 then (some (0 + 1)) else (some 0)) else (some 0)))) else (none)) = some r := by first | (rw [hji8] at H; exact H) | (simp only [hji8] at H ⊢; exact H)
      have hji8w : (IntKind.i64.wrap (a1 - 1)) = ji8 := (i64_w _).trans hji8
      by_cases c9 : 0 ≤ (ji8)
      · rw [if_pos c9] at H
        have c9b0 := eq_true c9
        have c9b1 : decide (0 ≤ (ji8)) = true := decide_eq_true c9
        clear c9
        obtain ⟨ji10, hji10⟩ : ∃ j_ : Int, (shl .u64 1 (ji8)) = j_ := ⟨_, rfl⟩
        replace H : (if a1 < 64 then (if 0 ≤ a1 then (if (Go.bits .and .u64 a0 (IntKind.u64.wrap ((shl .u64 1 a1) - 1))) > (ji10) then (some (IntKind.u64.wrap ((shr .u64 a0 a1) + 1))) else (if (Go.bits .and .u64 a0 (IntKind.u64.wrap ((shl .u64 1 a1) - 1))) = (ji10) then (if (Go.bits .and .u64 (shr .u64 a0 a1) 1) = 1 then (some (IntKind.u64.wrap ((shr .u64 a0 a1) + 1))) else (some (shr .u64 a0 a1))) else (some (shr .u64 a0 a1)))) else (none)) else (if a0 > (ji10) then (some (0 + 1)) else (if a0 = (ji10) then (if (Go.bits .and .u64 0 1) = 1 then (some (0 + 1)) else (some 0)) else (some 0)))) = some r := by first | (rw [hji10] at H; exact H) | (simp only [hji10] at H ⊢; exact H)
        have hji10_ : (IntKind.u64.wrap (1 * 2 ^ min (ji8).toNat 64)) = ji10 := hji10
        have hji10z : (ji8) ≤ 64 → (IntKind.u64.wrap (1 * 2 ^ (ji8).toNat)) = ji10 := shl_small hji10
        have hji10u : (IntKind.u64.wrap (2 ^ min (ji8).toNat 64)) = ji10 := by have h_ := hji10_; rw [Int.one_mul] at h_; exact h_
        have hji10v : (ji8) ≤ 64 → (IntKind.u64.wrap (2 ^ (ji8).toNat)) = ji10 := fun hle_ => by have h_ := hji10z hle_; rw [Int.one_mul] at h_; exact h_
        by_cases c11 : a1 < 64
        · rw [if_pos c11] at H
          have c11b0 : decide (a1 < 64) = true := decide_eq_true c11
          clear c11
          by_cases c12 : 0 ≤ a1
          · rw [if_pos c12] at H
            have c12b0 := eq_true c12
            have c12b1 : decide (0 ≤ a1) = true := decide_eq_true c12
            clear c12
            obtain ⟨ji13, hji13⟩ : ∃ j_ : Int, (shr .u64 a0 a1) = j_ := ⟨_, rfl⟩
            replace H : (if (Go.bits .and .u64 a0 (IntKind.u64.wrap ((shl .u64 1 a1) - 1))) > (ji10) then (some (IntKind.u64.wrap ((ji13) + 1))) else (if (Go.bits .and .u64 a0 (IntKind.u64.wrap ((shl .u64 1 a1) - 1))) = (ji10) then (if (Go.bits .and .u64 (ji13) 1) = 1 then (some (IntKind.u64.wrap ((ji13) + 1))) else (some ji13)) else (some ji13))) = some r := by first | (rw [hji13] at H; exact H) | (simp only [hji13] at H ⊢; exact H)
            have hji13_ : (a0 / 2 ^ min a1.toNat 64) = ji13 := hji13
            have hji13z : a1 ≤ 64 → (a0 / 2 ^ a1.toNat) = ji13 := shr_small hji13
            have c14b0 := eq_true (of_decide_eq_true (by first | (with_reducible assumption) | assumption) : 0 ≤ a1)
            obtain ⟨ji15, hji15⟩ : ∃ j_ : Int, (shl .u64 1 a1) = j_ := ⟨_, rfl⟩
            replace H : (if (Go.bits .and .u64 a0 (IntKind.u64.wrap ((ji15) - 1))) > (ji10) then (some (IntKind.u64.wrap ((ji13) + 1))) else (if (Go.bits .and .u64 a0 (IntKind.u64.wrap ((ji15) - 1))) = (ji10) then (if (Go.bits .and .u64 (ji13) 1) = 1 then (some (IntKind.u64.wrap ((ji13) + 1))) else (some ji13)) else (some ji13))) = some r := by first | (rw [hji15] at H; exact H) | (simp only [hji15] at H ⊢; exact H)
            have hji15_ : (IntKind.u64.wrap (1 * 2 ^ min a1.toNat 64)) = ji15 := hji15
            have hji15z : a1 ≤ 64 → (IntKind.u64.wrap (1 * 2 ^ a1.toNat)) = ji15 := shl_small hji15
            have hji15u : (IntKind.u64.wrap (2 ^ min a1.toNat 64)) = ji15 := by have h_ := hji15_; rw [Int.one_mul] at h_; exact h_
            have hji15v : a1 ≤ 64 → (IntKind.u64.wrap (2 ^ a1.toNat)) = ji15 := fun hle_ => by have h_ := hji15z hle_; rw [Int.one_mul] at h_; exact h_
            by_cases c16 : (Go.bits .and .u64 a0 (IntKind.u64.wrap ((ji15) - 1))) > (ji10)
            · rw [if_pos c16] at H
              have c16b0 : decide ((ji10) < (Go.bits .and .u64 a0 (IntKind.u64.wrap ((ji15) - 1)))) = true := decide_eq_true c16
              clear c16
              obtain rfl := Option.some.inj H
              go_enter Try.func28, Try.ntmps28
              go_wp2
              repeat (go_quiet (fail); try go_wp2)
              go_ret
              exact ⟨by first | rfl | (simp; done) | (simp only [← hji8, ← hji10, ← hji13, ← hji15] <;> (first | rfl | simp)) | (simp [*]; done), by repeat (first | exact Drawn0.refl _ | apply Drawn0.step)⟩
            · rw [if_neg c16] at H
              have c16b0 : decide ((ji10) < (Go.bits .and .u64 a0 (IntKind.u64.wrap ((ji15) - 1)))) = false := decide_eq_false c16
              clear c16
              by_cases c17 : (Go.bits .and .u64 a0 (IntKind.u64.wrap ((ji15) - 1))) = (ji10)
              · rw [if_pos c17] at H
                have c17b0 : ((Go.bits .and .u64 a0 (IntKind.u64.wrap ((ji15) - 1))) == (ji10)) = true := beq_iff_eq.mpr c17
                have c17b1 : ((Go.bits .and .u64 a0 (IntKind.u64.wrap ((ji15) - 1))) != (ji10)) = false := bne_eq_false_iff_eq.mpr c17
                clear c17
                by_cases c18 : (Go.bits .and .u64 (ji13) 1) = 1
                · rw [if_pos c18] at H
                  have c18b0 : ((Go.bits .and .u64 (ji13) 1) == 1) = true := beq_iff_eq.mpr c18
                  have c18b1 : ((Go.bits .and .u64 (ji13) 1) != 1) = false := bne_eq_false_iff_eq.mpr c18
                  clear c18
                  obtain rfl := Option.some.inj H
                  go_enter Try.func28, Try.ntmps28
                  go_wp2
                  repeat (go_quiet (fail); try go_wp2)
                  go_ret
                  exact ⟨by first | rfl | (simp; done) | (simp only [← hji8, ← hji10, ← hji13, ← hji15] <;> (first | rfl | simp)) | (simp [*]; done), by repeat (first | exact Drawn0.refl _ | apply Drawn0.step)⟩
                · rw [if_neg c18] at H
                  have c18b0 : ((Go.bits .and .u64 (ji13) 1) == 1) = false := beq_eq_false_iff_ne.mpr c18
                  have c18b1 : ((Go.bits .and .u64 (ji13) 1) != 1) = true := bne_iff_ne.mpr c18
                  obtain rfl := Option.some.inj H
                  go_enter Try.func28, Try.ntmps28
                  go_wp2
                  repeat (go_quiet (fail); try go_wp2)
                  go_ret
                  exact ⟨by first | rfl | (simp; done) | (simp only [← hji8, ← hji10, ← hji13, ← hji15] <;> (first | rfl | simp)) | (simp [*]; done), by repeat (first | exact Drawn0.refl _ | apply Drawn0.step)⟩
              · rw [if_neg c17] at H
                have c17b0 : ((Go.bits .and .u64 a0 (IntKind.u64.wrap ((ji15) - 1))) == (ji10)) = false := beq_eq_false_iff_ne.mpr c17
                have c17b1 : ((Go.bits .and .u64 a0 (IntKind.u64.wrap ((ji15) - 1))) != (ji10)) = true := bne_iff_ne.mpr c17
                obtain rfl := Option.some.inj H
                go_enter Try.func28, Try.ntmps28
                go_wp2
                repeat (go_quiet (fail); try go_wp2)
                go_ret
                exact ⟨by first | rfl | (simp; done) | (simp only [← hji8, ← hji10, ← hji13, ← hji15] <;> (first | rfl | simp)) | (simp [*]; done), by repeat (first | exact Drawn0.refl _ | apply Drawn0.step)⟩
          · rw [if_neg c12] at H
            exact absurd H (by simp)
        · rw [if_neg c11] at H
          have c11b0 : decide (a1 < 64) = false := decide_eq_false c11
          clear c11
          by_cases c19 : a0 > (ji10)
          · rw [if_pos c19] at H
            have c19b0 : decide ((ji10) < a0) = true := decide_eq_true c19
            clear c19
            obtain rfl := Option.some.inj H
            go_enter Try.func28, Try.ntmps28
            go_wp2
            repeat (go_quiet (fail); try go_wp2)
            go_ret
            exact ⟨by first | rfl | (simp; done) | (simp only [← hji8, ← hji10] <;> (first | rfl | simp)) | (simp [*]; done), by repeat (first | exact Drawn0.refl _ | apply Drawn0.step)⟩
          · rw [if_neg c19] at H
            have c19b0 : decide ((ji10) < a0) = false := decide_eq_false c19
            clear c19
            by_cases c20 : a0 = (ji10)
            · rw [if_pos c20] at H
              have c20b0 : (a0 == (ji10)) = true := beq_iff_eq.mpr c20
              have c20b1 : (a0 != (ji10)) = false := bne_eq_false_iff_eq.mpr c20
              clear c20
              by_cases c21 : (Go.bits .and .u64 0 1) = 1
              · rw [if_pos c21] at H
                have c21b0 : ((Go.bits .and .u64 0 1) == 1) = true := beq_iff_eq.mpr c21
                have c21b1 : ((Go.bits .and .u64 0 1) != 1) = false := bne_eq_false_iff_eq.mpr c21
                clear c21
                obtain rfl := Option.some.inj H
                go_enter Try.func28, Try.ntmps28
                go_wp2
                repeat (go_quiet (fail); try go_wp2)
                go_ret
                exact ⟨by first | rfl | (simp; done) | (simp only [← hji8, ← hji10] <;> (first | rfl | simp)) | (simp [*]; done), by repeat (first | exact Drawn0.refl _ | apply Drawn0.step)⟩
              · rw [if_neg c21] at H
                have c21b0 : ((Go.bits .and .u64 0 1) == 1) = false := beq_eq_false_iff_ne.mpr c21
                have c21b1 : ((Go.bits .and .u64 0 1) != 1) = true := bne_iff_ne.mpr c21
                obtain rfl := Option.some.inj H
                go_enter Try.func28, Try.ntmps28
                go_wp2
                repeat (go_quiet (fail); try go_wp2)
                go_ret
                exact ⟨by first | rfl | (simp; done) | (simp only [← hji8, ← hji10] <;> (first | rfl | simp)) | (simp [*]; done), by repeat (first | exact Drawn0.refl _ | apply Drawn0.step)⟩
            · rw [if_neg c20] at H
              have c20b0 : (a0 == (ji10)) = false := beq_eq_false_iff_ne.mpr c20
              have c20b1 : (a0 != (ji10)) = true := bne_iff_ne.mpr c20
              obtain rfl := Option.some.inj H
              go_enter Try.func28, Try.ntmps28
              go_wp2
              repeat (go_quiet (fail); try go_wp2)
              go_ret
              exact ⟨by first | rfl | (simp; done) | (simp only [← hji8, ← hji10] <;> (first | rfl | simp)) | (simp [*]; done), by repeat (first | exact Drawn0.refl _ | apply Drawn0.step)⟩
      · rw [if_neg c9] at H
        exact absurd H (by simp)
end Go.Proofs.Yteecekhfpfnepaa.PAll
end

section
namespace Go.Proofs.Yteecekhfpfnepaa.PAll
open Go.RowKit Go.Proofs.YteecekhfpfnepaaW.PrintWords Go.Proofs.YteecekhfpfnepaaW.PrintLast Go.Proofs.YteecekhfpfnepaaW.PrintMore
set_option linter.unusedVariables false
set_option linter.unusedSimpArgs false
/-- How many binary digits a number has. -/
def lenI (a : Int) : Int := if a ≤ 0 then 0 else (a.toNat.log2 : Int) + 1
theorem lenI_div (a : Int) (k : Nat) (h : 2 ^ k ≤ a) : lenI a = k + lenI (a / 2 ^ k) := by
  have hp : (0 : Int) < 2 ^ k := Int.pow_pos (by omega)
  obtain ⟨n, rfl⟩ := Int.eq_ofNat_of_zero_le (show 0 ≤ a by omega)
  have hn : 2 ^ k ≤ n := by exact_mod_cast h
  have hn2 : 0 < 2 ^ k := Nat.two_pow_pos k
  have e : (n : Int) / 2 ^ k = ((n / 2 ^ k : Nat) : Int) := by push_cast; rfl
  have hq : 0 < n / 2 ^ k := Nat.div_pos hn hn2
  unfold lenI
  rw [e, if_neg (by omega), if_neg (by omega), Int.toNat_natCast, Int.toNat_natCast]
  have : n.log2 = k + (n / 2 ^ k).log2 := by
    rw [Nat.log2_eq_iff (by omega)]
    have h1 := Nat.log2_self_le (n := n / 2 ^ k) (by omega)
    have h2 := Nat.lt_log2_self (n := n / 2 ^ k)
    constructor
    · rw [Nat.pow_add]
      exact Nat.le_trans (Nat.mul_le_mul_left _ h1) (Nat.mul_div_le n _)
    · rw [Nat.add_assoc, Nat.pow_add]
      have := Nat.lt_mul_of_div_lt h2 hn2
      rwa [Nat.mul_comm] at this
  omega
theorem lenI_range (a : Int) (h1 : a < 18446744073709551616) : 0 ≤ lenI a ∧ lenI a ≤ 64 := by
  unfold lenI
  split
  · omega
  · have h3 : a.toNat.log2 < 64 := (Nat.log2_lt (by omega)).2 (by omega)
    omega
set_option maxRecDepth 20000 in
def lenTab : ByteArray := ⟨#[0, 1, 2, 2, 3, 3, 3, 3, 4, 4, 4, 4, 4, 4, 4, 4, 5, 5, 5, 5, 5, 5, 5, 5, 5, 5, 5, 5, 5, 5, 5, 5, 6, 6, 6, 6, 6, 6, 6, 6, 6, 6, 6, 6, 6, 6, 6, 6, 6, 6, 6, 6, 6, 6, 6, 6, 6, 6, 6, 6, 6, 6, 6, 6, 7, 7, 7, 7, 7, 7, 7, 7, 7, 7, 7, 7, 7, 7, 7, 7, 7, 7, 7, 7, 7, 7, 7, 7, 7, 7, 7, 7, 7, 7, 7, 7, 7, 7, 7, 7, 7, 7, 7, 7, 7, 7, 7, 7, 7, 7, 7, 7, 7, 7, 7, 7, 7, 7, 7, 7, 7, 7, 7, 7, 7, 7, 7, 7, 8, 8, 8, 8, 8, 8, 8, 8, 8, 8, 8, 8, 8, 8, 8, 8, 8, 8, 8, 8, 8, 8, 8, 8, 8, 8, 8, 8, 8, 8, 8, 8, 8, 8, 8, 8, 8, 8, 8, 8, 8, 8, 8, 8, 8, 8, 8, 8, 8, 8, 8, 8, 8, 8, 8, 8, 8, 8, 8, 8, 8, 8, 8, 8, 8, 8, 8, 8, 8, 8, 8, 8, 8, 8, 8, 8, 8, 8, 8, 8, 8, 8, 8, 8, 8, 8, 8, 8, 8, 8, 8, 8, 8, 8, 8, 8, 8, 8, 8, 8, 8, 8, 8, 8, 8, 8, 8, 8, 8, 8, 8, 8, 8, 8, 8, 8, 8, 8, 8, 8, 8, 8, 8, 8, 8, 8, 8, 8]⟩
set_option maxRecDepth 20000 in
theorem lenTab_at : ∀ i : Nat, i < 256 → bt lenTab (i : Int) = lenI (i : Int) := by decide +kernel
set_option maxRecDepth 20000 in
theorem tab_get (x : Int) (h : x.toNat < (⟨#[0, 1, 2, 2, 3, 3, 3, 3, 4, 4, 4, 4, 4, 4, 4, 4, 5, 5, 5, 5, 5, 5, 5, 5, 5, 5, 5, 5, 5, 5, 5, 5, 6, 6, 6, 6, 6, 6, 6, 6, 6, 6, 6, 6, 6, 6, 6, 6, 6, 6, 6, 6, 6, 6, 6, 6, 6, 6, 6, 6, 6, 6, 6, 6, 7, 7, 7, 7, 7, 7, 7, 7, 7, 7, 7, 7, 7, 7, 7, 7, 7, 7, 7, 7, 7, 7, 7, 7, 7, 7, 7, 7, 7, 7, 7, 7, 7, 7, 7, 7, 7, 7, 7, 7, 7, 7, 7, 7, 7, 7, 7, 7, 7, 7, 7, 7, 7, 7, 7, 7, 7, 7, 7, 7, 7, 7, 7, 7, 8, 8, 8, 8, 8, 8, 8, 8, 8, 8, 8, 8, 8, 8, 8, 8, 8, 8, 8, 8, 8, 8, 8, 8, 8, 8, 8, 8, 8, 8, 8, 8, 8, 8, 8, 8, 8, 8, 8, 8, 8, 8, 8, 8, 8, 8, 8, 8, 8, 8, 8, 8, 8, 8, 8, 8, 8, 8, 8, 8, 8, 8, 8, 8, 8, 8, 8, 8, 8, 8, 8, 8, 8, 8, 8, 8, 8, 8, 8, 8, 8, 8, 8, 8, 8, 8, 8, 8, 8, 8, 8, 8, 8, 8, 8, 8, 8, 8, 8, 8, 8, 8, 8, 8, 8, 8, 8, 8, 8, 8, 8, 8, 8, 8, 8, 8, 8, 8, 8, 8, 8, 8, 8, 8, 8, 8, 8, 8]⟩ : ByteArray).size) (h0 : 0 ≤ x) : (((⟨#[0, 1, 2, 2, 3, 3, 3, 3, 4, 4, 4, 4, 4, 4, 4, 4, 5, 5, 5, 5, 5, 5, 5, 5, 5, 5, 5, 5, 5, 5, 5, 5, 6, 6, 6, 6, 6, 6, 6, 6, 6, 6, 6, 6, 6, 6, 6, 6, 6, 6, 6, 6, 6, 6, 6, 6, 6, 6, 6, 6, 6, 6, 6, 6, 7, 7, 7, 7, 7, 7, 7, 7, 7, 7, 7, 7, 7, 7, 7, 7, 7, 7, 7, 7, 7, 7, 7, 7, 7, 7, 7, 7, 7, 7, 7, 7, 7, 7, 7, 7, 7, 7, 7, 7, 7, 7, 7, 7, 7, 7, 7, 7, 7, 7, 7, 7, 7, 7, 7, 7, 7, 7, 7, 7, 7, 7, 7, 7, 8, 8, 8, 8, 8, 8, 8, 8, 8, 8, 8, 8, 8, 8, 8, 8, 8, 8, 8, 8, 8, 8, 8, 8, 8, 8, 8, 8, 8, 8, 8, 8, 8, 8, 8, 8, 8, 8, 8, 8, 8, 8, 8, 8, 8, 8, 8, 8, 8, 8, 8, 8, 8, 8, 8, 8, 8, 8, 8, 8, 8, 8, 8, 8, 8, 8, 8, 8, 8, 8, 8, 8, 8, 8, 8, 8, 8, 8, 8, 8, 8, 8, 8, 8, 8, 8, 8, 8, 8, 8, 8, 8, 8, 8, 8, 8, 8, 8, 8, 8, 8, 8, 8, 8, 8, 8, 8, 8, 8, 8, 8, 8, 8, 8, 8, 8, 8, 8, 8, 8, 8, 8, 8, 8, 8, 8, 8, 8]⟩ : ByteArray)[x.toNat]'h).toNat : Int) = lenI x := by
  have hs : lenTab.size = 256 := by decide
  have h' : x.toNat < 256 := by rw [← hs]; exact h
  have e := lenTab_at x.toNat h'
  rw [Int.toNat_of_nonneg h0] at e
  rw [← e, ← bt_at lenTab x h]
  rfl
theorem d32 (a : Int) : a < 4294967296 ∨ lenI a = 32 + lenI (a / 4294967296) := by
  by_cases h : a < 4294967296
  · exact .inl h
  · exact .inr (lenI_div a 32 (by omega))
theorem d16 (a : Int) : a < 65536 ∨ lenI a = 16 + lenI (a / 65536) := by
  by_cases h : a < 65536
  · exact .inl h
  · exact .inr (lenI_div a 16 (by omega))
theorem d8 (a : Int) : a < 256 ∨ lenI a = 8 + lenI (a / 256) := by
  by_cases h : a < 256
  · exact .inl h
  · exact .inr (lenI_div a 8 (by omega))
def bits_Len64.f (a0 : Int) : Option Int := if 0 ≤ a0 ∧ a0 < 18446744073709551616 then some (lenI a0) else none
set_option maxRecDepth 20000 in
set_option maxHeartbeats 1600000 in
theorem bits_Len64.calls (a0 : Int) (r : Int) (w : World) (h : bits_Len64.f a0 = some r) :
    Calls Try.prog 27 #[.int .u64 a0] w fun e w' => e = .returned (.int .i64 r) ∧ Drawn0 w w' := by
  unfold bits_Len64.f at h
  split at h
  case isFalse => simp at h
  case isTrue hr =>
  obtain ⟨h0, h1⟩ := hr
  obtain rfl := Option.some.inj h
  clear h
  go_enter Try.func27, Try.ntmps27
  have r0 := lenI_range a0 h1
  go_wp2
  all_goals
    rw [tab_get _ _ (by omega)]
    go_ret
    refine ⟨?_, Drawn0.refl _⟩
    have e1 := d32 a0
    have e2 := d16 a0
    have e3 := d16 (a0 / 4294967296)
    have e4 := d8 a0
    have e5 := d8 (a0 / 4294967296)
    have e6 := d8 (a0 / 65536)
    have e7 := d8 (a0 / 4294967296 / 65536)
    refine congrArg (fun z => Ending.returned (Value.int .i64 z)) (?_ : _ = lenI a0)
    have e8 := lenI_range (a0 / 256) (by omega)
    have e9 := lenI_range (a0 / 65536) (by omega)
    have ea := lenI_range (a0 / 4294967296) (by omega)
    unfold wrap64
    omega
end Go.Proofs.Yteecekhfpfnepaa.PAll
end

section
namespace Go.Proofs.Yteecekhfpfnepaa.PAll
open Go.RowKit Go.Proofs.YteecekhfpfnepaaW.PrintWords Go.Proofs.YteecekhfpfnepaaW.PrintLast Go.Proofs.YteecekhfpfnepaaW.PrintMore
attribute [local go_sem] max2_int min2_int max_two min_two max_three min_three max_four min_four   -- for this text's walks alone
set_option linter.unusedVariables false
set_option linter.unusedSimpArgs false
mutual
def single_Near.j0 : Nat → Int → Int → Int → Option (Int)
  | 0, _, _, _ => none
  | k + 1, x1, x5, x6 => if x1 > 200 then (some (Go.bits .or .u32 x5 2139095040)) else (if x1 < (-300) then (some x5) else ((bits_Len64.f x6).bind fun t101 => ((single_down.f x6 (wrap64 ((mx (-149) (wrap64 ((wrap64 (x1 + t101)) - 24))) - x1))).bind fun t102 => (if t102 = 16777216 then (single_Near.j1 k x5 (wrap64 ((mx (-149) (wrap64 ((wrap64 (x1 + t101)) - 24))) + 1)) 8388608) else (single_Near.j1 k x5 (mx (-149) (wrap64 ((wrap64 (x1 + t101)) - 24))) t102)))))
def single_Near.j1 : Nat → Int → Int → Int → Option (Int)
  | 0, _, _, _ => none
  | k + 1, x5, x7, x8 => if x8 < 8388608 then (some (Go.bits .or .u32 x5 ((x8) % 4294967296))) else (if (wrap64 (x7 + 150)) ≥ 255 then (some (Go.bits .or .u32 x5 2139095040)) else (some (Go.bits .or .u32 (Go.bits .or .u32 x5 ((((wrap64 (x7 + 150)) % 4294967296) * 8388608) % 4294967296)) ((IntKind.u64.wrap (x8 - 8388608)) % 4294967296))))
end
def single_Near.f (k : Nat) (a0 : Int) (a1 : Int) : Option (Int) := if a0 = 0 then (some 0) else (if a0 < 0 then (single_Near.j0 k a1 2147483648 (IntKind.u64.wrap (-(IntKind.u64.wrap (a0))))) else (single_Near.j0 k a1 0 (IntKind.u64.wrap (a0))))
set_option maxHeartbeats 8000000 in
set_option maxRecDepth 100000 in
theorem single_Near.calls (k : Nat) (a0 : Int) (a1 : Int) (r : Int) (w : World) (h : single_Near.f k a0 a1 = some r) :
    Calls Try.prog 11 #[.int .i64 a0, .int .i64 a1] w fun e w' => e = .returned (.int .u32 r) ∧ Below w.heap.size w w' := by
  have HB := Aside0.mk (Below.refl w.heap.size w)
  have H : (if a0 = 0 then (some 0) else (if a0 < 0 then (single_Near.j0 k a1 2147483648 (IntKind.u64.wrap (-(IntKind.u64.wrap (a0))))) else (single_Near.j0 k a1 0 (IntKind.u64.wrap (a0))))) = some r := h
  clear h
  by_cases c3 : a0 = 0
  · rw [if_pos c3] at H
    have c3b0 : (a0 == 0) = true := beq_iff_eq.mpr c3
    have c3b1 : (a0 != 0) = false := bne_eq_false_iff_eq.mpr c3
    clear c3
    obtain rfl := Option.some.inj H
    go_enter Try.func11, Try.ntmps11
    go_wp2
    go_ret
    exact ⟨by first | rfl | (simp [errW_none, errW_some] <;> rfl) | (simp [*, errW_none, errW_some] <;> rfl), by repeat (first | (with_reducible first | exact HB.out | apply below_alloc | apply pw_below_drewN | apply below_drew1) | exact HB.out)⟩
  · rw [if_neg c3] at H
    have c3b0 : (a0 == 0) = false := beq_eq_false_iff_ne.mpr c3
    have c3b1 : (a0 != 0) = true := bne_iff_ne.mpr c3
    have HC4 := Aside0.mk H
    clear H
    go_enter Try.func11, Try.ntmps11
    go_upto_if 14 with (fail)
    go_cut [5, 6] (fun v5 v6 wc => ∃ (kq : Nat) (x5_3 : Int) (x6_3 : Int), v5 = .int .u32 x5_3 ∧ v6 = .int .u64 x6_3 ∧ Aside0 (single_Near.j0 kq a1 x5_3 x6_3 = some r) ∧ Aside0 (kq ≤ k) ∧ Aside0 (Below w.heap.size w wc))
    case first =>
      have H := HC4.out
      clear HC4
      by_cases c5 : a0 < 0
      · rw [if_pos c5] at H
        have c5b0 : decide (a0 < 0) = true := decide_eq_true c5
        clear c5
        (first | rw [c5b0] | (simp only [i64_w, i32_w]; rw [c5b0]) | skip)
        have H' := Aside0.mk H
        clear H
        go_wp2
        go_meet
        case rel => exact ⟨_, (2147483648), (IntKind.u64.wrap (-(IntKind.u64.wrap (a0)))), (by first | rfl | (simp; done) | (simp [*]; done) | (simp [i64_w]; done) | (simp [*, i64_w]; done)), (by first | rfl | (simp; done) | (simp [*]; done) | (simp [i64_w]; done) | (simp [*, i64_w]; done)), H', ⟨by first | omega | exact Nat.le_refl _⟩, ⟨by repeat (first | (with_reducible first | exact HB.out | apply below_alloc | apply pw_below_drewN | apply below_drew1) | exact HB.out)⟩⟩
      · rw [if_neg c5] at H
        have c5b0 : decide (a0 < 0) = false := decide_eq_false c5
        clear c5
        (first | rw [c5b0] | (simp only [i64_w, i32_w]; rw [c5b0]) | skip)
        have H' := Aside0.mk H
        clear H
        go_wp2
        go_meet
        case rel => exact ⟨_, (0), (IntKind.u64.wrap (a0)), (by first | rfl | (simp; done) | (simp [*]; done) | (simp [i64_w]; done) | (simp [*, i64_w]; done)), (by first | rfl | (simp; done) | (simp [*]; done) | (simp [i64_w]; done) | (simp [*, i64_w]; done)), H', ⟨by first | omega | exact Nat.le_refl _⟩, ⟨by repeat (first | (with_reducible first | exact HB.out | apply below_alloc | apply pw_below_drewN | apply below_drew1) | exact HB.out)⟩⟩
    case rest =>
      clear HC4
      try clear c1
      try clear p2
      try clear c3
      try clear c3b0
      try clear c3b1
      try clear c5
      try clear c5b0
      obtain ⟨kq, x5_3, x6_3, rfl, rfl, HA, HJ3, HB⟩ := hcut
      cases kq with
      | zero => exact absurd HA.out (by simp [single_Near.j0])
      | succ kj3 =>
        have H := HA.out
        clear HA
        simp only [single_Near.j0] at H
        by_cases c6 : a1 > 200
        · rw [if_pos c6] at H
          have c6b0 : decide (200 < a1) = true := decide_eq_true c6
          clear c6
          obtain rfl := Option.some.inj H
          go_wp2
          go_ret
          exact ⟨by first | rfl | (simp [errW_none, errW_some] <;> rfl) | (simp [*, errW_none, errW_some] <;> rfl), by repeat (first | (with_reducible first | exact HB.out | apply below_alloc | apply pw_below_drewN | apply below_drew1) | exact HB.out)⟩
        · rw [if_neg c6] at H
          have c6b0 : decide (200 < a1) = false := decide_eq_false c6
          clear c6
          by_cases c7 : a1 < (-300)
          · rw [if_pos c7] at H
            have c7b0 : decide (a1 < (-300)) = true := decide_eq_true c7
            clear c7
            obtain rfl := Option.some.inj H
            go_wp2
            go_ret
            exact ⟨by first | rfl | (simp [errW_none, errW_some] <;> rfl) | (simp [*, errW_none, errW_some] <;> rfl), by repeat (first | (with_reducible first | exact HB.out | apply below_alloc | apply pw_below_drewN | apply below_drew1) | exact HB.out)⟩
          · rw [if_neg c7] at H
            have c7b0 : decide (a1 < (-300)) = false := decide_eq_false c7
            clear c7
            replace H := Option.bind_eq_some_iff.mp H
            obtain ⟨t101, A80, H⟩ := H
            replace H : ((single_down.f x6_3 (wrap64 ((mx (-149) (wrap64 ((wrap64 (a1 + t101)) - 24))) - a1))).bind fun t102 => (if t102 = 16777216 then (single_Near.j1 kj3 x5_3 (wrap64 ((mx (-149) (wrap64 ((wrap64 (a1 + t101)) - 24))) + 1)) 8388608) else (single_Near.j1 kj3 x5_3 (mx (-149) (wrap64 ((wrap64 (a1 + t101)) - 24))) t102))) = some r := H
            have A8 := Aside0.mk A80
            clear A80
            obtain ⟨ji9, hji9⟩ : ∃ j_ : Int, (mx (-149) (wrap64 ((wrap64 (a1 + t101)) - 24))) = j_ := ⟨_, rfl⟩
            replace H : ((single_down.f x6_3 (wrap64 ((ji9) - a1))).bind fun t102 => (if t102 = 16777216 then (single_Near.j1 kj3 x5_3 (wrap64 ((ji9) + 1)) 8388608) else (single_Near.j1 kj3 x5_3 ji9 t102))) = some r := by first | (rw [hji9] at H; exact H) | (simp only [hji9] at H ⊢; exact H)
            (try rw [hji9] at A8)
            have hji9_ : (if (-149) < (wrap64 ((wrap64 (a1 + t101)) - 24)) then (wrap64 ((wrap64 (a1 + t101)) - 24)) else (-149)) = ji9 := hji9
            replace H := Option.bind_eq_some_iff.mp H
            obtain ⟨t102, A100, H⟩ := H
            replace H : (if t102 = 16777216 then (single_Near.j1 kj3 x5_3 (wrap64 ((ji9) + 1)) 8388608) else (single_Near.j1 kj3 x5_3 ji9 t102)) = some r := H
            have A10 := Aside0.mk A100
            clear A100
            have HC11 := Aside0.mk H
            clear H
            go_upto_if 38 with (first | ((with_reducible refine gate_callee (f := 27) rfl ?_); refine goesL_ (some 28) rfl rfl Try.func27 (by kernel_rfl) rfl #[.int .u64 x6_3] rfl (by (try simp only [List.map_toArray, List.map_cons, List.map_nil]); first | done | rfl | (simp only [List.length_drop, List.length_take]; rfl)) ?_; (with_reducible refine (bits_Len64.calls x6_3 t101 _ A8.out).mono ?_); rintro e w' ⟨rfl, ⟨nd, rfl⟩⟩; refine ⟨_, rfl, ?_⟩) | ((with_reducible refine gate_callee (f := 28) rfl ?_); refine goesL_ (some 36) rfl rfl Try.func28 (by kernel_rfl) rfl #[.int .u64 x6_3, .int .i64 (wrap64 ((ji9) - a1))] rfl (by (try simp only [List.map_toArray, List.map_cons, List.map_nil]); first | done | (simp only [hji9]; rfl) | rfl | (simp only [List.length_drop, List.length_take]; rfl)) ?_; (with_reducible refine (single_down.calls x6_3 (wrap64 ((ji9) - a1)) t102 _ A10.out).mono ?_); rintro e w' ⟨rfl, ⟨nd, rfl⟩⟩; refine ⟨_, rfl, ?_⟩))
            (try simp only [Act.put, List.setIfInBounds_toArray, List.set_cons_zero, List.set_cons_succ])
            go_cut [7, 8] (fun v7 v8 wc => ∃ (kq : Nat) (x7_10 : Int) (x8_10 : Int), v7 = .int .i64 x7_10 ∧ v8 = .int .u64 x8_10 ∧ Aside0 (single_Near.j1 kq x5_3 x7_10 x8_10 = some r) ∧ Aside0 (kq ≤ kj3) ∧ Aside0 (Below w.heap.size w wc))
            case first =>
              have H := HC11.out
              clear HC11
              by_cases c12 : t102 = 16777216
              · rw [if_pos c12] at H
                have c12b0 : (t102 == 16777216) = true := beq_iff_eq.mpr c12
                have c12b1 : (t102 != 16777216) = false := bne_eq_false_iff_eq.mpr c12
                clear c12
                (first | rw [c12b0] | (simp only [i64_w, i32_w]; rw [c12b0]) | skip)
                have H' := Aside0.mk H
                clear H
                go_wp2
                go_meet
                case rel => exact ⟨_, (wrap64 ((ji9) + 1)), (8388608), (by first | rfl | (simp; done) | (simp only [← hji9] <;> (first | rfl | simp)) | (simp [*]; done)), (by first | rfl | (simp; done) | (simp [*]; done) | (simp [i64_w]; done) | (simp [*, i64_w]; done)), H', ⟨by have := HJ3.out; first | omega | exact Nat.le_refl _⟩, ⟨by repeat (first | (with_reducible first | exact HB.out | apply below_alloc | apply pw_below_drewN | apply below_drew1) | exact HB.out)⟩⟩
              · rw [if_neg c12] at H
                have c12b0 : (t102 == 16777216) = false := beq_eq_false_iff_ne.mpr c12
                have c12b1 : (t102 != 16777216) = true := bne_iff_ne.mpr c12
                (first | rw [c12b0] | (simp only [i64_w, i32_w]; rw [c12b0]) | skip)
                have H' := Aside0.mk H
                clear H
                go_wp2
                go_meet
                case rel => exact ⟨_, (ji9), (t102), (by first | rfl | (simp; done) | (simp only [← hji9] <;> (first | rfl | simp)) | (simp [*]; done)), (by first | rfl | (simp; done) | (simp [*]; done) | (simp [i64_w]; done) | (simp [*, i64_w]; done)), H', ⟨by have := HJ3.out; first | omega | exact Nat.le_refl _⟩, ⟨by repeat (first | (with_reducible first | exact HB.out | apply below_alloc | apply pw_below_drewN | apply below_drew1) | exact HB.out)⟩⟩
            case rest =>
              clear HC11
              try clear c1
              try clear c2
              try clear p2
              try clear c3
              try clear c3b0
              try clear c3b1
              try clear c5
              try clear c5b0
              try clear c6
              try clear c6b0
              try clear p6
              try clear c7
              try clear c7b0
              try clear c11
              try clear c12
              try clear c12b0
              try clear c12b1
              try clear p2
              obtain ⟨kq, x7_10, x8_10, rfl, rfl, HA, HJ10, HB⟩ := hcut
              cases kq with
              | zero => exact absurd HA.out (by simp [single_Near.j1])
              | succ kj10 =>
                have H := HA.out
                clear HA
                simp only [single_Near.j1] at H
                by_cases c13 : x8_10 < 8388608
                · rw [if_pos c13] at H
                  have c13b0 : decide (x8_10 < 8388608) = true := decide_eq_true c13
                  clear c13
                  obtain rfl := Option.some.inj H
                  go_wp2
                  go_ret
                  exact ⟨by first | rfl | (simp [errW_none, errW_some] <;> rfl) | (simp only [← hji9]; first | rfl | (simp [errW_none, errW_some] <;> rfl)) | (simp [*, errW_none, errW_some] <;> rfl), by repeat (first | (with_reducible first | exact HB.out | apply below_alloc | apply pw_below_drewN | apply below_drew1) | exact HB.out)⟩
                · rw [if_neg c13] at H
                  have c13b0 : decide (x8_10 < 8388608) = false := decide_eq_false c13
                  clear c13
                  by_cases c14 : (wrap64 (x7_10 + 150)) ≥ 255
                  · rw [if_pos c14] at H
                    have c14b0 : decide (255 ≤ (wrap64 (x7_10 + 150))) = true := decide_eq_true c14
                    clear c14
                    obtain rfl := Option.some.inj H
                    go_wp2
                    go_ret
                    exact ⟨by first | rfl | (simp [errW_none, errW_some] <;> rfl) | (simp only [← hji9]; first | rfl | (simp [errW_none, errW_some] <;> rfl)) | (simp [*, errW_none, errW_some] <;> rfl), by repeat (first | (with_reducible first | exact HB.out | apply below_alloc | apply pw_below_drewN | apply below_drew1) | exact HB.out)⟩
                  · rw [if_neg c14] at H
                    have c14b0 : decide (255 ≤ (wrap64 (x7_10 + 150))) = false := decide_eq_false c14
                    clear c14
                    obtain rfl := Option.some.inj H
                    go_wp2
                    go_ret
                    exact ⟨by first | rfl | (simp [errW_none, errW_some] <;> rfl) | (simp only [← hji9]; first | rfl | (simp [errW_none, errW_some] <;> rfl)) | (simp [*, errW_none, errW_some] <;> rfl), by repeat (first | (with_reducible first | exact HB.out | apply below_alloc | apply pw_below_drewN | apply below_drew1) | exact HB.out)⟩
end Go.Proofs.Yteecekhfpfnepaa.PAll
end

section
namespace Go.Proofs.Yteecekhfpfnepaa.PAll
open Go.RowKit Go.Proofs.YteecekhfpfnepaaW.PrintWords Go.Proofs.YteecekhfpfnepaaW.PrintLast Go.Proofs.YteecekhfpfnepaaW.PrintMore
set_option linter.unusedVariables false
set_option linter.unusedSimpArgs false
theorem run39 (n : Int) (w : World) : (callFunc 39 #[.int .u32 n]).run Try.prog w = .ok (.value (.float .f32 n.toNat)) w := by
  rw [run_callFunc_extern Try.func39 (by kernel_rfl) (by kernel_rfl) (by kernel_rfl) (e := Extern.MathFloatBits.float32frombits) (by kernel_rfl)]; rfl
theorem run38 (n : Nat) (w : World) : (callFunc 38 #[.float .f32 n]).run Try.prog w = .ok (.value (.int .u32 n)) w := by
  rw [run_callFunc_extern Try.func38 (by kernel_rfl) (by kernel_rfl) (by kernel_rfl) (e := Extern.MathFloatBits.float32bits) (by kernel_rfl)]; rfl
set_option maxHeartbeats 400000 in
theorem of_calls (a : Int) (w : World) : Calls Try.prog 31 #[.int .u32 a] w fun e w' => e = .returned (.float .f32 a.toNat) ∧ Drawn0 w w' := by
  have h39 := run39
  go_enter Try.func31, Try.ntmps31
  go_wp2
  go_ret
  exact ⟨by first | rfl | simp, by repeat (first | exact Drawn0.refl _ | apply Drawn0.step)⟩
/-- The bits of a number, a none as the common one. -/
def backV (x : Nat) : Int := if (FloatKind.f32.format.order x x == some .eq) = true then (x : Int) else 2143289344
set_option maxHeartbeats 400000 in
theorem back_calls (x : Nat) (w : World) : Calls Try.prog 30 #[.float .f32 x] w fun e w' => e = .returned (.int .u32 (backV x)) ∧ Drawn0 w w' := by
  have h38 := run38
  unfold backV
  by_cases h : (FloatKind.f32.format.order x x == some .eq) = true
  · rw [if_pos h]
    have h' : (FloatKind.f32.format.order x x != some .eq) = false := by rw [bne, h]; rfl
    go_enter Try.func30, Try.ntmps30
    go_wp2
    go_ret
    exact ⟨by first | rfl | simp, by repeat (first | exact Drawn0.refl _ | apply Drawn0.step)⟩
  · rw [if_neg h]
    have h' : (FloatKind.f32.format.order x x != some .eq) = true := by rw [bne, Bool.eq_false_iff.mpr h]; rfl
    go_enter Try.func30, Try.ntmps30
    go_wp2
    go_ret
    exact ⟨by first | rfl | simp, by repeat (first | exact Drawn0.refl _ | apply Drawn0.step)⟩
theorem cut_nan (op : Nat) (x y : Nat) (t : Nat) : FloatKind.f32.format.order ((Question.nanBits .f32 x y).cut t) ((Question.nanBits .f32 x y).cut t) = none := by
  have e : (Question.nanBits .f32 x y).cut t = (t % 2) * 2147483648 + 2139095040 + 1 + (t / 2) % 8388607 := rfl
  rw [e]
  have h1 : t % 2 < 2 := Nat.mod_lt _ (by omega)
  have h2 : (t / 2) % 8388607 < 8388607 := Nat.mod_lt _ (by decide)
  generalize t % 2 = a at h1
  generalize (t / 2) % 8388607 = c at h2
  have hr : Ieee.single.read (a * 2147483648 + 2139095040 + 1 + c) = .nan ((a * 2147483648 + 2139095040 + 1 + c) / 2147483648 % 2 == 1) (1 + c) := by
    unfold Ieee.Format.read
    have hs : Ieee.single.signWeight = 2147483648 := by decide
    have hb : Ieee.single.binade = 8388608 := by decide
    have hi : Ieee.single.infRung = 2139095040 := by decide
    simp only [hs, hb, hi]
    have hm : (a * 2147483648 + 2139095040 + 1 + c) % 2147483648 = 2139095041 + c := by omega
    rw [hm, if_neg (by omega), if_neg (by omega), if_neg (by omega)]
    have he : a * 2147483648 + 2139095040 + 1 + c = a * 2147483648 + (2139095041 + c) := by omega
    have hx : 2139095041 + c - 2139095040 = 1 + c := by omega
    rw [hx]
  show (Ieee.single.read _).order (Ieee.single.read _) = none
  rw [hr]
  rfl
def arithV : Option Nat → Int
  | some r => backV r
  | none => 2143289344
def arithR (op : BinOp) (x y : Nat) : Option Nat :=
  match op with
  | .add => FloatKind.f32.format.add x y
  | .mul => FloatKind.f32.format.mul x y
  | .quo => FloatKind.f32.format.div x y
  | _ => none
theorem run_arith (op : BinOp) (hop : op = .add ∨ op = .mul ∨ op = .quo) (x y : Nat) (w : World) : ∃ r m, (binOp op 45 (.float .f32 x) (.float .f32 y)).run Try.prog w = .ok (.float .f32 r) (w.drewN m) ∧ backV r = arithV (arithR op x y) := by
  cases h : arithR op x y with
  | some r =>
    refine ⟨r, 0, ?_, rfl⟩
    have : floatBits op .f32 x y = some r := by rcases hop with rfl | rfl | rfl <;> exact h
    exact run_float_arith (P := Try.prog) w op 45 .f32 x y r this
  | none =>
    refine ⟨(Question.nanBits .f32 x y).cut (w.tape w.drawn (.nanBits .f32 x y)), 1, ?_, ?_⟩
    · rcases hop with rfl | rfl | rfl <;> simp only [arithR] at h <;> simp [binOp, Op.floatArith, h, choose, Sem.run, World.drewN]
      all_goals (intro hf; exact absurd hf (by simp [Question.forced]))
    · unfold backV
      rw [cut_nan 0]
      rfl
end Go.Proofs.Yteecekhfpfnepaa.PAll
end

section
namespace Go.Proofs.Yteecekhfpfnepaa.PAll
open Go.RowKit Go.Proofs.YteecekhfpfnepaaW.PrintWords Go.Proofs.YteecekhfpfnepaaW.PrintLast Go.Proofs.YteecekhfpfnepaaW.PrintMore
set_option linter.unusedVariables false
set_option linter.unusedSimpArgs false
def single_Add.f (a0 a1 : Int) : Option Int := some (arithV (arithR .add a0.toNat a1.toNat))
set_option maxHeartbeats 800000 in
theorem single_Add.calls (a0 a1 : Int) (r : Int) (w : World) (h : single_Add.f a0 a1 = some r) :
    Calls Try.prog 13 #[.int .u32 a0, .int .u32 a1] w fun e w' => e = .returned (.int .u32 r) ∧ Drawn0 w w' := by
  obtain rfl := Option.some.inj h
  clear h
  obtain ⟨x, hx⟩ : ∃ x, a0.toNat = x := ⟨_, rfl⟩
  obtain ⟨y, hy⟩ : ∃ y, a1.toNat = y := ⟨_, rfl⟩
  rw [hx, hy]
  have H0 := Aside0.mk (fun W => of_calls a0 W)
  have H1 := Aside0.mk (fun W => of_calls a1 W)
  rw [hx] at H0
  rw [hy] at H1
  clear hx hy
  have HA := Aside0.mk (fun W => run_arith .add (by simp) x y W)
  obtain ⟨V, hV⟩ : ∃ V, arithV (arithR .add x y) = V := ⟨_, rfl⟩
  rw [hV] at HA ⊢
  clear hV
  go_enter Try.func13, Try.ntmps13
  go_wp2_with (first | (go_at_call 31; (with_reducible refine (H0.out _).mono ?_); rintro e w' ⟨rfl, ⟨m1, rfl⟩⟩) | (go_at_call 31; (with_reducible refine (H1.out _).mono ?_); rintro e w' ⟨rfl, ⟨m2, rfl⟩⟩))
  obtain ⟨r, q, hrun, hback⟩ := HA.out (w.drewN (m1 + m2))
  rw [hrun, World.drewN_drewN]
  have HBk := Aside0.mk hback
  clear HA H0 H1 hrun hback
  go_wp2_with (go_at_call 30; (with_reducible refine (back_calls r _).mono ?_); rintro e w' ⟨rfl, ⟨m3, rfl⟩⟩)
  go_ret
  exact ⟨by rw [← HBk.out]; first | rfl | simp, by repeat (first | exact Drawn0.refl _ | apply Drawn0.step | exact ⟨⟨_, rfl⟩⟩)⟩
end Go.Proofs.Yteecekhfpfnepaa.PAll
end

section
namespace Go.Proofs.Yteecekhfpfnepaa.PAll
open Go.RowKit Go.Proofs.YteecekhfpfnepaaW.PrintWords Go.Proofs.YteecekhfpfnepaaW.PrintLast Go.Proofs.YteecekhfpfnepaaW.PrintMore
attribute [local go_sem] max2_int min2_int max_two min_two max_three min_three max_four min_four   -- for this text's walks alone
set_option linter.unusedVariables false
set_option linter.unusedSimpArgs false
def heraldlaw03_awake.f (k : Nat)  : Option (Bool) := (single_Add.f 1065353216 1065353216).bind fun t103 => (if t103 = 1073741824 then ((single_Near.f k 3 (-1)).bind fun t104 => (some (t104 == 1069547520))) else (some false))
set_option maxHeartbeats 8000000 in
set_option maxRecDepth 100000 in
theorem heraldlaw03_awake.calls (k : Nat)  (r : Bool) (w : World) (h : heraldlaw03_awake.f k  = some r) :
    Calls Try.prog 10 #[] w fun e w' => e = .returned (.bool r) ∧ Below w.heap.size w w' := by
  have HB := Aside0.mk (Below.refl w.heap.size w)
  have H : ((single_Add.f 1065353216 1065353216).bind fun t103 => (if t103 = 1073741824 then ((single_Near.f k 3 (-1)).bind fun t104 => (some (t104 == 1069547520))) else (some false))) = some r := h
  clear h
  replace H := Option.bind_eq_some_iff.mp H
  obtain ⟨t103, A10, H⟩ := H
  replace H : (if t103 = 1073741824 then ((single_Near.f k 3 (-1)).bind fun t104 => (some (t104 == 1069547520))) else (some false)) = some r := H
  have A1 := Aside0.mk A10
  clear A10
  by_cases c2 : t103 = 1073741824
  · rw [if_pos c2] at H
    have c2b0 : (t103 == 1073741824) = true := beq_iff_eq.mpr c2
    have c2b1 : (t103 != 1073741824) = false := bne_eq_false_iff_eq.mpr c2
    clear c2
    replace H := Option.bind_eq_some_iff.mp H
    obtain ⟨t104, A30, H⟩ := H
    replace H : (some (t104 == 1069547520)) = some r := H
    have A3 := Aside0.mk A30
    clear A30
    obtain rfl := Option.some.inj H
    go_enter Try.func10, Try.ntmps10
    go_wp2_with (first | ((with_reducible refine gate_callee (f := 13) rfl ?_); refine goesL_ (some 1) rfl rfl Try.func13 (by kernel_rfl) rfl #[.int .u32 1065353216, .int .u32 1065353216] rfl (by (try simp only [List.map_toArray, List.map_cons, List.map_nil]); first | done | rfl | (simp only [List.length_drop, List.length_take]; rfl)) ?_; (with_reducible refine (single_Add.calls 1065353216 1065353216 t103 _ A1.out).mono ?_); rintro e w' ⟨rfl, ⟨nd, rfl⟩⟩; refine ⟨_, rfl, ?_⟩) | (go_at_call 11; (with_reducible refine (single_Near.calls k 3 (-1) t104 _ A3.out).mono ?_); rintro e w4 ⟨rfl, hb⟩; have n0_ := Aside0.mk (below_step (by repeat (first | (with_reducible first | exact HB.out | apply below_alloc | apply pw_below_drewN | apply below_drew1) | exact HB.out)) hb); clear HB; have HB := n0_; clear n0_; (try clear hb); (try clear hb2); (try clear hk); (try clear hi)))
    go_ret
    exact ⟨by first | rfl | (simp [errW_none, errW_some] <;> rfl) | (simp [*, errW_none, errW_some] <;> rfl), by repeat (first | (with_reducible first | exact HB.out | apply below_alloc | apply pw_below_drewN | apply below_drew1) | exact HB.out)⟩
  · rw [if_neg c2] at H
    have c2b0 : (t103 == 1073741824) = false := beq_eq_false_iff_ne.mpr c2
    have c2b1 : (t103 != 1073741824) = true := bne_iff_ne.mpr c2
    obtain rfl := Option.some.inj H
    go_enter Try.func10, Try.ntmps10
    go_wp2_with (first | ((with_reducible refine gate_callee (f := 13) rfl ?_); refine goesL_ (some 1) rfl rfl Try.func13 (by kernel_rfl) rfl #[.int .u32 1065353216, .int .u32 1065353216] rfl (by (try simp only [List.map_toArray, List.map_cons, List.map_nil]); first | done | rfl | (simp only [List.length_drop, List.length_take]; rfl)) ?_; (with_reducible refine (single_Add.calls 1065353216 1065353216 t103 _ A1.out).mono ?_); rintro e w' ⟨rfl, ⟨nd, rfl⟩⟩; refine ⟨_, rfl, ?_⟩))
    go_ret
    exact ⟨by first | rfl | (simp [errW_none, errW_some] <;> rfl) | (simp [*, errW_none, errW_some] <;> rfl), by repeat (first | (with_reducible first | exact HB.out | apply below_alloc | apply pw_below_drewN | apply below_drew1) | exact HB.out)⟩
end Go.Proofs.Yteecekhfpfnepaa.PAll
end

section
namespace Go.Proofs.Yteecekhfpfnepaa.PAll
open Go.RowKit Go.Proofs.YteecekhfpfnepaaW.PrintWords Go.Proofs.YteecekhfpfnepaaW.PrintLast Go.Proofs.YteecekhfpfnepaaW.PrintMore
attribute [local go_sem] max2_int min2_int max_two min_two max_three min_three max_four min_four   -- for this text's walks alone
set_option linter.unusedVariables false
set_option linter.unusedSimpArgs false
def single_Sub.f (a0 : Int) (a1 : Int) : Option (Int) := (single_Add.f a0 (Go.bits .xor .u32 a1 2147483648)).bind fun t189 => (some t189)
set_option maxHeartbeats 8000000 in
set_option maxRecDepth 100000 in
theorem single_Sub.calls (a0 : Int) (a1 : Int) (r : Int) (w : World) (h : single_Sub.f a0 a1 = some r) :
    Calls Try.prog 21 #[.int .u32 a0, .int .u32 a1] w fun e w' => e = .returned (.int .u32 r) ∧ Drawn0 w w' := by
  have H : ((single_Add.f a0 (Go.bits .xor .u32 a1 2147483648)).bind fun t189 => (some t189)) = some r := h
  clear h
  replace H := Option.bind_eq_some_iff.mp H
  obtain ⟨t189, A30, H⟩ := H
  replace H : (some t189) = some r := H
  have A3 := Aside0.mk A30
  clear A30
  obtain rfl := Option.some.inj H
  go_enter Try.func21, Try.ntmps21
  go_wp2_with (first | ((with_reducible refine gate_callee (f := 13) rfl ?_); refine goesL_ (some 8) rfl rfl Try.func13 (by kernel_rfl) rfl #[.int .u32 a0, .int .u32 (Go.bits .xor .u32 a1 2147483648)] rfl (by (try simp only [List.map_toArray, List.map_cons, List.map_nil]); first | done | rfl | (simp only [List.length_drop, List.length_take]; rfl)) ?_; (with_reducible refine (single_Add.calls a0 (Go.bits .xor .u32 a1 2147483648) t189 _ A3.out).mono ?_); rintro e w' ⟨rfl, ⟨nd, rfl⟩⟩; refine ⟨_, rfl, ?_⟩))
  go_ret
  exact ⟨by first | rfl | (simp; done) | (simp [*]; done), by repeat (first | exact Drawn0.refl _ | apply Drawn0.step)⟩
end Go.Proofs.Yteecekhfpfnepaa.PAll
end

section
namespace Go.Proofs.Yteecekhfpfnepaa.PAll
open Go.RowKit Go.Proofs.YteecekhfpfnepaaW.PrintWords Go.Proofs.YteecekhfpfnepaaW.PrintLast Go.Proofs.YteecekhfpfnepaaW.PrintMore
attribute [local go_sem] max2_int min2_int max_two min_two max_three min_three max_four min_four   -- for this text's walks alone
set_option linter.unusedVariables false
set_option linter.unusedSimpArgs false
def heraldref03_length.l0 : Nat → Int → Int → Option (Int)
  | 0, _, _ => none
  | k + 1, x0, x3 => if x0 > 0 then (heraldref03_length.l0 k (IntKind.u64.wrap (Int.tdiv x0 2)) (wrap64 (x3 + 1))) else (some x3)
def heraldref03_length.f (k : Nat) (a0 : Int) : Option (Int) := heraldref03_length.l0 k a0 0
set_option maxHeartbeats 8000000 in
set_option maxRecDepth 100000 in
theorem heraldref03_length.calls (k : Nat) (a0 : Int) (r : Int) (w : World) (h : heraldref03_length.f k a0 = some r) :
    Calls Try.prog 37 #[.int .u64 a0] w fun e w' => e = .returned (.int .i64 r) ∧ Drawn0 w w' := by
  have H : (heraldref03_length.l0 k a0 0) = some r := h
  clear h
  have H' := Aside0.mk H
  clear H
  go_enter Try.func37, Try.ntmps37
  go_wp2
  go_loopg [0, 3] k (fun kq v0 v3 w' => ∃ (x0_1 : Int) (x3_1 : Int), v0 = .int .u64 x0_1 ∧ v3 = .int .i64 x3_1 ∧ Aside0 (heraldref03_length.l0 kq x0_1 x3_1 = some r) ∧ Aside0 (kq ≤ k) ∧ Drawn0 w w')
  case atStart => exact ⟨(a0), (0), (by first | rfl | (simp; done) | (simp [*]; done) | (simp [i64_w]; done) | (simp [*, i64_w]; done)), (by first | rfl | (simp; done) | (simp [*]; done) | (simp [i64_w]; done) | (simp [*, i64_w]; done)), H', ⟨Nat.le_refl _⟩, by repeat (first | exact Drawn0.refl _ | apply Drawn0.step)⟩
  case round =>
    clear H'
    obtain ⟨x0_1, x3_1, rfl, rfl, HA, HK1, ⟨m1, rfl⟩⟩ := hrel
    cases gk with
    | zero => exact absurd HA.out (by simp [heraldref03_length.l0])
    | succ k1 =>
      have H := HA.out
      clear HA
      simp only [heraldref03_length.l0] at H
      by_cases c2 : x0_1 > 0
      · rw [if_pos c2] at H
        have c2b0 : decide (0 < x0_1) = true := decide_eq_true c2
        clear c2
        have H' := Aside0.mk H
        clear H
        go_wp2
        go_roundg k1
        case measure => have := HK1.out; omega
        case rel => exact ⟨(IntKind.u64.wrap (Int.tdiv x0_1 2)), (wrap64 (x3_1 + 1)), (by first | rfl | (simp; done) | (simp [*]; done) | (simp [i64_w]; done) | (simp [*, i64_w]; done)), (by first | rfl | (simp; done) | (simp [*]; done) | (simp [i64_w]; done) | (simp [*, i64_w]; done)), H', ⟨by have := HK1.out; omega⟩, by repeat (first | exact Drawn0.refl _ | apply Drawn0.step)⟩
      · rw [if_neg c2] at H
        have c2b0 : decide (0 < x0_1) = false := decide_eq_false c2
        clear c2
        obtain rfl := Option.some.inj H
        go_wp2
        go_ret
        exact ⟨by first | rfl | (simp; done) | (simp [*]; done), by repeat (first | exact Drawn0.refl _ | apply Drawn0.step)⟩
mutual
def heraldref03_near.j0 : Nat → Int → Int → Int → Option (Int)
  | 0, _, _, _ => none
  | k + 1, x1, x2, x7 => if x1 = 0 then (heraldref03_near.j1 k x1 x2 x7 true) else (heraldref03_near.j1 k x1 x2 x7 (decide (x2 < (-400))))
def heraldref03_near.j1 : Nat → Int → Int → Int → Bool → Option (Int)
  | 0, _, _, _, _ => none
  | k + 1, x1, x2, x7, x19 => if x19 = true then (some x7) else (if x2 > 400 then (some ((x7 + 2139095040) % 4294967296)) else ((heraldref03_length.f k x1).bind fun t105 => (if (wrap64 ((wrap64 (x2 + t105)) - 24)) < (-149) then (heraldref03_near.j2 k x1 x2 x7 (-149)) else (heraldref03_near.j2 k x1 x2 x7 (wrap64 ((wrap64 (x2 + t105)) - 24))))))
def heraldref03_near.j2 : Nat → Int → Int → Int → Int → Option (Int)
  | 0, _, _, _, _ => none
  | k + 1, x1, x2, x7, x8 => if (wrap64 (x8 - x2)) ≤ 0 then (if 0 ≤ (IntKind.u64.wrap (wrap64 (-(wrap64 (x8 - x2))))) then (heraldref03_near.j3 k x7 x8 (shl .u64 x1 (IntKind.u64.wrap (wrap64 (-(wrap64 (x8 - x2))))))) else (none)) else (if (wrap64 (x8 - x2)) ≤ 64 then (if (wrap64 (x8 - x2)) < 64 then (if 0 ≤ (IntKind.u64.wrap (wrap64 (x8 - x2))) then (if 0 ≤ (IntKind.u64.wrap (wrap64 ((wrap64 (x8 - x2)) - 1))) then (if (IntKind.u64.wrap (x1 - (shl .u64 (shr .u64 x1 (IntKind.u64.wrap (wrap64 (x8 - x2)))) (IntKind.u64.wrap (wrap64 (x8 - x2)))))) > (shl .u64 1 (IntKind.u64.wrap (wrap64 ((wrap64 (x8 - x2)) - 1)))) then (heraldref03_near.j3 k x7 x8 (IntKind.u64.wrap ((shr .u64 x1 (IntKind.u64.wrap (wrap64 (x8 - x2)))) + 1))) else (if (IntKind.u64.wrap (x1 - (shl .u64 (shr .u64 x1 (IntKind.u64.wrap (wrap64 (x8 - x2)))) (IntKind.u64.wrap (wrap64 (x8 - x2)))))) = (shl .u64 1 (IntKind.u64.wrap (wrap64 ((wrap64 (x8 - x2)) - 1)))) then (if (Int.tmod (shr .u64 x1 (IntKind.u64.wrap (wrap64 (x8 - x2)))) 2) = 1 then (heraldref03_near.j3 k x7 x8 (IntKind.u64.wrap ((shr .u64 x1 (IntKind.u64.wrap (wrap64 (x8 - x2)))) + 1))) else (heraldref03_near.j3 k x7 x8 (shr .u64 x1 (IntKind.u64.wrap (wrap64 (x8 - x2)))))) else (heraldref03_near.j3 k x7 x8 (shr .u64 x1 (IntKind.u64.wrap (wrap64 (x8 - x2))))))) else (none)) else (none)) else (if 0 ≤ (IntKind.u64.wrap (wrap64 ((wrap64 (x8 - x2)) - 1))) then (if x1 > (shl .u64 1 (IntKind.u64.wrap (wrap64 ((wrap64 (x8 - x2)) - 1)))) then (heraldref03_near.j3 k x7 x8 (0 + 1)) else (if x1 = (shl .u64 1 (IntKind.u64.wrap (wrap64 ((wrap64 (x8 - x2)) - 1)))) then (if ((0 : Int) % 2) = 1 then (heraldref03_near.j3 k x7 x8 (0 + 1)) else (heraldref03_near.j3 k x7 x8 0)) else (heraldref03_near.j3 k x7 x8 0))) else (none))) else (heraldref03_near.j3 k x7 x8 0))
def heraldref03_near.j3 : Nat → Int → Int → Int → Option (Int)
  | 0, _, _, _ => none
  | k + 1, x7, x8, x9 => if x9 = 16777216 then (heraldref03_near.j4 k x7 (wrap64 (x8 + 1)) (IntKind.u64.wrap (Int.tdiv x9 2))) else (heraldref03_near.j4 k x7 x8 x9)
def heraldref03_near.j4 : Nat → Int → Int → Int → Option (Int)
  | 0, _, _, _ => none
  | k + 1, x7, x8, x9 => if x9 < 8388608 then (some ((x7 + ((x9) % 4294967296)) % 4294967296)) else (if (wrap64 (x8 + 150)) ≥ 255 then (some ((x7 + 2139095040) % 4294967296)) else (some ((((x7 + ((((wrap64 (x8 + 150)) % 4294967296) * 8388608) % 4294967296)) % 4294967296) + ((IntKind.u64.wrap (x9 - 8388608)) % 4294967296)) % 4294967296)))
end
def heraldref03_near.f (k : Nat) (a0 : Bool) (a1 : Int) (a2 : Int) : Option (Int) := if a0 = true then (heraldref03_near.j0 k a1 a2 2147483648) else (heraldref03_near.j0 k a1 a2 0)
set_option maxHeartbeats 8000000 in
set_option maxRecDepth 100000 in
theorem heraldref03_near.calls (k : Nat) (a0 : Bool) (a1 : Int) (a2 : Int) (r : Int) (w : World) (h : heraldref03_near.f k a0 a1 a2 = some r) :
    Calls Try.prog 29 #[.bool a0, .int .u64 a1, .int .i64 a2] w fun e w' => e = .returned (.int .u32 r) ∧ Drawn0 w w' := by
  have H : (if a0 = true then (heraldref03_near.j0 k a1 a2 2147483648) else (heraldref03_near.j0 k a1 a2 0)) = some r := h
  clear h
  have HC4 := Aside0.mk H
  clear H
  go_enter Try.func29, Try.ntmps29
  go_upto_if 13 with (fail)
  go_cut [7] (fun v7 wc => ∃ (kq : Nat) (x7_3 : Int), v7 = .int .u32 x7_3 ∧ Aside0 (heraldref03_near.j0 kq a1 a2 x7_3 = some r) ∧ Aside0 (kq ≤ k) ∧ Drawn0 w wc)
  case first =>
    have H := HC4.out
    clear HC4
    by_cases c5 : a0 = true
    · subst c5
      have H1 : (heraldref03_near.j0 k a1 a2 2147483648) = some r := by rw [if_pos rfl] at H; exact H
      clear H
      have H := H1
      clear H1
      have H' := Aside0.mk H
      clear H
      go_wp2
      go_meet
      case rel => exact ⟨_, (2147483648), (by first | rfl | (simp; done) | (simp [*]; done) | (simp [i64_w]; done) | (simp [*, i64_w]; done)), H', ⟨by first | omega | exact Nat.le_refl _⟩, by repeat (first | exact Drawn0.refl _ | apply Drawn0.step)⟩
    · replace c5 := Bool.eq_false_iff.mpr c5
      subst c5
      have H1 : (heraldref03_near.j0 k a1 a2 0) = some r := by rw [if_neg (show ¬ (false = true) by decide)] at H; exact H
      clear H
      have H := H1
      clear H1
      have H' := Aside0.mk H
      clear H
      go_wp2
      go_meet
      case rel => exact ⟨_, (0), (by first | rfl | (simp; done) | (simp [*]; done) | (simp [i64_w]; done) | (simp [*, i64_w]; done)), H', ⟨by first | omega | exact Nat.le_refl _⟩, by repeat (first | exact Drawn0.refl _ | apply Drawn0.step)⟩
  case rest =>
    clear HC4
    try clear c2
    try clear p2
    try clear c5
    obtain ⟨kq, x7_3, rfl, HA, HJ3, ⟨mc3, rfl⟩⟩ := hcut
    cases kq with
    | zero => exact absurd HA.out (by simp [heraldref03_near.j0])
    | succ kj3 =>
      have H := HA.out
      clear HA
      simp only [heraldref03_near.j0] at H
      have HC6 := Aside0.mk H
      clear H
      go_upto_region 4 with (fail)
      go_cut [19] (fun v19 wc => ∃ (kq : Nat) (x19_5 : Bool), v19 = .bool x19_5 ∧ Aside0 (heraldref03_near.j1 kq a1 a2 x7_3 x19_5 = some r) ∧ Aside0 (kq ≤ kj3) ∧ Drawn0 w wc)
      case first =>
        have H := HC6.out
        clear HC6
        by_cases c7 : a1 = 0
        · rw [if_pos c7] at H
          have c7b0 : (a1 == 0) = true := beq_iff_eq.mpr c7
          have c7b1 : (a1 != 0) = false := bne_eq_false_iff_eq.mpr c7
          clear c7
          (first | rw [c7b0] | (simp only [i64_w, i32_w]; rw [c7b0]) | skip)
          have H' := Aside0.mk H
          clear H
          go_wp2
          go_meet
          case rel => exact ⟨_, (true), (by first | rfl | (simp; done) | (simp [*]; done) | (simp [i64_w]; done) | (simp [*, i64_w]; done)), H', ⟨by have := HJ3.out; first | omega | exact Nat.le_refl _⟩, by repeat (first | exact Drawn0.refl _ | apply Drawn0.step)⟩
        · rw [if_neg c7] at H
          have c7b0 : (a1 == 0) = false := beq_eq_false_iff_ne.mpr c7
          have c7b1 : (a1 != 0) = true := bne_iff_ne.mpr c7
          (first | rw [c7b0] | (simp only [i64_w, i32_w]; rw [c7b0]) | skip)
          have H' := Aside0.mk H
          clear H
          go_wp2
          go_meet
          case rel => exact ⟨_, (decide (a2 < (-400))), (by first | rfl | (simp; done) | (simp [*]; done) | (simp [i64_w]; done) | (simp [*, i64_w]; done)), H', ⟨by have := HJ3.out; first | omega | exact Nat.le_refl _⟩, by repeat (first | exact Drawn0.refl _ | apply Drawn0.step)⟩
      case rest =>
        clear HC6
        try clear c2
        try clear p2
        try clear c3
        try clear c5
        try clear c7
        try clear c7b0
        try clear c7b1
        try clear p2
        obtain ⟨kq, x19_5, rfl, HA, HJ5, ⟨mc5, rfl⟩⟩ := hcut
        cases kq with
        | zero => exact absurd HA.out (by simp [heraldref03_near.j1])
        | succ kj5 =>
          have H := HA.out
          clear HA
          simp only [heraldref03_near.j1] at H
          by_cases c8 : x19_5 = true
          · subst c8
            have H1 : (some x7_3) = some r := by rw [if_pos rfl] at H; exact H
            clear H
            have H := H1
            clear H1
            obtain rfl := Option.some.inj H
            go_wp2
            go_ret
            exact ⟨by first | rfl | (simp; done) | (simp [*]; done), by repeat (first | exact Drawn0.refl _ | apply Drawn0.step)⟩
          · replace c8 := Bool.eq_false_iff.mpr c8
            subst c8
            have H1 : (if a2 > 400 then (some ((x7_3 + 2139095040) % 4294967296)) else ((heraldref03_length.f kj5 a1).bind fun t105 => (if (wrap64 ((wrap64 (a2 + t105)) - 24)) < (-149) then (heraldref03_near.j2 kj5 a1 a2 x7_3 (-149)) else (heraldref03_near.j2 kj5 a1 a2 x7_3 (wrap64 ((wrap64 (a2 + t105)) - 24)))))) = some r := by rw [if_neg (show ¬ (false = true) by decide)] at H; exact H
            clear H
            have H := H1
            clear H1
            by_cases c9 : a2 > 400
            · rw [if_pos c9] at H
              have c9b0 : decide (400 < a2) = true := decide_eq_true c9
              clear c9
              obtain rfl := Option.some.inj H
              go_wp2
              go_ret
              exact ⟨by first | rfl | (simp; done) | (simp [*]; done), by repeat (first | exact Drawn0.refl _ | apply Drawn0.step)⟩
            · rw [if_neg c9] at H
              have c9b0 : decide (400 < a2) = false := decide_eq_false c9
              clear c9
              replace H := Option.bind_eq_some_iff.mp H
              obtain ⟨t105, A100, H⟩ := H
              replace H : (if (wrap64 ((wrap64 (a2 + t105)) - 24)) < (-149) then (heraldref03_near.j2 kj5 a1 a2 x7_3 (-149)) else (heraldref03_near.j2 kj5 a1 a2 x7_3 (wrap64 ((wrap64 (a2 + t105)) - 24)))) = some r := H
              have A10 := Aside0.mk A100
              clear A100
              have HC11 := Aside0.mk H
              clear H
              go_upto_if 31 with (first | ((with_reducible refine gate_callee (f := 37) rfl ?_); refine goesL_ (some 27) rfl rfl Try.func37 (by kernel_rfl) rfl #[.int .u64 a1] rfl (by (try simp only [List.map_toArray, List.map_cons, List.map_nil]); first | done | rfl | (simp only [List.length_drop, List.length_take]; rfl)) ?_; (with_reducible refine (heraldref03_length.calls kj5 a1 t105 _ A10.out).mono ?_); rintro e w' ⟨rfl, ⟨nd, rfl⟩⟩; refine ⟨_, rfl, ?_⟩))
              (try simp only [Act.put, List.setIfInBounds_toArray, List.set_cons_zero, List.set_cons_succ])
              go_cut [8] (fun v8 wc => ∃ (kq : Nat) (x8_10 : Int), v8 = .int .i64 x8_10 ∧ Aside0 (heraldref03_near.j2 kq a1 a2 x7_3 x8_10 = some r) ∧ Aside0 (kq ≤ kj5) ∧ Drawn0 w wc)
              case first =>
                have H := HC11.out
                clear HC11
                by_cases c12 : (wrap64 ((wrap64 (a2 + t105)) - 24)) < (-149)
                · rw [if_pos c12] at H
                  have c12b0 : decide ((wrap64 ((wrap64 (a2 + t105)) - 24)) < (-149)) = true := decide_eq_true c12
                  clear c12
                  (first | rw [c12b0] | (simp only [i64_w, i32_w]; rw [c12b0]) | skip)
                  have H' := Aside0.mk H
                  clear H
                  go_wp2
                  go_meet
                  case rel => exact ⟨_, ((-149)), (by first | rfl | (simp; done) | (simp [*]; done) | (simp [i64_w]; done) | (simp [*, i64_w]; done)), H', ⟨by have := HJ3.out; have := HJ5.out; first | omega | exact Nat.le_refl _⟩, by repeat (first | exact Drawn0.refl _ | apply Drawn0.step)⟩
                · rw [if_neg c12] at H
                  have c12b0 : decide ((wrap64 ((wrap64 (a2 + t105)) - 24)) < (-149)) = false := decide_eq_false c12
                  clear c12
                  (first | rw [c12b0] | (simp only [i64_w, i32_w]; rw [c12b0]) | skip)
                  have H' := Aside0.mk H
                  clear H
                  go_wp2
                  go_meet
                  case rel => exact ⟨_, (wrap64 ((wrap64 (a2 + t105)) - 24)), (by first | rfl | (simp; done) | (simp [*]; done) | (simp [i64_w]; done) | (simp [*, i64_w]; done)), H', ⟨by have := HJ3.out; have := HJ5.out; first | omega | exact Nat.le_refl _⟩, by repeat (first | exact Drawn0.refl _ | apply Drawn0.step)⟩
              case rest =>
                clear HC11
                try clear c1
                try clear c2
                try clear p2
                try clear c3
                try clear c5
                try clear p6
                try clear c7
                try clear c7b0
                try clear c7b1
                try clear c8
                try clear c9
                try clear c9b0
                try clear c12
                try clear c12b0
                try clear p2
                obtain ⟨kq, x8_10, rfl, HA, HJ10, ⟨mc10, rfl⟩⟩ := hcut
                cases kq with
                | zero => exact absurd HA.out (by simp [heraldref03_near.j2])
                | succ kj10 =>
                  have H := HA.out
                  clear HA
                  simp only [heraldref03_near.j2] at H
                  have HC13 := Aside0.mk H
                  clear H
                  go_upto_if 36 with (fail)
                  go_cut [9] (fun v9 wc => ∃ (kq : Nat) (x9_12 : Int), v9 = .int .u64 x9_12 ∧ Aside0 (heraldref03_near.j3 kq x7_3 x8_10 x9_12 = some r) ∧ Aside0 (kq ≤ kj10) ∧ Drawn0 w wc)
                  case first =>
                    have H := HC13.out
                    clear HC13
                    by_cases c14 : (wrap64 (x8_10 - a2)) ≤ 0
                    · rw [if_pos c14] at H
                      have c14b0 : decide ((wrap64 (x8_10 - a2)) ≤ 0) = true := decide_eq_true c14
                      clear c14
                      (first | rw [c14b0] | (simp only [i64_w, i32_w]; rw [c14b0]) | skip)
                      obtain ⟨ji15, hji15⟩ : ∃ j_ : Int, (IntKind.u64.wrap (wrap64 (-(wrap64 (x8_10 - a2))))) = j_ := ⟨_, rfl⟩
                      replace H : (if 0 ≤ (ji15) then (heraldref03_near.j3 kj10 x7_3 x8_10 (shl .u64 a1 (ji15))) else (none)) = some r := by first | (rw [hji15] at H; exact H) | (simp only [hji15] at H ⊢; exact H)
                      by_cases c16 : 0 ≤ (ji15)
                      · rw [if_pos c16] at H
                        have c16b0 := eq_true c16
                        have c16b1 : decide (0 ≤ (ji15)) = true := decide_eq_true c16
                        clear c16
                        obtain ⟨ji17, hji17⟩ : ∃ j_ : Int, (shl .u64 a1 (ji15)) = j_ := ⟨_, rfl⟩
                        replace H : (heraldref03_near.j3 kj10 x7_3 x8_10 ji17) = some r := by first | (rw [hji17] at H; exact H) | (simp only [hji17] at H ⊢; exact H)
                        have hji17_ : (IntKind.u64.wrap (a1 * 2 ^ min (ji15).toNat 64)) = ji17 := hji17
                        have hji17z : (ji15) ≤ 64 → (IntKind.u64.wrap (a1 * 2 ^ (ji15).toNat)) = ji17 := shl_small hji17
                        have H' := Aside0.mk H
                        clear H
                        go_wp2
                        go_meet
                        case rel => exact ⟨_, (ji17), (by first | rfl | (simp; done) | (simp only [← hji17] <;> (first | rfl | simp)) | (simp [*]; done)), H', ⟨by have := HJ3.out; have := HJ5.out; have := HJ10.out; first | omega | exact Nat.le_refl _⟩, by repeat (first | exact Drawn0.refl _ | apply Drawn0.step)⟩
                      · rw [if_neg c16] at H
                        exact absurd H (by simp)
                    · rw [if_neg c14] at H
                      have c14b0 : decide ((wrap64 (x8_10 - a2)) ≤ 0) = false := decide_eq_false c14
                      clear c14
                      (first | rw [c14b0] | (simp only [i64_w, i32_w]; rw [c14b0]) | skip)
                      by_cases c18 : (wrap64 (x8_10 - a2)) ≤ 64
                      · rw [if_pos c18] at H
                        have c18b0 : decide ((wrap64 (x8_10 - a2)) ≤ 64) = true := decide_eq_true c18
                        clear c18
                        by_cases c19 : (wrap64 (x8_10 - a2)) < 64
                        · rw [if_pos c19] at H
                          have c19b0 : decide ((wrap64 (x8_10 - a2)) < 64) = true := decide_eq_true c19
                          clear c19
                          obtain ⟨ji20, hji20⟩ : ∃ j_ : Int, (IntKind.u64.wrap (wrap64 (x8_10 - a2))) = j_ := ⟨_, rfl⟩
                          replace H : (if 0 ≤ (ji20) then (if 0 ≤ (IntKind.u64.wrap (wrap64 ((wrap64 (x8_10 - a2)) - 1))) then (if (IntKind.u64.wrap (a1 - (shl .u64 (shr .u64 a1 (ji20)) (ji20)))) > (shl .u64 1 (IntKind.u64.wrap (wrap64 ((wrap64 (x8_10 - a2)) - 1)))) then (heraldref03_near.j3 kj10 x7_3 x8_10 (IntKind.u64.wrap ((shr .u64 a1 (ji20)) + 1))) else (if (IntKind.u64.wrap (a1 - (shl .u64 (shr .u64 a1 (ji20)) (ji20)))) = (shl .u64 1 (IntKind.u64.wrap (wrap64 ((wrap64 (x8_10 - a2)) - 1)))) then (if (Int.tmod (shr .u64 a1 (ji20)) 2) = 1 then (heraldref03_near.j3 kj10 x7_3 x8_10 (IntKind.u64.wrap ((shr .u64 a1 (ji20)) + 1))) else (heraldref03_near.j3 kj10 x7_3 x8_10 (shr .u64 a1 (ji20)))) else (heraldref03_near.j3 kj10 x7_3 x8_10 (shr .u64 a1 (ji20))))) else (none)) else (none)) = some r := by first | (rw [hji20] at H; exact H) | (simp only [hji20] at H ⊢; exact H)
                          by_cases c21 : 0 ≤ (ji20)
                          · rw [if_pos c21] at H
                            have c21b0 := eq_true c21
                            have c21b1 : decide (0 ≤ (ji20)) = true := decide_eq_true c21
                            clear c21
                            obtain ⟨ji22, hji22⟩ : ∃ j_ : Int, (shr .u64 a1 (ji20)) = j_ := ⟨_, rfl⟩
                            replace H : (if 0 ≤ (IntKind.u64.wrap (wrap64 ((wrap64 (x8_10 - a2)) - 1))) then (if (IntKind.u64.wrap (a1 - (shl .u64 (ji22) (ji20)))) > (shl .u64 1 (IntKind.u64.wrap (wrap64 ((wrap64 (x8_10 - a2)) - 1)))) then (heraldref03_near.j3 kj10 x7_3 x8_10 (IntKind.u64.wrap ((ji22) + 1))) else (if (IntKind.u64.wrap (a1 - (shl .u64 (ji22) (ji20)))) = (shl .u64 1 (IntKind.u64.wrap (wrap64 ((wrap64 (x8_10 - a2)) - 1)))) then (if (Int.tmod (ji22) 2) = 1 then (heraldref03_near.j3 kj10 x7_3 x8_10 (IntKind.u64.wrap ((ji22) + 1))) else (heraldref03_near.j3 kj10 x7_3 x8_10 ji22)) else (heraldref03_near.j3 kj10 x7_3 x8_10 ji22))) else (none)) = some r := by first | (rw [hji22] at H; exact H) | (simp only [hji22] at H ⊢; exact H)
                            have hji22_ : (a1 / 2 ^ min (ji20).toNat 64) = ji22 := hji22
                            have hji22z : (ji20) ≤ 64 → (a1 / 2 ^ (ji20).toNat) = ji22 := shr_small hji22
                            have c23b0 := eq_true (of_decide_eq_true (by first | (with_reducible assumption) | assumption) : 0 ≤ (ji20))
                            obtain ⟨ji24, hji24⟩ : ∃ j_ : Int, (shl .u64 (ji22) (ji20)) = j_ := ⟨_, rfl⟩
                            replace H : (if 0 ≤ (IntKind.u64.wrap (wrap64 ((wrap64 (x8_10 - a2)) - 1))) then (if (IntKind.u64.wrap (a1 - (ji24))) > (shl .u64 1 (IntKind.u64.wrap (wrap64 ((wrap64 (x8_10 - a2)) - 1)))) then (heraldref03_near.j3 kj10 x7_3 x8_10 (IntKind.u64.wrap ((ji22) + 1))) else (if (IntKind.u64.wrap (a1 - (ji24))) = (shl .u64 1 (IntKind.u64.wrap (wrap64 ((wrap64 (x8_10 - a2)) - 1)))) then (if (Int.tmod (ji22) 2) = 1 then (heraldref03_near.j3 kj10 x7_3 x8_10 (IntKind.u64.wrap ((ji22) + 1))) else (heraldref03_near.j3 kj10 x7_3 x8_10 ji22)) else (heraldref03_near.j3 kj10 x7_3 x8_10 ji22))) else (none)) = some r := by first | (rw [hji24] at H; exact H) | (simp only [hji24] at H ⊢; exact H)
                            have hji24_ : (IntKind.u64.wrap ((ji22) * 2 ^ min (ji20).toNat 64)) = ji24 := hji24
                            have hji24z : (ji20) ≤ 64 → (IntKind.u64.wrap ((ji22) * 2 ^ (ji20).toNat)) = ji24 := shl_small hji24
                            obtain ⟨ji25, hji25⟩ : ∃ j_ : Int, (IntKind.u64.wrap (wrap64 ((wrap64 (x8_10 - a2)) - 1))) = j_ := ⟨_, rfl⟩
                            replace H : (if 0 ≤ (ji25) then (if (IntKind.u64.wrap (a1 - (ji24))) > (shl .u64 1 (ji25)) then (heraldref03_near.j3 kj10 x7_3 x8_10 (IntKind.u64.wrap ((ji22) + 1))) else (if (IntKind.u64.wrap (a1 - (ji24))) = (shl .u64 1 (ji25)) then (if (Int.tmod (ji22) 2) = 1 then (heraldref03_near.j3 kj10 x7_3 x8_10 (IntKind.u64.wrap ((ji22) + 1))) else (heraldref03_near.j3 kj10 x7_3 x8_10 ji22)) else (heraldref03_near.j3 kj10 x7_3 x8_10 ji22))) else (none)) = some r := by first | (rw [hji25] at H; exact H) | (simp only [hji25] at H ⊢; exact H)
                            by_cases c26 : 0 ≤ (ji25)
                            · rw [if_pos c26] at H
                              have c26b0 := eq_true c26
                              have c26b1 : decide (0 ≤ (ji25)) = true := decide_eq_true c26
                              clear c26
                              obtain ⟨ji27, hji27⟩ : ∃ j_ : Int, (shl .u64 1 (ji25)) = j_ := ⟨_, rfl⟩
                              replace H : (if (IntKind.u64.wrap (a1 - (ji24))) > (ji27) then (heraldref03_near.j3 kj10 x7_3 x8_10 (IntKind.u64.wrap ((ji22) + 1))) else (if (IntKind.u64.wrap (a1 - (ji24))) = (ji27) then (if (Int.tmod (ji22) 2) = 1 then (heraldref03_near.j3 kj10 x7_3 x8_10 (IntKind.u64.wrap ((ji22) + 1))) else (heraldref03_near.j3 kj10 x7_3 x8_10 ji22)) else (heraldref03_near.j3 kj10 x7_3 x8_10 ji22))) = some r := by first | (rw [hji27] at H; exact H) | (simp only [hji27] at H ⊢; exact H)
                              have hji27_ : (IntKind.u64.wrap (1 * 2 ^ min (ji25).toNat 64)) = ji27 := hji27
                              have hji27z : (ji25) ≤ 64 → (IntKind.u64.wrap (1 * 2 ^ (ji25).toNat)) = ji27 := shl_small hji27
                              have hji27u : (IntKind.u64.wrap (2 ^ min (ji25).toNat 64)) = ji27 := by have h_ := hji27_; rw [Int.one_mul] at h_; exact h_
                              have hji27v : (ji25) ≤ 64 → (IntKind.u64.wrap (2 ^ (ji25).toNat)) = ji27 := fun hle_ => by have h_ := hji27z hle_; rw [Int.one_mul] at h_; exact h_
                              by_cases c28 : (IntKind.u64.wrap (a1 - (ji24))) > (ji27)
                              · rw [if_pos c28] at H
                                have c28b0 : decide ((ji27) < (IntKind.u64.wrap (a1 - (ji24)))) = true := decide_eq_true c28
                                clear c28
                                have H' := Aside0.mk H
                                clear H
                                go_wp2
                                go_meet
                                case rel => exact ⟨_, (IntKind.u64.wrap ((ji22) + 1)), (by first | rfl | (simp; done) | (simp only [← hji22] <;> (first | rfl | simp)) | (simp [*]; done)), H', ⟨by have := HJ3.out; have := HJ5.out; have := HJ10.out; first | omega | exact Nat.le_refl _⟩, by repeat (first | exact Drawn0.refl _ | apply Drawn0.step)⟩
                              · rw [if_neg c28] at H
                                have c28b0 : decide ((ji27) < (IntKind.u64.wrap (a1 - (ji24)))) = false := decide_eq_false c28
                                clear c28
                                by_cases c29 : (IntKind.u64.wrap (a1 - (ji24))) = (ji27)
                                · rw [if_pos c29] at H
                                  have c29b0 : ((IntKind.u64.wrap (a1 - (ji24))) == (ji27)) = true := beq_iff_eq.mpr c29
                                  have c29b1 : ((IntKind.u64.wrap (a1 - (ji24))) != (ji27)) = false := bne_eq_false_iff_eq.mpr c29
                                  clear c29
                                  by_cases c30 : (Int.tmod (ji22) 2) = 1
                                  · rw [if_pos c30] at H
                                    have c30b0 : ((Int.tmod (ji22) 2) == 1) = true := beq_iff_eq.mpr c30
                                    have c30b1 : ((Int.tmod (ji22) 2) != 1) = false := bne_eq_false_iff_eq.mpr c30
                                    clear c30
                                    have H' := Aside0.mk H
                                    clear H
                                    go_wp2
                                    go_meet
                                    case rel => exact ⟨_, (IntKind.u64.wrap ((ji22) + 1)), (by first | rfl | (simp; done) | (simp only [← hji22] <;> (first | rfl | simp)) | (simp [*]; done)), H', ⟨by have := HJ3.out; have := HJ5.out; have := HJ10.out; first | omega | exact Nat.le_refl _⟩, by repeat (first | exact Drawn0.refl _ | apply Drawn0.step)⟩
                                  · rw [if_neg c30] at H
                                    have c30b0 : ((Int.tmod (ji22) 2) == 1) = false := beq_eq_false_iff_ne.mpr c30
                                    have c30b1 : ((Int.tmod (ji22) 2) != 1) = true := bne_iff_ne.mpr c30
                                    have H' := Aside0.mk H
                                    clear H
                                    go_wp2
                                    go_meet
                                    case rel => exact ⟨_, (ji22), (by first | rfl | (simp; done) | (simp only [← hji22] <;> (first | rfl | simp)) | (simp [*]; done)), H', ⟨by have := HJ3.out; have := HJ5.out; have := HJ10.out; first | omega | exact Nat.le_refl _⟩, by repeat (first | exact Drawn0.refl _ | apply Drawn0.step)⟩
                                · rw [if_neg c29] at H
                                  have c29b0 : ((IntKind.u64.wrap (a1 - (ji24))) == (ji27)) = false := beq_eq_false_iff_ne.mpr c29
                                  have c29b1 : ((IntKind.u64.wrap (a1 - (ji24))) != (ji27)) = true := bne_iff_ne.mpr c29
                                  have H' := Aside0.mk H
                                  clear H
                                  go_wp2
                                  go_meet
                                  case rel => exact ⟨_, (ji22), (by first | rfl | (simp; done) | (simp only [← hji22] <;> (first | rfl | simp)) | (simp [*]; done)), H', ⟨by have := HJ3.out; have := HJ5.out; have := HJ10.out; first | omega | exact Nat.le_refl _⟩, by repeat (first | exact Drawn0.refl _ | apply Drawn0.step)⟩
                            · rw [if_neg c26] at H
                              exact absurd H (by simp)
                          · rw [if_neg c21] at H
                            exact absurd H (by simp)
                        · rw [if_neg c19] at H
                          have c19b0 : decide ((wrap64 (x8_10 - a2)) < 64) = false := decide_eq_false c19
                          clear c19
                          obtain ⟨ji31, hji31⟩ : ∃ j_ : Int, (IntKind.u64.wrap (wrap64 ((wrap64 (x8_10 - a2)) - 1))) = j_ := ⟨_, rfl⟩
                          replace H : (if 0 ≤ (ji31) then (if a1 > (shl .u64 1 (ji31)) then (heraldref03_near.j3 kj10 x7_3 x8_10 (0 + 1)) else (if a1 = (shl .u64 1 (ji31)) then (if ((0 : Int) % 2) = 1 then (heraldref03_near.j3 kj10 x7_3 x8_10 (0 + 1)) else (heraldref03_near.j3 kj10 x7_3 x8_10 0)) else (heraldref03_near.j3 kj10 x7_3 x8_10 0))) else (none)) = some r := by first | (rw [hji31] at H; exact H) | (simp only [hji31] at H ⊢; exact H)
                          by_cases c32 : 0 ≤ (ji31)
                          · rw [if_pos c32] at H
                            have c32b0 := eq_true c32
                            have c32b1 : decide (0 ≤ (ji31)) = true := decide_eq_true c32
                            clear c32
                            obtain ⟨ji33, hji33⟩ : ∃ j_ : Int, (shl .u64 1 (ji31)) = j_ := ⟨_, rfl⟩
                            replace H : (if a1 > (ji33) then (heraldref03_near.j3 kj10 x7_3 x8_10 (0 + 1)) else (if a1 = (ji33) then (if ((0 : Int) % 2) = 1 then (heraldref03_near.j3 kj10 x7_3 x8_10 (0 + 1)) else (heraldref03_near.j3 kj10 x7_3 x8_10 0)) else (heraldref03_near.j3 kj10 x7_3 x8_10 0))) = some r := by first | (rw [hji33] at H; exact H) | (simp only [hji33] at H ⊢; exact H)
                            have hji33_ : (IntKind.u64.wrap (1 * 2 ^ min (ji31).toNat 64)) = ji33 := hji33
                            have hji33z : (ji31) ≤ 64 → (IntKind.u64.wrap (1 * 2 ^ (ji31).toNat)) = ji33 := shl_small hji33
                            have hji33u : (IntKind.u64.wrap (2 ^ min (ji31).toNat 64)) = ji33 := by have h_ := hji33_; rw [Int.one_mul] at h_; exact h_
                            have hji33v : (ji31) ≤ 64 → (IntKind.u64.wrap (2 ^ (ji31).toNat)) = ji33 := fun hle_ => by have h_ := hji33z hle_; rw [Int.one_mul] at h_; exact h_
                            by_cases c34 : a1 > (ji33)
                            · rw [if_pos c34] at H
                              have c34b0 : decide ((ji33) < a1) = true := decide_eq_true c34
                              clear c34
                              have H' := Aside0.mk H
                              clear H
                              go_wp2
                              all_goals (go_meet; (case rel => exact ⟨_, (0 + 1), (by first | rfl | (simp; done) | (simp [*]; done) | (simp [i64_w]; done) | (simp [*, i64_w]; done)), H', ⟨by have := HJ3.out; have := HJ5.out; have := HJ10.out; first | omega | exact Nat.le_refl _⟩, by repeat (first | exact Drawn0.refl _ | apply Drawn0.step)⟩))
                            · rw [if_neg c34] at H
                              have c34b0 : decide ((ji33) < a1) = false := decide_eq_false c34
                              clear c34
                              by_cases c35 : a1 = (ji33)
                              · rw [if_pos c35] at H
                                have c35b0 : (a1 == (ji33)) = true := beq_iff_eq.mpr c35
                                have c35b1 : (a1 != (ji33)) = false := bne_eq_false_iff_eq.mpr c35
                                clear c35
                                by_cases c36 : ((0 : Int) % 2) = 1
                                · rw [if_pos c36] at H
                                  have c36b0 : (((0 : Int) % 2) == 1) = true := beq_iff_eq.mpr c36
                                  have c36b1 : (((0 : Int) % 2) != 1) = false := bne_eq_false_iff_eq.mpr c36
                                  clear c36
                                  have H' := Aside0.mk H
                                  clear H
                                  go_wp2
                                  all_goals (go_meet; (case rel => exact ⟨_, (0 + 1), (by first | rfl | (simp; done) | (simp [*]; done) | (simp [i64_w]; done) | (simp [*, i64_w]; done)), H', ⟨by have := HJ3.out; have := HJ5.out; have := HJ10.out; first | omega | exact Nat.le_refl _⟩, by repeat (first | exact Drawn0.refl _ | apply Drawn0.step)⟩))
                                · rw [if_neg c36] at H
                                  have c36b0 : (((0 : Int) % 2) == 1) = false := beq_eq_false_iff_ne.mpr c36
                                  have c36b1 : (((0 : Int) % 2) != 1) = true := bne_iff_ne.mpr c36
                                  have H' := Aside0.mk H
                                  clear H
                                  go_wp2
                                  go_meet
                                  case rel => exact ⟨_, (0), (by first | rfl | (simp; done) | (simp [*]; done) | (simp [i64_w]; done) | (simp [*, i64_w]; done)), H', ⟨by have := HJ3.out; have := HJ5.out; have := HJ10.out; first | omega | exact Nat.le_refl _⟩, by repeat (first | exact Drawn0.refl _ | apply Drawn0.step)⟩
                              · rw [if_neg c35] at H
                                have c35b0 : (a1 == (ji33)) = false := beq_eq_false_iff_ne.mpr c35
                                have c35b1 : (a1 != (ji33)) = true := bne_iff_ne.mpr c35
                                have H' := Aside0.mk H
                                clear H
                                go_wp2
                                go_meet
                                case rel => exact ⟨_, (0), (by first | rfl | (simp; done) | (simp [*]; done) | (simp [i64_w]; done) | (simp [*, i64_w]; done)), H', ⟨by have := HJ3.out; have := HJ5.out; have := HJ10.out; first | omega | exact Nat.le_refl _⟩, by repeat (first | exact Drawn0.refl _ | apply Drawn0.step)⟩
                          · rw [if_neg c32] at H
                            exact absurd H (by simp)
                      · rw [if_neg c18] at H
                        have c18b0 : decide ((wrap64 (x8_10 - a2)) ≤ 64) = false := decide_eq_false c18
                        clear c18
                        have H' := Aside0.mk H
                        clear H
                        go_wp2
                        go_meet
                        case rel => exact ⟨_, (0), (by first | rfl | (simp; done) | (simp [*]; done) | (simp [i64_w]; done) | (simp [*, i64_w]; done)), H', ⟨by have := HJ3.out; have := HJ5.out; have := HJ10.out; first | omega | exact Nat.le_refl _⟩, by repeat (first | exact Drawn0.refl _ | apply Drawn0.step)⟩
                  case rest =>
                    clear HC13
                    try clear c1
                    try clear c2
                    try clear p2
                    try clear c3
                    try clear c5
                    try clear p6
                    try clear c7
                    try clear c7b0
                    try clear c7b1
                    try clear c8
                    try clear c9
                    try clear c9b0
                    try clear c10
                    try clear c12
                    try clear c12b0
                    try clear c14
                    try clear c14b0
                    try clear c16
                    try clear c16b0
                    try clear c16b1
                    try clear c18
                    try clear c18b0
                    try clear c19
                    try clear c19b0
                    try clear c21
                    try clear c21b0
                    try clear c21b1
                    try clear c23
                    try clear c23b0
                    try clear c26
                    try clear c26b0
                    try clear c26b1
                    try clear c28
                    try clear c28b0
                    try clear c29
                    try clear c29b0
                    try clear c29b1
                    try clear c30
                    try clear c30b0
                    try clear c30b1
                    try clear c32
                    try clear c32b0
                    try clear c32b1
                    try clear c34
                    try clear c34b0
                    try clear c35
                    try clear c35b0
                    try clear c35b1
                    try clear c36
                    try clear c36b0
                    try clear c36b1
                    try clear p2
                    try clear p6
                    obtain ⟨kq, x9_12, rfl, HA, HJ12, ⟨mc12, rfl⟩⟩ := hcut
                    cases kq with
                    | zero => exact absurd HA.out (by simp [heraldref03_near.j3])
                    | succ kj12 =>
                      have H := HA.out
                      clear HA
                      simp only [heraldref03_near.j3] at H
                      have HC37 := Aside0.mk H
                      clear H
                      go_upto_if 77 with (fail)
                      go_cut [8, 9] (fun v8 v9 wc => ∃ (kq : Nat) (x8_36 : Int) (x9_36 : Int), v8 = .int .i64 x8_36 ∧ v9 = .int .u64 x9_36 ∧ Aside0 (heraldref03_near.j4 kq x7_3 x8_36 x9_36 = some r) ∧ Aside0 (kq ≤ kj12) ∧ Drawn0 w wc)
                      case first =>
                        have H := HC37.out
                        clear HC37
                        by_cases c38 : x9_12 = 16777216
                        · rw [if_pos c38] at H
                          have c38b0 : (x9_12 == 16777216) = true := beq_iff_eq.mpr c38
                          have c38b1 : (x9_12 != 16777216) = false := bne_eq_false_iff_eq.mpr c38
                          clear c38
                          (first | rw [c38b0] | (simp only [i64_w, i32_w]; rw [c38b0]) | skip)
                          have H' := Aside0.mk H
                          clear H
                          go_wp2
                          go_meet
                          case rel => exact ⟨_, (wrap64 (x8_10 + 1)), (IntKind.u64.wrap (Int.tdiv x9_12 2)), (by first | rfl | (simp; done) | (simp [*]; done) | (simp [i64_w]; done) | (simp [*, i64_w]; done)), (by first | rfl | (simp; done) | (simp [*]; done) | (simp [i64_w]; done) | (simp [*, i64_w]; done)), H', ⟨by have := HJ3.out; have := HJ5.out; have := HJ10.out; have := HJ12.out; first | omega | exact Nat.le_refl _⟩, by repeat (first | exact Drawn0.refl _ | apply Drawn0.step)⟩
                        · rw [if_neg c38] at H
                          have c38b0 : (x9_12 == 16777216) = false := beq_eq_false_iff_ne.mpr c38
                          have c38b1 : (x9_12 != 16777216) = true := bne_iff_ne.mpr c38
                          (first | rw [c38b0] | (simp only [i64_w, i32_w]; rw [c38b0]) | skip)
                          have H' := Aside0.mk H
                          clear H
                          go_wp2
                          go_meet
                          case rel => exact ⟨_, (x8_10), (x9_12), (by first | rfl | (simp; done) | (simp [*]; done) | (simp [i64_w]; done) | (simp [*, i64_w]; done)), (by first | rfl | (simp; done) | (simp [*]; done) | (simp [i64_w]; done) | (simp [*, i64_w]; done)), H', ⟨by have := HJ3.out; have := HJ5.out; have := HJ10.out; have := HJ12.out; first | omega | exact Nat.le_refl _⟩, by repeat (first | exact Drawn0.refl _ | apply Drawn0.step)⟩
                      case rest =>
                        clear HC37
                        try clear c1
                        try clear c2
                        try clear p2
                        try clear c3
                        try clear c5
                        try clear p6
                        try clear c7
                        try clear c7b0
                        try clear c7b1
                        try clear c8
                        try clear c9
                        try clear c9b0
                        try clear c10
                        try clear c12
                        try clear c12b0
                        try clear c14
                        try clear c14b0
                        try clear c16
                        try clear c16b0
                        try clear c16b1
                        try clear c18
                        try clear c18b0
                        try clear c19
                        try clear c19b0
                        try clear c21
                        try clear c21b0
                        try clear c21b1
                        try clear c23
                        try clear c23b0
                        try clear c26
                        try clear c26b0
                        try clear c26b1
                        try clear c28
                        try clear c28b0
                        try clear c29
                        try clear c29b0
                        try clear c29b1
                        try clear c30
                        try clear c30b0
                        try clear c30b1
                        try clear c32
                        try clear c32b0
                        try clear c32b1
                        try clear c34
                        try clear c34b0
                        try clear c35
                        try clear c35b0
                        try clear c35b1
                        try clear c36
                        try clear c36b0
                        try clear c36b1
                        try clear c37
                        try clear c38
                        try clear c38b0
                        try clear c38b1
                        try clear p2
                        try clear p6
                        obtain ⟨kq, x8_36, x9_36, rfl, rfl, HA, HJ36, ⟨mc36, rfl⟩⟩ := hcut
                        cases kq with
                        | zero => exact absurd HA.out (by simp [heraldref03_near.j4])
                        | succ kj36 =>
                          have H := HA.out
                          clear HA
                          simp only [heraldref03_near.j4] at H
                          by_cases c39 : x9_36 < 8388608
                          · rw [if_pos c39] at H
                            have c39b0 : decide (x9_36 < 8388608) = true := decide_eq_true c39
                            clear c39
                            obtain rfl := Option.some.inj H
                            go_wp2
                            go_ret
                            exact ⟨by first | rfl | (simp; done) | (simp [*]; done), by repeat (first | exact Drawn0.refl _ | apply Drawn0.step)⟩
                          · rw [if_neg c39] at H
                            have c39b0 : decide (x9_36 < 8388608) = false := decide_eq_false c39
                            clear c39
                            by_cases c40 : (wrap64 (x8_36 + 150)) ≥ 255
                            · rw [if_pos c40] at H
                              have c40b0 : decide (255 ≤ (wrap64 (x8_36 + 150))) = true := decide_eq_true c40
                              clear c40
                              obtain rfl := Option.some.inj H
                              go_wp2
                              go_ret
                              exact ⟨by first | rfl | (simp; done) | (simp [*]; done), by repeat (first | exact Drawn0.refl _ | apply Drawn0.step)⟩
                            · rw [if_neg c40] at H
                              have c40b0 : decide (255 ≤ (wrap64 (x8_36 + 150))) = false := decide_eq_false c40
                              clear c40
                              obtain rfl := Option.some.inj H
                              go_wp2
                              go_ret
                              exact ⟨by first | rfl | (simp; done) | (simp [*]; done), by repeat (first | exact Drawn0.refl _ | apply Drawn0.step)⟩
end Go.Proofs.Yteecekhfpfnepaa.PAll
end

section
namespace Go.Proofs.Yteecekhfpfnepaa.PAll
open Go.RowKit Go.Proofs.YteecekhfpfnepaaW.PrintWords Go.Proofs.YteecekhfpfnepaaW.PrintLast Go.Proofs.YteecekhfpfnepaaW.PrintMore
attribute [local go_sem] max2_int min2_int max_two min_two max_three min_three max_four min_four   -- for this text's walks alone
set_option linter.unusedVariables false
set_option linter.unusedSimpArgs false
def heraldref03_sign.f (a0 : Int) (a1 : Int) : Option (Int) := if a0 < a1 then (some (-1)) else (if a0 > a1 then (some 1) else (some 0))
set_option maxHeartbeats 8000000 in
set_option maxRecDepth 100000 in
theorem heraldref03_sign.calls (a0 : Int) (a1 : Int) (r : Int) (w : World) (h : heraldref03_sign.f a0 a1 = some r) :
    Calls Try.prog 40 #[.int .i64 a0, .int .i64 a1] w fun e w' => e = .returned (.int .i64 r) ∧ Drawn0 w w' := by
  have H : (if a0 < a1 then (some (-1)) else (if a0 > a1 then (some 1) else (some 0))) = some r := h
  clear h
  by_cases c3 : a0 < a1
  · rw [if_pos c3] at H
    have c3b0 : decide (a0 < a1) = true := decide_eq_true c3
    clear c3
    obtain rfl := Option.some.inj H
    go_enter Try.func40, Try.ntmps40
    go_wp2
    go_ret
    exact ⟨by first | rfl | (simp; done) | (simp [*]; done), by repeat (first | exact Drawn0.refl _ | apply Drawn0.step)⟩
  · rw [if_neg c3] at H
    have c3b0 : decide (a0 < a1) = false := decide_eq_false c3
    clear c3
    by_cases c4 : a0 > a1
    · rw [if_pos c4] at H
      have c4b0 : decide (a1 < a0) = true := decide_eq_true c4
      clear c4
      obtain rfl := Option.some.inj H
      go_enter Try.func40, Try.ntmps40
      go_wp2
      go_ret
      exact ⟨by first | rfl | (simp; done) | (simp [*]; done), by repeat (first | exact Drawn0.refl _ | apply Drawn0.step)⟩
    · rw [if_neg c4] at H
      have c4b0 : decide (a1 < a0) = false := decide_eq_false c4
      clear c4
      obtain rfl := Option.some.inj H
      go_enter Try.func40, Try.ntmps40
      go_wp2
      go_ret
      exact ⟨by first | rfl | (simp; done) | (simp [*]; done), by repeat (first | exact Drawn0.refl _ | apply Drawn0.step)⟩
mutual
def heraldref03_ahead.j0 : Nat → Int → Int → Int → Int → Bool → Option (Int)
  | 0, _, _, _, _, _ => none
  | k + 1, x0, x1, x2, x3, x16 => if x16 = true then ((heraldref03_sign.f x0 x2).bind fun t111 => (some t111)) else ((heraldref03_length.f k (IntKind.u64.wrap (x0))).bind fun t112 => ((heraldref03_length.f k (IntKind.u64.wrap (x2))).bind fun t113 => (if (wrap64 (t112 + x1)) = (wrap64 (t113 + x3)) then (heraldref03_ahead.l0 k x0 x1 x2 x3) else ((heraldref03_sign.f (wrap64 (t112 + x1)) (wrap64 (t113 + x3))).bind fun t114 => (some t114)))))
def heraldref03_ahead.l0 : Nat → Int → Int → Int → Int → Option (Int)
  | 0, _, _, _, _ => none
  | k + 1, x0, x1, x2, x3 => if x1 > x3 then (heraldref03_ahead.l0 k (wrap64 (x0 * 2)) (wrap64 (x1 - 1)) x2 x3) else (heraldref03_ahead.l1 k x0 x1 x2 x3)
def heraldref03_ahead.l1 : Nat → Int → Int → Int → Int → Option (Int)
  | 0, _, _, _, _ => none
  | k + 1, x0, x1, x2, x3 => if x3 > x1 then (heraldref03_ahead.l1 k x0 x1 (wrap64 (x2 * 2)) (wrap64 (x3 - 1))) else ((heraldref03_sign.f x0 x2).bind fun t115 => (some t115))
end
def heraldref03_ahead.f (k : Nat) (a0 : Int) (a1 : Int) (a2 : Int) (a3 : Int) : Option (Int) := if a0 = 0 then (heraldref03_ahead.j0 k a0 a1 a2 a3 true) else (heraldref03_ahead.j0 k a0 a1 a2 a3 (a2 == 0))
set_option maxHeartbeats 8000000 in
set_option maxRecDepth 100000 in
theorem heraldref03_ahead.calls (k : Nat) (a0 : Int) (a1 : Int) (a2 : Int) (a3 : Int) (r : Int) (w : World) (h : heraldref03_ahead.f k a0 a1 a2 a3 = some r) :
    Calls Try.prog 33 #[.int .i64 a0, .int .i64 a1, .int .i64 a2, .int .i64 a3] w fun e w' => e = .returned (.int .i64 r) ∧ Drawn0 w w' := by
  have H : (if a0 = 0 then (heraldref03_ahead.j0 k a0 a1 a2 a3 true) else (heraldref03_ahead.j0 k a0 a1 a2 a3 (a2 == 0))) = some r := h
  clear h
  have HC5 := Aside0.mk H
  clear H
  go_enter Try.func33, Try.ntmps33
  go_upto_region 1 with (fail)
  go_cut [16] (fun v16 wc => ∃ (kq : Nat) (x16_4 : Bool), v16 = .bool x16_4 ∧ Aside0 (heraldref03_ahead.j0 kq a0 a1 a2 a3 x16_4 = some r) ∧ Aside0 (kq ≤ k) ∧ Drawn0 w wc)
  case first =>
    have H := HC5.out
    clear HC5
    by_cases c6 : a0 = 0
    · rw [if_pos c6] at H
      have c6b0 : (a0 == 0) = true := beq_iff_eq.mpr c6
      have c6b1 : (a0 != 0) = false := bne_eq_false_iff_eq.mpr c6
      clear c6
      (first | rw [c6b0] | (simp only [i64_w, i32_w]; rw [c6b0]) | skip)
      have H' := Aside0.mk H
      clear H
      go_wp2
      go_meet
      case rel => exact ⟨_, (true), (by first | rfl | (simp; done) | (simp [*]; done) | (simp [i64_w]; done) | (simp [*, i64_w]; done)), H', ⟨by first | omega | exact Nat.le_refl _⟩, by repeat (first | exact Drawn0.refl _ | apply Drawn0.step)⟩
    · rw [if_neg c6] at H
      have c6b0 : (a0 == 0) = false := beq_eq_false_iff_ne.mpr c6
      have c6b1 : (a0 != 0) = true := bne_iff_ne.mpr c6
      (first | rw [c6b0] | (simp only [i64_w, i32_w]; rw [c6b0]) | skip)
      have H' := Aside0.mk H
      clear H
      go_wp2
      go_meet
      case rel => exact ⟨_, ((a2 == 0)), (by first | rfl | (simp; done) | (simp [*]; done) | (simp [i64_w]; done) | (simp [*, i64_w]; done)), H', ⟨by first | omega | exact Nat.le_refl _⟩, by repeat (first | exact Drawn0.refl _ | apply Drawn0.step)⟩
  case rest =>
    clear HC5
    try clear p2
    try clear c3
    try clear c6
    try clear c6b0
    try clear c6b1
    obtain ⟨kq, x16_4, rfl, HA, HJ4, ⟨mc4, rfl⟩⟩ := hcut
    cases kq with
    | zero => exact absurd HA.out (by simp [heraldref03_ahead.j0])
    | succ kj4 =>
      have H := HA.out
      clear HA
      simp only [heraldref03_ahead.j0] at H
      by_cases c7 : x16_4 = true
      · subst c7
        have H1 : ((heraldref03_sign.f a0 a2).bind fun t111 => (some t111)) = some r := by rw [if_pos rfl] at H; exact H
        clear H
        have H := H1
        clear H1
        replace H := Option.bind_eq_some_iff.mp H
        obtain ⟨t111, A80, H⟩ := H
        replace H : (some t111) = some r := H
        have A8 := Aside0.mk A80
        clear A80
        obtain rfl := Option.some.inj H
        go_wp2_with (first | ((with_reducible refine gate_callee (f := 40) rfl ?_); refine goesL_ (some 19) rfl rfl Try.func40 (by kernel_rfl) rfl #[.int .i64 a0, .int .i64 a2] rfl (by (try simp only [List.map_toArray, List.map_cons, List.map_nil]); first | done | rfl | (simp only [List.length_drop, List.length_take]; rfl)) ?_; (with_reducible refine (heraldref03_sign.calls a0 a2 t111 _ A8.out).mono ?_); rintro e w' ⟨rfl, ⟨nd, rfl⟩⟩; refine ⟨_, rfl, ?_⟩))
        go_ret
        exact ⟨by first | rfl | (simp; done) | (simp [*]; done), by repeat (first | exact Drawn0.refl _ | apply Drawn0.step)⟩
      · replace c7 := Bool.eq_false_iff.mpr c7
        subst c7
        have H1 : ((heraldref03_length.f kj4 (IntKind.u64.wrap (a0))).bind fun t112 => ((heraldref03_length.f kj4 (IntKind.u64.wrap (a2))).bind fun t113 => (if (wrap64 (t112 + a1)) = (wrap64 (t113 + a3)) then (heraldref03_ahead.l0 kj4 a0 a1 a2 a3) else ((heraldref03_sign.f (wrap64 (t112 + a1)) (wrap64 (t113 + a3))).bind fun t114 => (some t114))))) = some r := by rw [if_neg (show ¬ (false = true) by decide)] at H; exact H
        clear H
        have H := H1
        clear H1
        replace H := Option.bind_eq_some_iff.mp H
        obtain ⟨t112, A90, H⟩ := H
        replace H : ((heraldref03_length.f kj4 (IntKind.u64.wrap (a2))).bind fun t113 => (if (wrap64 (t112 + a1)) = (wrap64 (t113 + a3)) then (heraldref03_ahead.l0 kj4 a0 a1 a2 a3) else ((heraldref03_sign.f (wrap64 (t112 + a1)) (wrap64 (t113 + a3))).bind fun t114 => (some t114)))) = some r := H
        have A9 := Aside0.mk A90
        clear A90
        replace H := Option.bind_eq_some_iff.mp H
        obtain ⟨t113, A100, H⟩ := H
        replace H : (if (wrap64 (t112 + a1)) = (wrap64 (t113 + a3)) then (heraldref03_ahead.l0 kj4 a0 a1 a2 a3) else ((heraldref03_sign.f (wrap64 (t112 + a1)) (wrap64 (t113 + a3))).bind fun t114 => (some t114))) = some r := H
        have A10 := Aside0.mk A100
        clear A100
        by_cases c11 : (wrap64 (t112 + a1)) = (wrap64 (t113 + a3))
        · rw [if_pos c11] at H
          have c11b0 : ((wrap64 (t112 + a1)) == (wrap64 (t113 + a3))) = true := beq_iff_eq.mpr c11
          have c11b1 : ((wrap64 (t112 + a1)) != (wrap64 (t113 + a3))) = false := bne_eq_false_iff_eq.mpr c11
          clear c11
          have H' := Aside0.mk H
          clear H
          go_wp2_with (first | ((with_reducible refine gate_callee (f := 37) rfl ?_); refine goesL_ (some 22) rfl rfl Try.func37 (by kernel_rfl) rfl #[.int .u64 (IntKind.u64.wrap (a0))] rfl (by (try simp only [List.map_toArray, List.map_cons, List.map_nil]); first | done | rfl | (simp only [List.length_drop, List.length_take]; rfl)) ?_; (with_reducible refine (heraldref03_length.calls kj4 (IntKind.u64.wrap (a0)) t112 _ A9.out).mono ?_); rintro e w' ⟨rfl, ⟨nd, rfl⟩⟩; refine ⟨_, rfl, ?_⟩) | ((with_reducible refine gate_callee (f := 37) rfl ?_); refine goesL_ (some 27) rfl rfl Try.func37 (by kernel_rfl) rfl #[.int .u64 (IntKind.u64.wrap (a2))] rfl (by (try simp only [List.map_toArray, List.map_cons, List.map_nil]); first | done | rfl | (simp only [List.length_drop, List.length_take]; rfl)) ?_; (with_reducible refine (heraldref03_length.calls kj4 (IntKind.u64.wrap (a2)) t113 _ A10.out).mono ?_); rintro e w' ⟨rfl, ⟨nd, rfl⟩⟩; refine ⟨_, rfl, ?_⟩))
          go_loopg [0, 1] kj4 (fun kq v0 v1 w' => ∃ (x0_2 : Int) (x1_2 : Int), v0 = .int .i64 x0_2 ∧ v1 = .int .i64 x1_2 ∧ Aside0 (heraldref03_ahead.l0 kq x0_2 x1_2 a2 a3 = some r) ∧ Aside0 (kq ≤ kj4) ∧ Drawn0 w w')
          case atStart => exact ⟨(a0), (a1), (by first | rfl | (simp; done) | (simp [*]; done) | (simp [i64_w]; done) | (simp [*, i64_w]; done)), (by first | rfl | (simp; done) | (simp [*]; done) | (simp [i64_w]; done) | (simp [*, i64_w]; done)), H', ⟨Nat.le_refl _⟩, by repeat (first | exact Drawn0.refl _ | apply Drawn0.step)⟩
          case round =>
            clear H'
            try clear c1
            try clear p2
            try clear c3
            try clear c4
            try clear c6
            try clear c6b0
            try clear c6b1
            try clear p6
            try clear c7
            try clear c11
            try clear c11b0
            try clear c11b1
            try clear p2
            obtain ⟨x0_2, x1_2, rfl, rfl, HA, HK2, ⟨m2, rfl⟩⟩ := hrel
            cases gk with
            | zero => exact absurd HA.out (by simp [heraldref03_ahead.l0])
            | succ k2 =>
              have H := HA.out
              clear HA
              simp only [heraldref03_ahead.l0] at H
              by_cases c12 : x1_2 > a3
              · rw [if_pos c12] at H
                have c12b0 : decide (a3 < x1_2) = true := decide_eq_true c12
                clear c12
                have H' := Aside0.mk H
                clear H
                go_wp2
                go_roundg k2
                case measure => have := HJ4.out; have := HK2.out; omega
                case rel => exact ⟨(wrap64 (x0_2 * 2)), (wrap64 (x1_2 - 1)), (by first | rfl | (simp; done) | (simp [*]; done) | (simp [i64_w]; done) | (simp [*, i64_w]; done)), (by first | rfl | (simp; done) | (simp [*]; done) | (simp [i64_w]; done) | (simp [*, i64_w]; done)), H', ⟨by have := HJ4.out; have := HK2.out; omega⟩, by repeat (first | exact Drawn0.refl _ | apply Drawn0.step)⟩
              · rw [if_neg c12] at H
                have c12b0 : decide (a3 < x1_2) = false := decide_eq_false c12
                clear c12
                have H' := Aside0.mk H
                clear H
                go_wp2
                go_loopg [2, 3] k2 (fun kq v2 v3 w' => ∃ (x2_3 : Int) (x3_3 : Int), v2 = .int .i64 x2_3 ∧ v3 = .int .i64 x3_3 ∧ Aside0 (heraldref03_ahead.l1 kq x0_2 x1_2 x2_3 x3_3 = some r) ∧ Aside0 (kq ≤ k2) ∧ Drawn0 w w')
                case atStart => exact ⟨(a2), (a3), (by first | rfl | (simp; done) | (simp [*]; done) | (simp [i64_w]; done) | (simp [*, i64_w]; done)), (by first | rfl | (simp; done) | (simp [*]; done) | (simp [i64_w]; done) | (simp [*, i64_w]; done)), H', ⟨Nat.le_refl _⟩, by repeat (first | exact Drawn0.refl _ | apply Drawn0.step)⟩
                case round =>
                  clear H'
                  try clear c1
                  try clear p2
                  try clear c3
                  try clear c4
                  try clear c6
                  try clear c6b0
                  try clear c6b1
                  try clear p6
                  try clear c7
                  try clear c11
                  try clear c11b0
                  try clear c11b1
                  try clear c12
                  try clear c12b0
                  try clear p2
                  try clear p6
                  obtain ⟨x2_3, x3_3, rfl, rfl, HA, HK3, ⟨m3, rfl⟩⟩ := hrel
                  cases gk with
                  | zero => exact absurd HA.out (by simp [heraldref03_ahead.l1])
                  | succ k3 =>
                    have H := HA.out
                    clear HA
                    simp only [heraldref03_ahead.l1] at H
                    by_cases c13 : x3_3 > x1_2
                    · rw [if_pos c13] at H
                      have c13b0 : decide (x1_2 < x3_3) = true := decide_eq_true c13
                      clear c13
                      have H' := Aside0.mk H
                      clear H
                      go_wp2
                      go_roundg k3
                      case measure => have := HJ4.out; have := HK2.out; have := HK3.out; omega
                      case rel => exact ⟨(wrap64 (x2_3 * 2)), (wrap64 (x3_3 - 1)), (by first | rfl | (simp; done) | (simp [*]; done) | (simp [i64_w]; done) | (simp [*, i64_w]; done)), (by first | rfl | (simp; done) | (simp [*]; done) | (simp [i64_w]; done) | (simp [*, i64_w]; done)), H', ⟨by have := HJ4.out; have := HK2.out; have := HK3.out; omega⟩, by repeat (first | exact Drawn0.refl _ | apply Drawn0.step)⟩
                    · rw [if_neg c13] at H
                      have c13b0 : decide (x1_2 < x3_3) = false := decide_eq_false c13
                      clear c13
                      replace H := Option.bind_eq_some_iff.mp H
                      obtain ⟨t115, A140, H⟩ := H
                      replace H : (some t115) = some r := H
                      have A14 := Aside0.mk A140
                      clear A140
                      obtain rfl := Option.some.inj H
                      go_wp2_with (first | ((with_reducible refine gate_callee (f := 40) rfl ?_); refine goesL_ (some 52) rfl rfl Try.func40 (by kernel_rfl) rfl #[.int .i64 x0_2, .int .i64 x2_3] rfl (by (try simp only [List.map_toArray, List.map_cons, List.map_nil]); first | done | rfl | (simp only [List.length_drop, List.length_take]; rfl)) ?_; (with_reducible refine (heraldref03_sign.calls x0_2 x2_3 t115 _ A14.out).mono ?_); rintro e w' ⟨rfl, ⟨nd, rfl⟩⟩; refine ⟨_, rfl, ?_⟩))
                      go_ret
                      exact ⟨by first | rfl | (simp; done) | (simp [*]; done), by repeat (first | exact Drawn0.refl _ | apply Drawn0.step)⟩
        · rw [if_neg c11] at H
          have c11b0 : ((wrap64 (t112 + a1)) == (wrap64 (t113 + a3))) = false := beq_eq_false_iff_ne.mpr c11
          have c11b1 : ((wrap64 (t112 + a1)) != (wrap64 (t113 + a3))) = true := bne_iff_ne.mpr c11
          replace H := Option.bind_eq_some_iff.mp H
          obtain ⟨t114, A150, H⟩ := H
          replace H : (some t114) = some r := H
          have A15 := Aside0.mk A150
          clear A150
          obtain rfl := Option.some.inj H
          go_wp2_with (first | ((with_reducible refine gate_callee (f := 37) rfl ?_); refine goesL_ (some 22) rfl rfl Try.func37 (by kernel_rfl) rfl #[.int .u64 (IntKind.u64.wrap (a0))] rfl (by (try simp only [List.map_toArray, List.map_cons, List.map_nil]); first | done | rfl | (simp only [List.length_drop, List.length_take]; rfl)) ?_; (with_reducible refine (heraldref03_length.calls kj4 (IntKind.u64.wrap (a0)) t112 _ A9.out).mono ?_); rintro e w' ⟨rfl, ⟨nd, rfl⟩⟩; refine ⟨_, rfl, ?_⟩) | ((with_reducible refine gate_callee (f := 37) rfl ?_); refine goesL_ (some 27) rfl rfl Try.func37 (by kernel_rfl) rfl #[.int .u64 (IntKind.u64.wrap (a2))] rfl (by (try simp only [List.map_toArray, List.map_cons, List.map_nil]); first | done | rfl | (simp only [List.length_drop, List.length_take]; rfl)) ?_; (with_reducible refine (heraldref03_length.calls kj4 (IntKind.u64.wrap (a2)) t113 _ A10.out).mono ?_); rintro e w' ⟨rfl, ⟨nd, rfl⟩⟩; refine ⟨_, rfl, ?_⟩) | ((with_reducible refine gate_callee (f := 40) rfl ?_); refine goesL_ (some 35) rfl rfl Try.func40 (by kernel_rfl) rfl #[.int .i64 (wrap64 (t112 + a1)), .int .i64 (wrap64 (t113 + a3))] rfl (by (try simp only [List.map_toArray, List.map_cons, List.map_nil]); first | done | rfl | (simp only [List.length_drop, List.length_take]; rfl)) ?_; (with_reducible refine (heraldref03_sign.calls (wrap64 (t112 + a1)) (wrap64 (t113 + a3)) t114 _ A15.out).mono ?_); rintro e w' ⟨rfl, ⟨nd, rfl⟩⟩; refine ⟨_, rfl, ?_⟩))
          go_ret
          exact ⟨by first | rfl | (simp; done) | (simp [*]; done), by repeat (first | exact Drawn0.refl _ | apply Drawn0.step)⟩
end Go.Proofs.Yteecekhfpfnepaa.PAll
end

section
namespace Go.Proofs.Yteecekhfpfnepaa.PAll
open Go.RowKit Go.Proofs.YteecekhfpfnepaaW.PrintWords Go.Proofs.YteecekhfpfnepaaW.PrintLast Go.Proofs.YteecekhfpfnepaaW.PrintMore
set_option linter.unusedVariables false
set_option linter.unusedSimpArgs false
def rawV (a : Int) : Int × Bool × Int × Int :=
  if a / 8388608 % 256 = 255 then (if a % 8388608 = 0 then (1, decide (2147483648 ≤ a), 0, 0) else (2, false, 0, 0))
  else if a / 8388608 % 256 = 0 then (0, decide (2147483648 ≤ a), a % 8388608, -149) else (0, decide (2147483648 ≤ a), 8388608 + a % 8388608, a / 8388608 % 256 - 150)
def heraldref03_raw.f (a0 : Int) : Option (Int × Bool × Int × Int) := if 0 ≤ a0 ∧ a0 < 4294967296 then some (rawV a0) else none
set_option maxRecDepth 20000 in
set_option maxHeartbeats 1600000 in
theorem heraldref03_raw.calls (a0 : Int) (r1 : Int) (r2 : Bool) (r3 : Int) (r4 : Int) (w : World) (h : heraldref03_raw.f a0 = some (r1, r2, r3, r4)) :
    Calls Try.prog 32 #[.int .u32 a0] w fun e w' => e = .returned (.tuple #[.int .i64 r1, .bool r2, .int .i64 r3, .int .i64 r4]) ∧ Drawn0 w w' := by
  unfold heraldref03_raw.f at h
  split at h
  case isFalse => simp at h
  case isTrue hr =>
  obtain ⟨h0, h1⟩ := hr
  have h' := Option.some.inj h
  clear h
  have hd : Int.tdiv a0 8388608 = a0 / 8388608 := Int.tdiv_eq_ediv_of_nonneg h0
  have hm : Int.tmod a0 8388608 = a0 % 8388608 := Int.tmod_eq_emod_of_nonneg h0
  unfold rawV at h'
  have e1 : a0 / 8388608 % 4294967296 % 256 = a0 / 8388608 % 256 := by omega
  have e2 : wrap64 (a0 % 8388608) = a0 % 8388608 := by unfold wrap64; omega
  obtain ⟨e, he⟩ : ∃ e, a0 / 8388608 % 256 = e := ⟨_, rfl⟩
  obtain ⟨f, hf⟩ : ∃ f, a0 % 8388608 = f := ⟨_, rfl⟩
  have hf0 : 0 ≤ f := by omega
  have hf1 : f < 8388608 := by omega
  have he0 : 0 ≤ e := by omega
  have he1 : e < 256 := by omega
  rw [he, hf] at h'
  rw [he] at e1
  rw [hf] at e2
  by_cases c1 : e = 255
  · subst c1
    rw [if_pos rfl] at h'
    by_cases c2 : f = 0
    · subst c2
      rw [if_pos rfl] at h'
      obtain ⟨rfl, rfl, rfl, rfl⟩ : 1 = r1 ∧ decide (2147483648 ≤ a0) = r2 ∧ 0 = r3 ∧ 0 = r4 := by simpa using h'
      go_enter Try.func32, Try.ntmps32
      go_wp2
      refine bodyPost_ret (results_list (rs := [.tmp 2, .tmp 3, .tmp 4, .tmp 5]) rfl (by simp) (.tmp (.tmp (.tmp (.tmp .nil))))) rfl ?_
      exact ⟨by first | rfl | (simp; done), by repeat (first | exact Drawn0.refl _ | apply Drawn0.step)⟩
    · rw [if_neg c2] at h'
      obtain ⟨rfl, rfl, rfl, rfl⟩ : 2 = r1 ∧ false = r2 ∧ 0 = r3 ∧ 0 = r4 := by simpa using h'
      go_enter Try.func32, Try.ntmps32
      go_wp2
      refine bodyPost_ret (results_list (rs := [.tmp 2, .tmp 3, .tmp 4, .tmp 5]) rfl (by simp) (.tmp (.tmp (.tmp (.tmp .nil))))) rfl ?_
      exact ⟨by first | rfl | (simp; done), by repeat (first | exact Drawn0.refl _ | apply Drawn0.step)⟩
  · rw [if_neg c1] at h'
    by_cases c2 : e = 0
    · subst c2
      rw [if_pos rfl] at h'
      obtain ⟨rfl, rfl, rfl, rfl⟩ : 0 = r1 ∧ decide (2147483648 ≤ a0) = r2 ∧ f = r3 ∧ -149 = r4 := by simpa using h'
      go_enter Try.func32, Try.ntmps32
      go_wp2
      refine bodyPost_ret (results_list (rs := [.tmp 2, .tmp 3, .tmp 4, .tmp 5]) rfl (by simp) (.tmp (.tmp (.tmp (.tmp .nil))))) rfl ?_
      exact ⟨by first | rfl | (simp; done), by repeat (first | exact Drawn0.refl _ | apply Drawn0.step)⟩
    · rw [if_neg c2] at h'
      obtain ⟨rfl, rfl, rfl, rfl⟩ : 0 = r1 ∧ decide (2147483648 ≤ a0) = r2 ∧ 8388608 + f = r3 ∧ e - 150 = r4 := by simpa using h'
      go_enter Try.func32, Try.ntmps32
      go_wp2
      refine bodyPost_ret (results_list (rs := [.tmp 2, .tmp 3, .tmp 4, .tmp 5]) rfl (by simp) (.tmp (.tmp (.tmp (.tmp .nil))))) rfl ?_
      exact ⟨by first | rfl | (simp; done), by repeat (first | exact Drawn0.refl _ | apply Drawn0.step)⟩
end Go.Proofs.Yteecekhfpfnepaa.PAll
end

section
namespace Go.Proofs.Yteecekhfpfnepaa.PAll
open Go.RowKit Go.Proofs.YteecekhfpfnepaaW.PrintWords Go.Proofs.YteecekhfpfnepaaW.PrintLast Go.Proofs.YteecekhfpfnepaaW.PrintMore
attribute [local go_sem] max2_int min2_int max_two min_two max_three min_three max_four min_four   -- for this text's walks alone
set_option linter.unusedVariables false
set_option linter.unusedSimpArgs false
mutual
def heraldref03_Add.j0 : Nat → Int → Int → Int → Bool → Int → Int → Int → Bool → Int → Int → Bool → Option (Int)
  | 0, _, _, _, _, _, _, _, _, _, _, _ => none
  | k + 1, x0, x1, x5, x6, x7, x8, x9, x10, x11, x12, x48 => if x48 = true then (some 2143289344) else (if x5 = 1 then (some x0) else (if x9 = 1 then (some x1) else (if x7 = 0 then (heraldref03_Add.j1 k x0 x1 x6 x7 x8 x10 x11 x12 (x11 == 0)) else (heraldref03_Add.j1 k x0 x1 x6 x7 x8 x10 x11 x12 false))))
def heraldref03_Add.j1 : Nat → Int → Int → Bool → Int → Int → Bool → Int → Int → Bool → Option (Int)
  | 0, _, _, _, _, _, _, _, _, _ => none
  | k + 1, x0, x1, x6, x7, x8, x10, x11, x12, x60 => if x60 = true then (if x6 = true then (if x10 = true then (some 2147483648) else (some 0)) else (some 0)) else (if x7 = 0 then (some x1) else (if x11 = 0 then (some x0) else ((heraldref03_ahead.f k x7 x8 x11 x12).bind fun t124 => (if t124 < 0 then (heraldref03_Add.j2 k x10 x11 x12 x6 x7 x8) else (heraldref03_Add.j2 k x6 x7 x8 x10 x11 x12)))))
def heraldref03_Add.j2 : Nat → Bool → Int → Int → Bool → Int → Int → Option (Int)
  | 0, _, _, _, _, _, _ => none
  | k + 1, x6, x7, x8, x10, x11, x12 => if (wrap64 (x8 - x12)) ≤ 33 then (if 0 ≤ (IntKind.u64.wrap (wrap64 (33 - (wrap64 (x8 - x12))))) then (heraldref03_Add.j3 k x6 x8 x10 (IntKind.u64.wrap ((IntKind.u64.wrap (x7)) * 8589934592)) (shl .u64 (IntKind.u64.wrap (x11)) (IntKind.u64.wrap (wrap64 (33 - (wrap64 (x8 - x12))))))) else (none)) else (if (wrap64 (x8 - x12)) < 64 then (if 0 ≤ (IntKind.u64.wrap (wrap64 ((wrap64 (x8 - x12)) - 33))) then (if (shl .u64 (shr .u64 (IntKind.u64.wrap (x11)) (IntKind.u64.wrap (wrap64 ((wrap64 (x8 - x12)) - 33)))) (IntKind.u64.wrap (wrap64 ((wrap64 (x8 - x12)) - 33)))) = (IntKind.u64.wrap (x11)) then (heraldref03_Add.j3 k x6 x8 x10 (IntKind.u64.wrap ((IntKind.u64.wrap (x7)) * 8589934592)) (shr .u64 (IntKind.u64.wrap (x11)) (IntKind.u64.wrap (wrap64 ((wrap64 (x8 - x12)) - 33))))) else (heraldref03_Add.j3 k x6 x8 x10 (IntKind.u64.wrap ((IntKind.u64.wrap (x7)) * 8589934592)) (Go.bits .or .u64 (shr .u64 (IntKind.u64.wrap (x11)) (IntKind.u64.wrap (wrap64 ((wrap64 (x8 - x12)) - 33)))) 1))) else (none)) else (heraldref03_Add.j3 k x6 x8 x10 (IntKind.u64.wrap ((IntKind.u64.wrap (x7)) * 8589934592)) 1))
def heraldref03_Add.j3 : Nat → Bool → Int → Bool → Int → Int → Option (Int)
  | 0, _, _, _, _, _ => none
  | k + 1, x6, x8, x10, x13, x14 => if (x6 == x10) = true then ((heraldref03_near.f k x6 (IntKind.u64.wrap (x13 + x14)) (wrap64 (x8 - 33))).bind fun t125 => (some t125)) else (if x13 = x14 then (some 0) else ((heraldref03_near.f k x6 (IntKind.u64.wrap (x13 - x14)) (wrap64 (x8 - 33))).bind fun t126 => (some t126)))
end
def heraldref03_Add.f (k : Nat) (a0 : Int) (a1 : Int) : Option (Int) := (heraldref03_raw.f a0).bind fun bt116 => ((heraldref03_raw.f a1).bind fun bt120 => (if bt116.1 = 2 then (heraldref03_Add.j0 k a0 a1 bt116.1 bt116.2.1 bt116.2.2.1 bt116.2.2.2 bt120.1 bt120.2.1 bt120.2.2.1 bt120.2.2.2 true) else (if bt120.1 = 2 then (heraldref03_Add.j0 k a0 a1 bt116.1 bt116.2.1 bt116.2.2.1 bt116.2.2.2 bt120.1 bt120.2.1 bt120.2.2.1 bt120.2.2.2 true) else (if bt116.1 = 1 then (if bt120.1 = 1 then (heraldref03_Add.j0 k a0 a1 bt116.1 bt116.2.1 bt116.2.2.1 bt116.2.2.2 bt120.1 bt120.2.1 bt120.2.2.1 bt120.2.2.2 (bt116.2.1 != bt120.2.1)) else (heraldref03_Add.j0 k a0 a1 bt116.1 bt116.2.1 bt116.2.2.1 bt116.2.2.2 bt120.1 bt120.2.1 bt120.2.2.1 bt120.2.2.2 false)) else (heraldref03_Add.j0 k a0 a1 bt116.1 bt116.2.1 bt116.2.2.1 bt116.2.2.2 bt120.1 bt120.2.1 bt120.2.2.1 bt120.2.2.2 false)))))
set_option maxHeartbeats 8000000 in
set_option maxRecDepth 100000 in
theorem heraldref03_Add.calls (k : Nat) (a0 : Int) (a1 : Int) (r : Int) (w : World) (h : heraldref03_Add.f k a0 a1 = some r) :
    Calls Try.prog 14 #[.int .u32 a0, .int .u32 a1] w fun e w' => e = .returned (.int .u32 r) ∧ Drawn0 w w' := by
  have H : ((heraldref03_raw.f a0).bind fun bt116 => ((heraldref03_raw.f a1).bind fun bt120 => (if bt116.1 = 2 then (heraldref03_Add.j0 k a0 a1 bt116.1 bt116.2.1 bt116.2.2.1 bt116.2.2.2 bt120.1 bt120.2.1 bt120.2.2.1 bt120.2.2.2 true) else (if bt120.1 = 2 then (heraldref03_Add.j0 k a0 a1 bt116.1 bt116.2.1 bt116.2.2.1 bt116.2.2.2 bt120.1 bt120.2.1 bt120.2.2.1 bt120.2.2.2 true) else (if bt116.1 = 1 then (if bt120.1 = 1 then (heraldref03_Add.j0 k a0 a1 bt116.1 bt116.2.1 bt116.2.2.1 bt116.2.2.2 bt120.1 bt120.2.1 bt120.2.2.1 bt120.2.2.2 (bt116.2.1 != bt120.2.1)) else (heraldref03_Add.j0 k a0 a1 bt116.1 bt116.2.1 bt116.2.2.1 bt116.2.2.2 bt120.1 bt120.2.1 bt120.2.2.1 bt120.2.2.2 false)) else (heraldref03_Add.j0 k a0 a1 bt116.1 bt116.2.1 bt116.2.2.1 bt116.2.2.2 bt120.1 bt120.2.1 bt120.2.2.1 bt120.2.2.2 false)))))) = some r := h
  clear h
  replace H := Option.bind_eq_some_iff.mp H
  obtain ⟨⟨t116, t117, t118, t119⟩, A30, H⟩ := H
  replace H : ((heraldref03_raw.f a1).bind fun bt120 => (if t116 = 2 then (heraldref03_Add.j0 k a0 a1 t116 t117 t118 t119 bt120.1 bt120.2.1 bt120.2.2.1 bt120.2.2.2 true) else (if bt120.1 = 2 then (heraldref03_Add.j0 k a0 a1 t116 t117 t118 t119 bt120.1 bt120.2.1 bt120.2.2.1 bt120.2.2.2 true) else (if t116 = 1 then (if bt120.1 = 1 then (heraldref03_Add.j0 k a0 a1 t116 t117 t118 t119 bt120.1 bt120.2.1 bt120.2.2.1 bt120.2.2.2 (t117 != bt120.2.1)) else (heraldref03_Add.j0 k a0 a1 t116 t117 t118 t119 bt120.1 bt120.2.1 bt120.2.2.1 bt120.2.2.2 false)) else (heraldref03_Add.j0 k a0 a1 t116 t117 t118 t119 bt120.1 bt120.2.1 bt120.2.2.1 bt120.2.2.2 false))))) = some r := H
  have A3 := Aside0.mk A30
  clear A30
  replace H := Option.bind_eq_some_iff.mp H
  obtain ⟨⟨t120, t121, t122, t123⟩, A40, H⟩ := H
  replace H : (if t116 = 2 then (heraldref03_Add.j0 k a0 a1 t116 t117 t118 t119 t120 t121 t122 t123 true) else (if t120 = 2 then (heraldref03_Add.j0 k a0 a1 t116 t117 t118 t119 t120 t121 t122 t123 true) else (if t116 = 1 then (if t120 = 1 then (heraldref03_Add.j0 k a0 a1 t116 t117 t118 t119 t120 t121 t122 t123 (t117 != t121)) else (heraldref03_Add.j0 k a0 a1 t116 t117 t118 t119 t120 t121 t122 t123 false)) else (heraldref03_Add.j0 k a0 a1 t116 t117 t118 t119 t120 t121 t122 t123 false)))) = some r := H
  have A4 := Aside0.mk A40
  clear A40
  have HC5 := Aside0.mk H
  clear H
  go_enter Try.func14, Try.ntmps14
  go_upto_region 3 with (first | ((with_reducible refine gate_callee (f := 32) rfl ?_); refine goesL_ (some 18) rfl rfl Try.func32 (by kernel_rfl) rfl #[.int .u32 a0] rfl (by (try simp only [List.map_toArray, List.map_cons, List.map_nil]); first | done | rfl | (simp only [List.length_drop, List.length_take]; rfl)) ?_; (with_reducible refine (heraldref03_raw.calls a0 t116 t117 t118 t119 _ A3.out).mono ?_); rintro e w' ⟨rfl, ⟨nd, rfl⟩⟩; refine ⟨_, rfl, ?_⟩) | ((with_reducible refine gate_callee (f := 32) rfl ?_); refine goesL_ (some 25) rfl rfl Try.func32 (by kernel_rfl) rfl #[.int .u32 a1] rfl (by (try simp only [List.map_toArray, List.map_cons, List.map_nil]); first | done | rfl | (simp only [List.length_drop, List.length_take]; rfl)) ?_; (with_reducible refine (heraldref03_raw.calls a1 t120 t121 t122 t123 _ A4.out).mono ?_); rintro e w' ⟨rfl, ⟨nd, rfl⟩⟩; refine ⟨_, rfl, ?_⟩))
  (try simp only [Act.put, List.setIfInBounds_toArray, List.set_cons_zero, List.set_cons_succ])
  go_cut [48] (fun v48 wc => ∃ (kq : Nat) (x48_4 : Bool), v48 = .bool x48_4 ∧ Aside0 (heraldref03_Add.j0 kq a0 a1 t116 t117 t118 t119 t120 t121 t122 t123 x48_4 = some r) ∧ Aside0 (kq ≤ k) ∧ Drawn0 w wc)
  case first =>
    have H := HC5.out
    clear HC5
    by_cases c6 : t116 = 2
    · rw [if_pos c6] at H
      have c6b0 : (t116 == 2) = true := beq_iff_eq.mpr c6
      have c6b1 : (t116 != 2) = false := bne_eq_false_iff_eq.mpr c6
      clear c6
      (first | rw [c6b0] | (simp only [i64_w, i32_w]; rw [c6b0]) | skip)
      have H' := Aside0.mk H
      clear H
      go_wp2
      go_meet
      case rel => exact ⟨_, (true), (by first | rfl | (simp; done) | (simp [*]; done) | (simp [i64_w]; done) | (simp [*, i64_w]; done)), H', ⟨by first | omega | exact Nat.le_refl _⟩, by repeat (first | exact Drawn0.refl _ | apply Drawn0.step)⟩
    · rw [if_neg c6] at H
      have c6b0 : (t116 == 2) = false := beq_eq_false_iff_ne.mpr c6
      have c6b1 : (t116 != 2) = true := bne_iff_ne.mpr c6
      (first | rw [c6b0] | (simp only [i64_w, i32_w]; rw [c6b0]) | skip)
      by_cases c7 : t120 = 2
      · rw [if_pos c7] at H
        have c7b0 : (t120 == 2) = true := beq_iff_eq.mpr c7
        have c7b1 : (t120 != 2) = false := bne_eq_false_iff_eq.mpr c7
        clear c7
        have H' := Aside0.mk H
        clear H
        go_wp2
        go_meet
        case rel => exact ⟨_, (true), (by first | rfl | (simp; done) | (simp [*]; done) | (simp [i64_w]; done) | (simp [*, i64_w]; done)), H', ⟨by first | omega | exact Nat.le_refl _⟩, by repeat (first | exact Drawn0.refl _ | apply Drawn0.step)⟩
      · rw [if_neg c7] at H
        have c7b0 : (t120 == 2) = false := beq_eq_false_iff_ne.mpr c7
        have c7b1 : (t120 != 2) = true := bne_iff_ne.mpr c7
        by_cases c8 : t116 = 1
        · rw [if_pos c8] at H
          have c8b0 : (t116 == 1) = true := beq_iff_eq.mpr c8
          have c8b1 : (t116 != 1) = false := bne_eq_false_iff_eq.mpr c8
          clear c8
          by_cases c9 : t120 = 1
          · rw [if_pos c9] at H
            have c9b0 : (t120 == 1) = true := beq_iff_eq.mpr c9
            have c9b1 : (t120 != 1) = false := bne_eq_false_iff_eq.mpr c9
            clear c9
            have H' := Aside0.mk H
            clear H
            go_wp2
            go_meet
            case rel => exact ⟨_, ((t117 != t121)), (by first | rfl | (simp; done) | (simp [*]; done) | (simp [i64_w]; done) | (simp [*, i64_w]; done)), H', ⟨by first | omega | exact Nat.le_refl _⟩, by repeat (first | exact Drawn0.refl _ | apply Drawn0.step)⟩
          · rw [if_neg c9] at H
            have c9b0 : (t120 == 1) = false := beq_eq_false_iff_ne.mpr c9
            have c9b1 : (t120 != 1) = true := bne_iff_ne.mpr c9
            have H' := Aside0.mk H
            clear H
            go_wp2
            go_meet
            case rel => exact ⟨_, (false), (by first | rfl | (simp; done) | (simp [*]; done) | (simp [i64_w]; done) | (simp [*, i64_w]; done)), H', ⟨by first | omega | exact Nat.le_refl _⟩, by repeat (first | exact Drawn0.refl _ | apply Drawn0.step)⟩
        · rw [if_neg c8] at H
          have c8b0 : (t116 == 1) = false := beq_eq_false_iff_ne.mpr c8
          have c8b1 : (t116 != 1) = true := bne_iff_ne.mpr c8
          have H' := Aside0.mk H
          clear H
          go_wp2
          go_meet
          case rel => exact ⟨_, (false), (by first | rfl | (simp; done) | (simp [*]; done) | (simp [i64_w]; done) | (simp [*, i64_w]; done)), H', ⟨by first | omega | exact Nat.le_refl _⟩, by repeat (first | exact Drawn0.refl _ | apply Drawn0.step)⟩
  case rest =>
    clear HC5
    try clear c1
    try clear p2
    try clear c3
    try clear c6
    try clear c6b0
    try clear c6b1
    try clear c7
    try clear c7b0
    try clear c7b1
    try clear c8
    try clear c8b0
    try clear c8b1
    try clear c9
    try clear c9b0
    try clear c9b1
    obtain ⟨kq, x48_4, rfl, HA, HJ4, ⟨mc4, rfl⟩⟩ := hcut
    cases kq with
    | zero => exact absurd HA.out (by simp [heraldref03_Add.j0])
    | succ kj4 =>
      have H := HA.out
      clear HA
      simp only [heraldref03_Add.j0] at H
      by_cases c10 : x48_4 = true
      · subst c10
        have H1 : (some 2143289344) = some r := by rw [if_pos rfl] at H; exact H
        clear H
        have H := H1
        clear H1
        obtain rfl := Option.some.inj H
        go_wp2
        go_ret
        exact ⟨by first | rfl | (simp; done) | (simp [*]; done), by repeat (first | exact Drawn0.refl _ | apply Drawn0.step)⟩
      · replace c10 := Bool.eq_false_iff.mpr c10
        subst c10
        have H1 : (if t116 = 1 then (some a0) else (if t120 = 1 then (some a1) else (if t118 = 0 then (heraldref03_Add.j1 kj4 a0 a1 t117 t118 t119 t121 t122 t123 (t122 == 0)) else (heraldref03_Add.j1 kj4 a0 a1 t117 t118 t119 t121 t122 t123 false)))) = some r := by rw [if_neg (show ¬ (false = true) by decide)] at H; exact H
        clear H
        have H := H1
        clear H1
        by_cases c11 : t116 = 1
        · rw [if_pos c11] at H
          have c11b0 : (t116 == 1) = true := beq_iff_eq.mpr c11
          have c11b1 : (t116 != 1) = false := bne_eq_false_iff_eq.mpr c11
          clear c11
          obtain rfl := Option.some.inj H
          go_wp2
          go_ret
          exact ⟨by first | rfl | (simp; done) | (simp [*]; done), by repeat (first | exact Drawn0.refl _ | apply Drawn0.step)⟩
        · rw [if_neg c11] at H
          have c11b0 : (t116 == 1) = false := beq_eq_false_iff_ne.mpr c11
          have c11b1 : (t116 != 1) = true := bne_iff_ne.mpr c11
          by_cases c12 : t120 = 1
          · rw [if_pos c12] at H
            have c12b0 : (t120 == 1) = true := beq_iff_eq.mpr c12
            have c12b1 : (t120 != 1) = false := bne_eq_false_iff_eq.mpr c12
            clear c12
            obtain rfl := Option.some.inj H
            go_wp2
            go_ret
            exact ⟨by first | rfl | (simp; done) | (simp [*]; done), by repeat (first | exact Drawn0.refl _ | apply Drawn0.step)⟩
          · rw [if_neg c12] at H
            have c12b0 : (t120 == 1) = false := beq_eq_false_iff_ne.mpr c12
            have c12b1 : (t120 != 1) = true := bne_iff_ne.mpr c12
            have HC13 := Aside0.mk H
            clear H
            go_upto_region 9 with (fail)
            go_cut [60] (fun v60 wc => ∃ (kq : Nat) (x60_12 : Bool), v60 = .bool x60_12 ∧ Aside0 (heraldref03_Add.j1 kq a0 a1 t117 t118 t119 t121 t122 t123 x60_12 = some r) ∧ Aside0 (kq ≤ kj4) ∧ Drawn0 w wc)
            case first =>
              have H := HC13.out
              clear HC13
              by_cases c14 : t118 = 0
              · rw [if_pos c14] at H
                have c14b0 : (t118 == 0) = true := beq_iff_eq.mpr c14
                have c14b1 : (t118 != 0) = false := bne_eq_false_iff_eq.mpr c14
                clear c14
                (first | rw [c14b0] | (simp only [i64_w, i32_w]; rw [c14b0]) | skip)
                have H' := Aside0.mk H
                clear H
                go_wp2
                go_meet
                case rel => exact ⟨_, ((t122 == 0)), (by first | rfl | (simp; done) | (simp [*]; done) | (simp [i64_w]; done) | (simp [*, i64_w]; done)), H', ⟨by have := HJ4.out; first | omega | exact Nat.le_refl _⟩, by repeat (first | exact Drawn0.refl _ | apply Drawn0.step)⟩
              · rw [if_neg c14] at H
                have c14b0 : (t118 == 0) = false := beq_eq_false_iff_ne.mpr c14
                have c14b1 : (t118 != 0) = true := bne_iff_ne.mpr c14
                (first | rw [c14b0] | (simp only [i64_w, i32_w]; rw [c14b0]) | skip)
                have H' := Aside0.mk H
                clear H
                go_wp2
                go_meet
                case rel => exact ⟨_, (false), (by first | rfl | (simp; done) | (simp [*]; done) | (simp [i64_w]; done) | (simp [*, i64_w]; done)), H', ⟨by have := HJ4.out; first | omega | exact Nat.le_refl _⟩, by repeat (first | exact Drawn0.refl _ | apply Drawn0.step)⟩
            case rest =>
              clear HC13
              try clear c1
              try clear p2
              try clear c3
              try clear c4
              try clear c6
              try clear c6b0
              try clear c6b1
              try clear c7
              try clear c7b0
              try clear c7b1
              try clear c8
              try clear c8b0
              try clear c8b1
              try clear c9
              try clear c9b0
              try clear c9b1
              try clear c10
              try clear c11
              try clear c11b0
              try clear c11b1
              try clear c12
              try clear c12b0
              try clear c12b1
              try clear c14
              try clear c14b0
              try clear c14b1
              try clear p2
              obtain ⟨kq, x60_12, rfl, HA, HJ12, ⟨mc12, rfl⟩⟩ := hcut
              cases kq with
              | zero => exact absurd HA.out (by simp [heraldref03_Add.j1])
              | succ kj12 =>
                have H := HA.out
                clear HA
                simp only [heraldref03_Add.j1] at H
                by_cases c15 : x60_12 = true
                · subst c15
                  have H1 : (if t117 = true then (if t121 = true then (some 2147483648) else (some 0)) else (some 0)) = some r := by rw [if_pos rfl] at H; exact H
                  clear H
                  have H := H1
                  clear H1
                  by_cases c16 : t117 = true
                  · subst c16
                    have H1 : (if t121 = true then (some 2147483648) else (some 0)) = some r := by rw [if_pos rfl] at H; exact H
                    clear H
                    have H := H1
                    clear H1
                    by_cases c17 : t121 = true
                    · subst c17
                      have H1 : (some 2147483648) = some r := by rw [if_pos rfl] at H; exact H
                      clear H
                      have H := H1
                      clear H1
                      obtain rfl := Option.some.inj H
                      go_wp2
                      go_ret
                      exact ⟨by first | rfl | (simp; done) | (simp [*]; done), by repeat (first | exact Drawn0.refl _ | apply Drawn0.step)⟩
                    · replace c17 := Bool.eq_false_iff.mpr c17
                      subst c17
                      have H1 : (some 0) = some r := by rw [if_neg (show ¬ (false = true) by decide)] at H; exact H
                      clear H
                      have H := H1
                      clear H1
                      obtain rfl := Option.some.inj H
                      go_wp2
                      go_ret
                      exact ⟨by first | rfl | (simp; done) | (simp [*]; done), by repeat (first | exact Drawn0.refl _ | apply Drawn0.step)⟩
                  · replace c16 := Bool.eq_false_iff.mpr c16
                    subst c16
                    have H1 : (some 0) = some r := by rw [if_neg (show ¬ (false = true) by decide)] at H; exact H
                    clear H
                    have H := H1
                    clear H1
                    obtain rfl := Option.some.inj H
                    go_wp2
                    go_ret
                    exact ⟨by first | rfl | (simp; done) | (simp [*]; done), by repeat (first | exact Drawn0.refl _ | apply Drawn0.step)⟩
                · replace c15 := Bool.eq_false_iff.mpr c15
                  subst c15
                  have H1 : (if t118 = 0 then (some a1) else (if t122 = 0 then (some a0) else ((heraldref03_ahead.f kj12 t118 t119 t122 t123).bind fun t124 => (if t124 < 0 then (heraldref03_Add.j2 kj12 t121 t122 t123 t117 t118 t119) else (heraldref03_Add.j2 kj12 t117 t118 t119 t121 t122 t123))))) = some r := by rw [if_neg (show ¬ (false = true) by decide)] at H; exact H
                  clear H
                  have H := H1
                  clear H1
                  by_cases c18 : t118 = 0
                  · rw [if_pos c18] at H
                    have c18b0 : (t118 == 0) = true := beq_iff_eq.mpr c18
                    have c18b1 : (t118 != 0) = false := bne_eq_false_iff_eq.mpr c18
                    clear c18
                    obtain rfl := Option.some.inj H
                    go_wp2
                    go_ret
                    exact ⟨by first | rfl | (simp; done) | (simp [*]; done), by repeat (first | exact Drawn0.refl _ | apply Drawn0.step)⟩
                  · rw [if_neg c18] at H
                    have c18b0 : (t118 == 0) = false := beq_eq_false_iff_ne.mpr c18
                    have c18b1 : (t118 != 0) = true := bne_iff_ne.mpr c18
                    by_cases c19 : t122 = 0
                    · rw [if_pos c19] at H
                      have c19b0 : (t122 == 0) = true := beq_iff_eq.mpr c19
                      have c19b1 : (t122 != 0) = false := bne_eq_false_iff_eq.mpr c19
                      clear c19
                      obtain rfl := Option.some.inj H
                      go_wp2
                      go_ret
                      exact ⟨by first | rfl | (simp; done) | (simp [*]; done), by repeat (first | exact Drawn0.refl _ | apply Drawn0.step)⟩
                    · rw [if_neg c19] at H
                      have c19b0 : (t122 == 0) = false := beq_eq_false_iff_ne.mpr c19
                      have c19b1 : (t122 != 0) = true := bne_iff_ne.mpr c19
                      replace H := Option.bind_eq_some_iff.mp H
                      obtain ⟨t124, A200, H⟩ := H
                      replace H : (if t124 < 0 then (heraldref03_Add.j2 kj12 t121 t122 t123 t117 t118 t119) else (heraldref03_Add.j2 kj12 t117 t118 t119 t121 t122 t123)) = some r := H
                      have A20 := Aside0.mk A200
                      clear A200
                      have HC21 := Aside0.mk H
                      clear H
                      go_upto_if 76 with (first | ((with_reducible refine gate_callee (f := 33) rfl ?_); refine goesL_ (some 75) rfl rfl Try.func33 (by kernel_rfl) rfl #[.int .i64 t118, .int .i64 t119, .int .i64 t122, .int .i64 t123] rfl (by (try simp only [List.map_toArray, List.map_cons, List.map_nil]); first | done | rfl | (simp only [List.length_drop, List.length_take]; rfl)) ?_; (with_reducible refine (heraldref03_ahead.calls kj12 t118 t119 t122 t123 t124 _ A20.out).mono ?_); rintro e w' ⟨rfl, ⟨nd, rfl⟩⟩; refine ⟨_, rfl, ?_⟩))
                      (try simp only [Act.put, List.setIfInBounds_toArray, List.set_cons_zero, List.set_cons_succ])
                      go_cut [6, 7, 8, 10, 11, 12] (fun v6 v7 v8 v10 v11 v12 wc => ∃ (kq : Nat) (x6_20 : Bool) (x7_20 : Int) (x8_20 : Int) (x10_20 : Bool) (x11_20 : Int) (x12_20 : Int), v6 = .bool x6_20 ∧ v7 = .int .i64 x7_20 ∧ v8 = .int .i64 x8_20 ∧ v10 = .bool x10_20 ∧ v11 = .int .i64 x11_20 ∧ v12 = .int .i64 x12_20 ∧ Aside0 (heraldref03_Add.j2 kq x6_20 x7_20 x8_20 x10_20 x11_20 x12_20 = some r) ∧ Aside0 (kq ≤ kj12) ∧ Drawn0 w wc)
                      case first =>
                        have H := HC21.out
                        clear HC21
                        by_cases c22 : t124 < 0
                        · rw [if_pos c22] at H
                          have c22b0 : decide (t124 < 0) = true := decide_eq_true c22
                          clear c22
                          (first | rw [c22b0] | (simp only [i64_w, i32_w]; rw [c22b0]) | skip)
                          have H' := Aside0.mk H
                          clear H
                          go_wp2
                          go_meet
                          case rel => exact ⟨_, (t121), (t122), (t123), (t117), (t118), (t119), (by first | rfl | (simp; done) | (simp [*]; done) | (simp [i64_w]; done) | (simp [*, i64_w]; done)), (by first | rfl | (simp; done) | (simp [*]; done) | (simp [i64_w]; done) | (simp [*, i64_w]; done)), (by first | rfl | (simp; done) | (simp [*]; done) | (simp [i64_w]; done) | (simp [*, i64_w]; done)), (by first | rfl | (simp; done) | (simp [*]; done) | (simp [i64_w]; done) | (simp [*, i64_w]; done)), (by first | rfl | (simp; done) | (simp [*]; done) | (simp [i64_w]; done) | (simp [*, i64_w]; done)), (by first | rfl | (simp; done) | (simp [*]; done) | (simp [i64_w]; done) | (simp [*, i64_w]; done)), H', ⟨by have := HJ4.out; have := HJ12.out; first | omega | exact Nat.le_refl _⟩, by repeat (first | exact Drawn0.refl _ | apply Drawn0.step)⟩
                        · rw [if_neg c22] at H
                          have c22b0 : decide (t124 < 0) = false := decide_eq_false c22
                          clear c22
                          (first | rw [c22b0] | (simp only [i64_w, i32_w]; rw [c22b0]) | skip)
                          have H' := Aside0.mk H
                          clear H
                          go_wp2
                          go_meet
                          case rel => exact ⟨_, (t117), (t118), (t119), (t121), (t122), (t123), (by first | rfl | (simp; done) | (simp [*]; done) | (simp [i64_w]; done) | (simp [*, i64_w]; done)), (by first | rfl | (simp; done) | (simp [*]; done) | (simp [i64_w]; done) | (simp [*, i64_w]; done)), (by first | rfl | (simp; done) | (simp [*]; done) | (simp [i64_w]; done) | (simp [*, i64_w]; done)), (by first | rfl | (simp; done) | (simp [*]; done) | (simp [i64_w]; done) | (simp [*, i64_w]; done)), (by first | rfl | (simp; done) | (simp [*]; done) | (simp [i64_w]; done) | (simp [*, i64_w]; done)), (by first | rfl | (simp; done) | (simp [*]; done) | (simp [i64_w]; done) | (simp [*, i64_w]; done)), H', ⟨by have := HJ4.out; have := HJ12.out; first | omega | exact Nat.le_refl _⟩, by repeat (first | exact Drawn0.refl _ | apply Drawn0.step)⟩
                      case rest =>
                        clear HC21
                        try clear c1
                        try clear c2
                        try clear p2
                        try clear c3
                        try clear c4
                        try clear c6
                        try clear c6b0
                        try clear c6b1
                        try clear c7
                        try clear c7b0
                        try clear c7b1
                        try clear c8
                        try clear c8b0
                        try clear c8b1
                        try clear c9
                        try clear c9b0
                        try clear c9b1
                        try clear c10
                        try clear c11
                        try clear c11b0
                        try clear c11b1
                        try clear c12
                        try clear c12b0
                        try clear c12b1
                        try clear c14
                        try clear c14b0
                        try clear c14b1
                        try clear c15
                        try clear c16
                        try clear c17
                        try clear c18
                        try clear c18b0
                        try clear c18b1
                        try clear c19
                        try clear c19b0
                        try clear c19b1
                        try clear c22
                        try clear c22b0
                        try clear p2
                        obtain ⟨kq, x6_20, x7_20, x8_20, x10_20, x11_20, x12_20, rfl, rfl, rfl, rfl, rfl, rfl, HA, HJ20, ⟨mc20, rfl⟩⟩ := hcut
                        cases kq with
                        | zero => exact absurd HA.out (by simp [heraldref03_Add.j2])
                        | succ kj20 =>
                          have H := HA.out
                          clear HA
                          simp only [heraldref03_Add.j2] at H
                          have HC23 := Aside0.mk H
                          clear H
                          go_upto_if 90 with (fail)
                          go_cut [14] (fun v14 wc => ∃ (kq : Nat) (x14_22 : Int), v14 = .int .u64 x14_22 ∧ Aside0 (heraldref03_Add.j3 kq x6_20 x8_20 x10_20 (IntKind.u64.wrap ((IntKind.u64.wrap (x7_20)) * 8589934592)) x14_22 = some r) ∧ Aside0 (kq ≤ kj20) ∧ Drawn0 w wc)
                          case first =>
                            have H := HC23.out
                            clear HC23
                            by_cases c24 : (wrap64 (x8_20 - x12_20)) ≤ 33
                            · rw [if_pos c24] at H
                              have c24b0 : decide ((wrap64 (x8_20 - x12_20)) ≤ 33) = true := decide_eq_true c24
                              clear c24
                              (first | rw [c24b0] | (simp only [i64_w, i32_w]; rw [c24b0]) | skip)
                              obtain ⟨ji25, hji25⟩ : ∃ j_ : Int, (IntKind.u64.wrap (wrap64 (33 - (wrap64 (x8_20 - x12_20))))) = j_ := ⟨_, rfl⟩
                              replace H : (if 0 ≤ (ji25) then (heraldref03_Add.j3 kj20 x6_20 x8_20 x10_20 (IntKind.u64.wrap ((IntKind.u64.wrap (x7_20)) * 8589934592)) (shl .u64 (IntKind.u64.wrap (x11_20)) (ji25))) else (none)) = some r := by first | (rw [hji25] at H; exact H) | (simp only [hji25] at H ⊢; exact H)
                              by_cases c26 : 0 ≤ (ji25)
                              · rw [if_pos c26] at H
                                have c26b0 := eq_true c26
                                have c26b1 : decide (0 ≤ (ji25)) = true := decide_eq_true c26
                                clear c26
                                obtain ⟨ji27, hji27⟩ : ∃ j_ : Int, (shl .u64 (IntKind.u64.wrap (x11_20)) (ji25)) = j_ := ⟨_, rfl⟩
                                replace H : (heraldref03_Add.j3 kj20 x6_20 x8_20 x10_20 (IntKind.u64.wrap ((IntKind.u64.wrap (x7_20)) * 8589934592)) ji27) = some r := by first | (rw [hji27] at H; exact H) | (simp only [hji27] at H ⊢; exact H)
                                have hji27_ : (IntKind.u64.wrap ((IntKind.u64.wrap (x11_20)) * 2 ^ min (ji25).toNat 64)) = ji27 := hji27
                                have hji27z : (ji25) ≤ 64 → (IntKind.u64.wrap ((IntKind.u64.wrap (x11_20)) * 2 ^ (ji25).toNat)) = ji27 := shl_small hji27
                                have H' := Aside0.mk H
                                clear H
                                go_wp2
                                go_meet
                                case rel => exact ⟨_, (ji27), (by first | rfl | (simp; done) | (simp only [← hji27] <;> (first | rfl | simp)) | (simp [*]; done)), H', ⟨by have := HJ4.out; have := HJ12.out; have := HJ20.out; first | omega | exact Nat.le_refl _⟩, by repeat (first | exact Drawn0.refl _ | apply Drawn0.step)⟩
                              · rw [if_neg c26] at H
                                exact absurd H (by simp)
                            · rw [if_neg c24] at H
                              have c24b0 : decide ((wrap64 (x8_20 - x12_20)) ≤ 33) = false := decide_eq_false c24
                              clear c24
                              (first | rw [c24b0] | (simp only [i64_w, i32_w]; rw [c24b0]) | skip)
                              by_cases c28 : (wrap64 (x8_20 - x12_20)) < 64
                              · rw [if_pos c28] at H
                                have c28b0 : decide ((wrap64 (x8_20 - x12_20)) < 64) = true := decide_eq_true c28
                                clear c28
                                obtain ⟨ji29, hji29⟩ : ∃ j_ : Int, (IntKind.u64.wrap (wrap64 ((wrap64 (x8_20 - x12_20)) - 33))) = j_ := ⟨_, rfl⟩
                                replace H : (if 0 ≤ (ji29) then (if (shl .u64 (shr .u64 (IntKind.u64.wrap (x11_20)) (ji29)) (ji29)) = (IntKind.u64.wrap (x11_20)) then (heraldref03_Add.j3 kj20 x6_20 x8_20 x10_20 (IntKind.u64.wrap ((IntKind.u64.wrap (x7_20)) * 8589934592)) (shr .u64 (IntKind.u64.wrap (x11_20)) (ji29))) else (heraldref03_Add.j3 kj20 x6_20 x8_20 x10_20 (IntKind.u64.wrap ((IntKind.u64.wrap (x7_20)) * 8589934592)) (Go.bits .or .u64 (shr .u64 (IntKind.u64.wrap (x11_20)) (ji29)) 1))) else (none)) = some r := by first | (rw [hji29] at H; exact H) | (simp only [hji29] at H ⊢; exact H)
                                by_cases c30 : 0 ≤ (ji29)
                                · rw [if_pos c30] at H
                                  have c30b0 := eq_true c30
                                  have c30b1 : decide (0 ≤ (ji29)) = true := decide_eq_true c30
                                  clear c30
                                  obtain ⟨ji31, hji31⟩ : ∃ j_ : Int, (shr .u64 (IntKind.u64.wrap (x11_20)) (ji29)) = j_ := ⟨_, rfl⟩
                                  replace H : (if (shl .u64 (ji31) (ji29)) = (IntKind.u64.wrap (x11_20)) then (heraldref03_Add.j3 kj20 x6_20 x8_20 x10_20 (IntKind.u64.wrap ((IntKind.u64.wrap (x7_20)) * 8589934592)) ji31) else (heraldref03_Add.j3 kj20 x6_20 x8_20 x10_20 (IntKind.u64.wrap ((IntKind.u64.wrap (x7_20)) * 8589934592)) (Go.bits .or .u64 (ji31) 1))) = some r := by first | (rw [hji31] at H; exact H) | (simp only [hji31] at H ⊢; exact H)
                                  have hji31_ : ((IntKind.u64.wrap (x11_20)) / 2 ^ min (ji29).toNat 64) = ji31 := hji31
                                  have hji31z : (ji29) ≤ 64 → ((IntKind.u64.wrap (x11_20)) / 2 ^ (ji29).toNat) = ji31 := shr_small hji31
                                  have c32b0 := eq_true (of_decide_eq_true (by first | (with_reducible assumption) | assumption) : 0 ≤ (ji29))
                                  have c34b0 := eq_true (of_decide_eq_true (by first | (with_reducible assumption) | assumption) : 0 ≤ (ji29))
                                  obtain ⟨ji35, hji35⟩ : ∃ j_ : Int, (shl .u64 (ji31) (ji29)) = j_ := ⟨_, rfl⟩
                                  replace H : (if (ji35) = (IntKind.u64.wrap (x11_20)) then (heraldref03_Add.j3 kj20 x6_20 x8_20 x10_20 (IntKind.u64.wrap ((IntKind.u64.wrap (x7_20)) * 8589934592)) ji31) else (heraldref03_Add.j3 kj20 x6_20 x8_20 x10_20 (IntKind.u64.wrap ((IntKind.u64.wrap (x7_20)) * 8589934592)) (Go.bits .or .u64 (ji31) 1))) = some r := by first | (rw [hji35] at H; exact H) | (simp only [hji35] at H ⊢; exact H)
                                  have hji35_ : (IntKind.u64.wrap ((ji31) * 2 ^ min (ji29).toNat 64)) = ji35 := hji35
                                  have hji35z : (ji29) ≤ 64 → (IntKind.u64.wrap ((ji31) * 2 ^ (ji29).toNat)) = ji35 := shl_small hji35
                                  by_cases c36 : (ji35) = (IntKind.u64.wrap (x11_20))
                                  · rw [if_pos c36] at H
                                    have c36b0 : ((ji35) == (IntKind.u64.wrap (x11_20))) = true := beq_iff_eq.mpr c36
                                    have c36b1 : ((ji35) != (IntKind.u64.wrap (x11_20))) = false := bne_eq_false_iff_eq.mpr c36
                                    clear c36
                                    have c37b0 := eq_true (of_decide_eq_true (by first | (with_reducible assumption) | assumption) : 0 ≤ (ji29))
                                    have H' := Aside0.mk H
                                    clear H
                                    go_wp2
                                    go_meet
                                    case rel => exact ⟨_, (ji31), (by first | rfl | (simp; done) | (simp only [← hji31] <;> (first | rfl | simp)) | (simp [*]; done)), H', ⟨by have := HJ4.out; have := HJ12.out; have := HJ20.out; first | omega | exact Nat.le_refl _⟩, by repeat (first | exact Drawn0.refl _ | apply Drawn0.step)⟩
                                  · rw [if_neg c36] at H
                                    have c36b0 : ((ji35) == (IntKind.u64.wrap (x11_20))) = false := beq_eq_false_iff_ne.mpr c36
                                    have c36b1 : ((ji35) != (IntKind.u64.wrap (x11_20))) = true := bne_iff_ne.mpr c36
                                    have H' := Aside0.mk H
                                    clear H
                                    go_wp2
                                    go_meet
                                    case rel => exact ⟨_, (Go.bits .or .u64 (ji31) 1), (by first | rfl | (simp; done) | (simp only [← hji31] <;> (first | rfl | simp)) | (simp [*]; done)), H', ⟨by have := HJ4.out; have := HJ12.out; have := HJ20.out; first | omega | exact Nat.le_refl _⟩, by repeat (first | exact Drawn0.refl _ | apply Drawn0.step)⟩
                                · rw [if_neg c30] at H
                                  exact absurd H (by simp)
                              · rw [if_neg c28] at H
                                have c28b0 : decide ((wrap64 (x8_20 - x12_20)) < 64) = false := decide_eq_false c28
                                clear c28
                                have H' := Aside0.mk H
                                clear H
                                go_wp2
                                go_meet
                                case rel => exact ⟨_, (1), (by first | rfl | (simp; done) | (simp [*]; done) | (simp [i64_w]; done) | (simp [*, i64_w]; done)), H', ⟨by have := HJ4.out; have := HJ12.out; have := HJ20.out; first | omega | exact Nat.le_refl _⟩, by repeat (first | exact Drawn0.refl _ | apply Drawn0.step)⟩
                          case rest =>
                            clear HC23
                            try clear c1
                            try clear c2
                            try clear p2
                            try clear c3
                            try clear c4
                            try clear c6
                            try clear c6b0
                            try clear c6b1
                            try clear p6
                            try clear c7
                            try clear c7b0
                            try clear c7b1
                            try clear c8
                            try clear c8b0
                            try clear c8b1
                            try clear c9
                            try clear c9b0
                            try clear c9b1
                            try clear c10
                            try clear c11
                            try clear c11b0
                            try clear c11b1
                            try clear c12
                            try clear c12b0
                            try clear c12b1
                            try clear c14
                            try clear c14b0
                            try clear c14b1
                            try clear c15
                            try clear c16
                            try clear c17
                            try clear c18
                            try clear c18b0
                            try clear c18b1
                            try clear c19
                            try clear c19b0
                            try clear c19b1
                            try clear c20
                            try clear c22
                            try clear c22b0
                            try clear c24
                            try clear c24b0
                            try clear c26
                            try clear c26b0
                            try clear c26b1
                            try clear c28
                            try clear c28b0
                            try clear c30
                            try clear c30b0
                            try clear c30b1
                            try clear c32
                            try clear c32b0
                            try clear c33
                            try clear c33b0
                            try clear c34
                            try clear c34b0
                            try clear c36
                            try clear c36b0
                            try clear c36b1
                            try clear c37
                            try clear c37b0
                            try clear c38
                            try clear c38b0
                            try clear p2
                            obtain ⟨kq, x14_22, rfl, HA, HJ22, ⟨mc22, rfl⟩⟩ := hcut
                            cases kq with
                            | zero => exact absurd HA.out (by simp [heraldref03_Add.j3])
                            | succ kj22 =>
                              have H := HA.out
                              clear HA
                              simp only [heraldref03_Add.j3] at H
                              by_cases c39 : (x6_20 == x10_20) = true
                              · rw [if_pos c39] at H
                                have c39b0 : (x6_20 == x10_20) = true := c39
                                (try (have c39b1 : decide (x6_20 = x10_20) = true := by simpa using c39))
                                (try (have c39b2 : (x6_20 == x10_20) = true := by simpa using c39))
                                clear c39
                                replace H := Option.bind_eq_some_iff.mp H
                                obtain ⟨t125, A400, H⟩ := H
                                replace H : (some t125) = some r := H
                                have A40 := Aside0.mk A400
                                clear A400
                                obtain rfl := Option.some.inj H
                                go_wp2_with (first | ((with_reducible refine gate_callee (f := 29) rfl ?_); refine goesL_ (some 134) rfl rfl Try.func29 (by kernel_rfl) rfl #[.bool x6_20, .int .u64 (IntKind.u64.wrap ((IntKind.u64.wrap ((IntKind.u64.wrap (x7_20)) * 8589934592)) + x14_22)), .int .i64 (wrap64 (x8_20 - 33))] rfl (by (try simp only [List.map_toArray, List.map_cons, List.map_nil]); first | done | rfl | (simp only [List.length_drop, List.length_take]; rfl)) ?_; (with_reducible refine (heraldref03_near.calls kj22 x6_20 (IntKind.u64.wrap ((IntKind.u64.wrap ((IntKind.u64.wrap (x7_20)) * 8589934592)) + x14_22)) (wrap64 (x8_20 - 33)) t125 _ A40.out).mono ?_); rintro e w' ⟨rfl, ⟨nd, rfl⟩⟩; refine ⟨_, rfl, ?_⟩))
                                go_ret
                                exact ⟨by first | rfl | (simp; done) | (simp [*]; done), by repeat (first | exact Drawn0.refl _ | apply Drawn0.step)⟩
                              · rw [if_neg c39] at H
                                have c39b0 : (x6_20 == x10_20) = false := by simpa using c39
                                (try (have c39b1 : decide (x6_20 = x10_20) = false := by simpa using c39))
                                (try (have c39b2 : (x6_20 == x10_20) = false := by simpa using c39))
                                (try (have c39b3 : ¬ (x6_20 = x10_20) := by simpa using c39))
                                clear c39
                                by_cases c41 : (IntKind.u64.wrap ((IntKind.u64.wrap (x7_20)) * 8589934592)) = x14_22
                                · rw [if_pos c41] at H
                                  have c41b0 : ((IntKind.u64.wrap ((IntKind.u64.wrap (x7_20)) * 8589934592)) == x14_22) = true := beq_iff_eq.mpr c41
                                  have c41b1 : ((IntKind.u64.wrap ((IntKind.u64.wrap (x7_20)) * 8589934592)) != x14_22) = false := bne_eq_false_iff_eq.mpr c41
                                  clear c41
                                  obtain rfl := Option.some.inj H
                                  go_wp2
                                  go_ret
                                  exact ⟨by first | rfl | (simp; done) | (simp [*]; done), by repeat (first | exact Drawn0.refl _ | apply Drawn0.step)⟩
                                · rw [if_neg c41] at H
                                  have c41b0 : ((IntKind.u64.wrap ((IntKind.u64.wrap (x7_20)) * 8589934592)) == x14_22) = false := beq_eq_false_iff_ne.mpr c41
                                  have c41b1 : ((IntKind.u64.wrap ((IntKind.u64.wrap (x7_20)) * 8589934592)) != x14_22) = true := bne_iff_ne.mpr c41
                                  replace H := Option.bind_eq_some_iff.mp H
                                  obtain ⟨t126, A420, H⟩ := H
                                  replace H : (some t126) = some r := H
                                  have A42 := Aside0.mk A420
                                  clear A420
                                  obtain rfl := Option.some.inj H
                                  go_wp2_with (first | ((with_reducible refine gate_callee (f := 29) rfl ?_); refine goesL_ (some 144) rfl rfl Try.func29 (by kernel_rfl) rfl #[.bool x6_20, .int .u64 (IntKind.u64.wrap ((IntKind.u64.wrap ((IntKind.u64.wrap (x7_20)) * 8589934592)) - x14_22)), .int .i64 (wrap64 (x8_20 - 33))] rfl (by (try simp only [List.map_toArray, List.map_cons, List.map_nil]); first | done | rfl | (simp only [List.length_drop, List.length_take]; rfl)) ?_; (with_reducible refine (heraldref03_near.calls kj22 x6_20 (IntKind.u64.wrap ((IntKind.u64.wrap ((IntKind.u64.wrap (x7_20)) * 8589934592)) - x14_22)) (wrap64 (x8_20 - 33)) t126 _ A42.out).mono ?_); rintro e w' ⟨rfl, ⟨nd, rfl⟩⟩; refine ⟨_, rfl, ?_⟩))
                                  go_ret
                                  exact ⟨by first | rfl | (simp; done) | (simp [*]; done), by repeat (first | exact Drawn0.refl _ | apply Drawn0.step)⟩
end Go.Proofs.Yteecekhfpfnepaa.PAll
end

section
namespace Go.Proofs.Yteecekhfpfnepaa.PAll
open Go.RowKit Go.Proofs.YteecekhfpfnepaaW.PrintWords Go.Proofs.YteecekhfpfnepaaW.PrintLast Go.Proofs.YteecekhfpfnepaaW.PrintMore
attribute [local go_sem] max2_int min2_int max_two min_two max_three min_three max_four min_four   -- for this text's walks alone
set_option linter.unusedVariables false
set_option linter.unusedSimpArgs false
def heraldref03_negated.f (a0 : Int) : Option (Int) := some (Go.bits .xor .u32 a0 2147483648)
set_option maxHeartbeats 8000000 in
set_option maxRecDepth 100000 in
theorem heraldref03_negated.calls (a0 : Int) (r : Int) (w : World) (h : heraldref03_negated.f a0 = some r) :
    Calls Try.prog 34 #[.int .u32 a0] w fun e w' => e = .returned (.int .u32 r) ∧ Drawn0 w w' := by
  have H : (some (Go.bits .xor .u32 a0 2147483648)) = some r := h
  clear h
  obtain rfl := Option.some.inj H
  go_enter Try.func34, Try.ntmps34
  go_wp2
  go_ret
  exact ⟨by first | rfl | (simp; done) | (simp [*]; done), by repeat (first | exact Drawn0.refl _ | apply Drawn0.step)⟩
end Go.Proofs.Yteecekhfpfnepaa.PAll
end

section
namespace Go.Proofs.Yteecekhfpfnepaa.PAll
open Go.RowKit Go.Proofs.YteecekhfpfnepaaW.PrintWords Go.Proofs.YteecekhfpfnepaaW.PrintLast Go.Proofs.YteecekhfpfnepaaW.PrintMore
attribute [local go_sem] max2_int min2_int max_two min_two max_three min_three max_four min_four   -- for this text's walks alone
set_option linter.unusedVariables false
set_option linter.unusedSimpArgs false
def heraldref03_Sub.f (k : Nat) (a0 : Int) (a1 : Int) : Option (Int) := (heraldref03_raw.f a1).bind fun bt190 => (if bt190.1 = 2 then (some 2143289344) else ((heraldref03_negated.f a1).bind fun t194 => ((heraldref03_Add.f k a0 t194).bind fun t195 => (some t195))))
set_option maxHeartbeats 8000000 in
set_option maxRecDepth 100000 in
theorem heraldref03_Sub.calls (k : Nat) (a0 : Int) (a1 : Int) (r : Int) (w : World) (h : heraldref03_Sub.f k a0 a1 = some r) :
    Calls Try.prog 22 #[.int .u32 a0, .int .u32 a1] w fun e w' => e = .returned (.int .u32 r) ∧ Drawn0 w w' := by
  have H : ((heraldref03_raw.f a1).bind fun bt190 => (if bt190.1 = 2 then (some 2143289344) else ((heraldref03_negated.f a1).bind fun t194 => ((heraldref03_Add.f k a0 t194).bind fun t195 => (some t195))))) = some r := h
  clear h
  replace H := Option.bind_eq_some_iff.mp H
  obtain ⟨⟨t190, t191, t192, t193⟩, A30, H⟩ := H
  replace H : (if t190 = 2 then (some 2143289344) else ((heraldref03_negated.f a1).bind fun t194 => ((heraldref03_Add.f k a0 t194).bind fun t195 => (some t195)))) = some r := H
  have A3 := Aside0.mk A30
  clear A30
  by_cases c4 : t190 = 2
  · rw [if_pos c4] at H
    have c4b0 : (t190 == 2) = true := beq_iff_eq.mpr c4
    have c4b1 : (t190 != 2) = false := bne_eq_false_iff_eq.mpr c4
    clear c4
    obtain rfl := Option.some.inj H
    go_enter Try.func22, Try.ntmps22
    go_wp2_with (first | ((with_reducible refine gate_callee (f := 32) rfl ?_); refine goesL_ (some 11) rfl rfl Try.func32 (by kernel_rfl) rfl #[.int .u32 a1] rfl (by (try simp only [List.map_toArray, List.map_cons, List.map_nil]); first | done | rfl | (simp only [List.length_drop, List.length_take]; rfl)) ?_; (with_reducible refine (heraldref03_raw.calls a1 t190 t191 t192 t193 _ A3.out).mono ?_); rintro e w' ⟨rfl, ⟨nd, rfl⟩⟩; refine ⟨_, rfl, ?_⟩))
    go_ret
    exact ⟨by first | rfl | (simp; done) | (simp [*]; done), by repeat (first | exact Drawn0.refl _ | apply Drawn0.step)⟩
  · rw [if_neg c4] at H
    have c4b0 : (t190 == 2) = false := beq_eq_false_iff_ne.mpr c4
    have c4b1 : (t190 != 2) = true := bne_iff_ne.mpr c4
    replace H := Option.bind_eq_some_iff.mp H
    obtain ⟨t194, A50, H⟩ := H
    replace H : ((heraldref03_Add.f k a0 t194).bind fun t195 => (some t195)) = some r := H
    have A5 := Aside0.mk A50
    clear A50
    replace H := Option.bind_eq_some_iff.mp H
    obtain ⟨t195, A60, H⟩ := H
    replace H : (some t195) = some r := H
    have A6 := Aside0.mk A60
    clear A60
    obtain rfl := Option.some.inj H
    go_enter Try.func22, Try.ntmps22
    go_wp2_with (first | ((with_reducible refine gate_callee (f := 32) rfl ?_); refine goesL_ (some 11) rfl rfl Try.func32 (by kernel_rfl) rfl #[.int .u32 a1] rfl (by (try simp only [List.map_toArray, List.map_cons, List.map_nil]); first | done | rfl | (simp only [List.length_drop, List.length_take]; rfl)) ?_; (with_reducible refine (heraldref03_raw.calls a1 t190 t191 t192 t193 _ A3.out).mono ?_); rintro e w' ⟨rfl, ⟨nd, rfl⟩⟩; refine ⟨_, rfl, ?_⟩) | ((with_reducible refine gate_callee (f := 34) rfl ?_); refine goesL_ (some 20) rfl rfl Try.func34 (by kernel_rfl) rfl #[.int .u32 a1] rfl (by (try simp only [List.map_toArray, List.map_cons, List.map_nil]); first | done | rfl | (simp only [List.length_drop, List.length_take]; rfl)) ?_; (with_reducible refine (heraldref03_negated.calls a1 t194 _ A5.out).mono ?_); rintro e w' ⟨rfl, ⟨nd, rfl⟩⟩; refine ⟨_, rfl, ?_⟩) | ((with_reducible refine gate_callee (f := 14) rfl ?_); refine goesL_ (some 21) rfl rfl Try.func14 (by kernel_rfl) rfl #[.int .u32 a0, .int .u32 t194] rfl (by (try simp only [List.map_toArray, List.map_cons, List.map_nil]); first | done | rfl | (simp only [List.length_drop, List.length_take]; rfl)) ?_; (with_reducible refine (heraldref03_Add.calls k a0 t194 t195 _ A6.out).mono ?_); rintro e w' ⟨rfl, ⟨nd, rfl⟩⟩; refine ⟨_, rfl, ?_⟩))
    go_ret
    exact ⟨by first | rfl | (simp; done) | (simp [*]; done), by repeat (first | exact Drawn0.refl _ | apply Drawn0.step)⟩
end Go.Proofs.Yteecekhfpfnepaa.PAll
end

section
namespace Go.Proofs.Yteecekhfpfnepaa.PAll
open Go.RowKit Go.Proofs.YteecekhfpfnepaaW.PrintWords Go.Proofs.YteecekhfpfnepaaW.PrintLast Go.Proofs.YteecekhfpfnepaaW.PrintMore
attribute [local go_sem] max2_int min2_int max_two min_two max_three min_three max_four min_four   -- for this text's walks alone
set_option linter.unusedVariables false
set_option linter.unusedSimpArgs false
mutual
def heraldref03_Div.j0 : Nat → Int → Bool → Int → Int → Int → Bool → Int → Int → Bool → Bool → Option (Int)
  | 0, _, _, _, _, _, _, _, _, _, _ => none
  | k + 1, x5, x6, x7, x8, x9, x10, x11, x12, x13, x14 => if x5 = 2 then (heraldref03_Div.j1 k x5 x6 x7 x8 x9 x10 x11 x12 x13 x14 true) else (if x9 = 2 then (heraldref03_Div.j1 k x5 x6 x7 x8 x9 x10 x11 x12 x13 x14 true) else (if x13 = true then (if x14 = true then (heraldref03_Div.j1 k x5 x6 x7 x8 x9 x10 x11 x12 x13 x14 true) else (if x5 = 1 then (heraldref03_Div.j1 k x5 x6 x7 x8 x9 x10 x11 x12 x13 x14 (x9 == 1)) else (heraldref03_Div.j1 k x5 x6 x7 x8 x9 x10 x11 x12 x13 x14 false))) else (if x5 = 1 then (heraldref03_Div.j1 k x5 x6 x7 x8 x9 x10 x11 x12 x13 x14 (x9 == 1)) else (heraldref03_Div.j1 k x5 x6 x7 x8 x9 x10 x11 x12 x13 x14 false))))
def heraldref03_Div.j1 : Nat → Int → Bool → Int → Int → Int → Bool → Int → Int → Bool → Bool → Bool → Option (Int)
  | 0, _, _, _, _, _, _, _, _, _, _, _ => none
  | k + 1, x5, x6, x7, x8, x9, x10, x11, x12, x13, x14, x62 => if x62 = true then (some 2143289344) else (if (x6 != x10) = true then (heraldref03_Div.j2 k x5 x6 x7 x8 x9 x10 x11 x12 x13 x14 2147483648) else (heraldref03_Div.j2 k x5 x6 x7 x8 x9 x10 x11 x12 x13 x14 0))
def heraldref03_Div.j2 : Nat → Int → Bool → Int → Int → Int → Bool → Int → Int → Bool → Bool → Int → Option (Int)
  | 0, _, _, _, _, _, _, _, _, _, _, _ => none
  | k + 1, x5, x6, x7, x8, x9, x10, x11, x12, x13, x14, x15 => if x5 = 1 then (heraldref03_Div.j3 k x6 x7 x8 x9 x10 x11 x12 x13 x15 true) else (heraldref03_Div.j3 k x6 x7 x8 x9 x10 x11 x12 x13 x15 x14)
def heraldref03_Div.j3 : Nat → Bool → Int → Int → Int → Bool → Int → Int → Bool → Int → Bool → Option (Int)
  | 0, _, _, _, _, _, _, _, _, _, _ => none
  | k + 1, x6, x7, x8, x9, x10, x11, x12, x13, x15, x70 => if x70 = true then (some ((x15 + 2139095040) % 4294967296)) else (if x9 = 1 then (heraldref03_Div.j4 k x6 x7 x8 x10 x11 x12 x15 true) else (heraldref03_Div.j4 k x6 x7 x8 x10 x11 x12 x15 x13))
def heraldref03_Div.j4 : Nat → Bool → Int → Int → Bool → Int → Int → Int → Bool → Option (Int)
  | 0, _, _, _, _, _, _, _, _ => none
  | k + 1, x6, x7, x8, x10, x11, x12, x15, x77 => if x77 = true then (some x15) else (heraldref03_Div.l0 k x6 x7 x8 x10 x11 x12)
def heraldref03_Div.l0 : Nat → Bool → Int → Int → Bool → Int → Int → Option (Int)
  | 0, _, _, _, _, _, _ => none
  | k + 1, x6, x7, x8, x10, x11, x12 => if x7 < 8388608 then (heraldref03_Div.l0 k x6 (wrap64 (x7 * 2)) (wrap64 (x8 - 1)) x10 x11 x12) else (heraldref03_Div.l1 k x6 x7 x8 x10 x11 x12)
def heraldref03_Div.l1 : Nat → Bool → Int → Int → Bool → Int → Int → Option (Int)
  | 0, _, _, _, _, _, _ => none
  | k + 1, x6, x7, x8, x10, x11, x12 => if x11 ≥ 2 then (if (Int.tmod x11 2) = 0 then (heraldref03_Div.l1 k x6 x7 x8 x10 (wrap64 (Int.tdiv x11 2)) (wrap64 (x12 + 1))) else (if (IntKind.u64.wrap (x11)) = 0 then (none) else (if (IntKind.u64.wrap ((IntKind.u64.wrap (Int.tdiv (IntKind.u64.wrap ((IntKind.u64.wrap (x7)) * 274877906944)) (IntKind.u64.wrap (x11)))) * (IntKind.u64.wrap (x11)))) = (IntKind.u64.wrap ((IntKind.u64.wrap (x7)) * 274877906944)) then ((heraldref03_near.f k (x6 != x10) (IntKind.u64.wrap (Int.tdiv (IntKind.u64.wrap ((IntKind.u64.wrap (x7)) * 274877906944)) (IntKind.u64.wrap (x11)))) (wrap64 ((wrap64 (x8 - 38)) - x12))).bind fun t204 => (some t204)) else ((heraldref03_near.f k (x6 != x10) (Go.bits .or .u64 (IntKind.u64.wrap (Int.tdiv (IntKind.u64.wrap ((IntKind.u64.wrap (x7)) * 274877906944)) (IntKind.u64.wrap (x11)))) 1) (wrap64 ((wrap64 (x8 - 38)) - x12))).bind fun t205 => (some t205))))) else (if (IntKind.u64.wrap (x11)) = 0 then (none) else (if (IntKind.u64.wrap ((IntKind.u64.wrap (Int.tdiv (IntKind.u64.wrap ((IntKind.u64.wrap (x7)) * 274877906944)) (IntKind.u64.wrap (x11)))) * (IntKind.u64.wrap (x11)))) = (IntKind.u64.wrap ((IntKind.u64.wrap (x7)) * 274877906944)) then ((heraldref03_near.f k (x6 != x10) (IntKind.u64.wrap (Int.tdiv (IntKind.u64.wrap ((IntKind.u64.wrap (x7)) * 274877906944)) (IntKind.u64.wrap (x11)))) (wrap64 ((wrap64 (x8 - 38)) - x12))).bind fun t206 => (some t206)) else ((heraldref03_near.f k (x6 != x10) (Go.bits .or .u64 (IntKind.u64.wrap (Int.tdiv (IntKind.u64.wrap ((IntKind.u64.wrap (x7)) * 274877906944)) (IntKind.u64.wrap (x11)))) 1) (wrap64 ((wrap64 (x8 - 38)) - x12))).bind fun t207 => (some t207))))
end
def heraldref03_Div.f (k : Nat) (a0 : Int) (a1 : Int) : Option (Int) := (heraldref03_raw.f a0).bind fun bt196 => ((heraldref03_raw.f a1).bind fun bt200 => (if bt196.1 = 0 then (if bt200.1 = 0 then (heraldref03_Div.j0 k bt196.1 bt196.2.1 bt196.2.2.1 bt196.2.2.2 bt200.1 bt200.2.1 bt200.2.2.1 bt200.2.2.2 (bt196.2.2.1 == 0) (bt200.2.2.1 == 0)) else (heraldref03_Div.j0 k bt196.1 bt196.2.1 bt196.2.2.1 bt196.2.2.2 bt200.1 bt200.2.1 bt200.2.2.1 bt200.2.2.2 (bt196.2.2.1 == 0) false)) else (if bt200.1 = 0 then (heraldref03_Div.j0 k bt196.1 bt196.2.1 bt196.2.2.1 bt196.2.2.2 bt200.1 bt200.2.1 bt200.2.2.1 bt200.2.2.2 false (bt200.2.2.1 == 0)) else (heraldref03_Div.j0 k bt196.1 bt196.2.1 bt196.2.2.1 bt196.2.2.2 bt200.1 bt200.2.1 bt200.2.2.1 bt200.2.2.2 false false))))
set_option maxHeartbeats 8000000 in
set_option maxRecDepth 100000 in
theorem heraldref03_Div.calls (k : Nat) (a0 : Int) (a1 : Int) (r : Int) (w : World) (h : heraldref03_Div.f k a0 a1 = some r) :
    Calls Try.prog 24 #[.int .u32 a0, .int .u32 a1] w fun e w' => e = .returned (.int .u32 r) ∧ Drawn0 w w' := by
  have H : ((heraldref03_raw.f a0).bind fun bt196 => ((heraldref03_raw.f a1).bind fun bt200 => (if bt196.1 = 0 then (if bt200.1 = 0 then (heraldref03_Div.j0 k bt196.1 bt196.2.1 bt196.2.2.1 bt196.2.2.2 bt200.1 bt200.2.1 bt200.2.2.1 bt200.2.2.2 (bt196.2.2.1 == 0) (bt200.2.2.1 == 0)) else (heraldref03_Div.j0 k bt196.1 bt196.2.1 bt196.2.2.1 bt196.2.2.2 bt200.1 bt200.2.1 bt200.2.2.1 bt200.2.2.2 (bt196.2.2.1 == 0) false)) else (if bt200.1 = 0 then (heraldref03_Div.j0 k bt196.1 bt196.2.1 bt196.2.2.1 bt196.2.2.2 bt200.1 bt200.2.1 bt200.2.2.1 bt200.2.2.2 false (bt200.2.2.1 == 0)) else (heraldref03_Div.j0 k bt196.1 bt196.2.1 bt196.2.2.1 bt196.2.2.2 bt200.1 bt200.2.1 bt200.2.2.1 bt200.2.2.2 false false))))) = some r := h
  clear h
  replace H := Option.bind_eq_some_iff.mp H
  obtain ⟨⟨t196, t197, t198, t199⟩, A30, H⟩ := H
  replace H : ((heraldref03_raw.f a1).bind fun bt200 => (if t196 = 0 then (if bt200.1 = 0 then (heraldref03_Div.j0 k t196 t197 t198 t199 bt200.1 bt200.2.1 bt200.2.2.1 bt200.2.2.2 (t198 == 0) (bt200.2.2.1 == 0)) else (heraldref03_Div.j0 k t196 t197 t198 t199 bt200.1 bt200.2.1 bt200.2.2.1 bt200.2.2.2 (t198 == 0) false)) else (if bt200.1 = 0 then (heraldref03_Div.j0 k t196 t197 t198 t199 bt200.1 bt200.2.1 bt200.2.2.1 bt200.2.2.2 false (bt200.2.2.1 == 0)) else (heraldref03_Div.j0 k t196 t197 t198 t199 bt200.1 bt200.2.1 bt200.2.2.1 bt200.2.2.2 false false)))) = some r := H
  have A3 := Aside0.mk A30
  clear A30
  replace H := Option.bind_eq_some_iff.mp H
  obtain ⟨⟨t200, t201, t202, t203⟩, A40, H⟩ := H
  replace H : (if t196 = 0 then (if t200 = 0 then (heraldref03_Div.j0 k t196 t197 t198 t199 t200 t201 t202 t203 (t198 == 0) (t202 == 0)) else (heraldref03_Div.j0 k t196 t197 t198 t199 t200 t201 t202 t203 (t198 == 0) false)) else (if t200 = 0 then (heraldref03_Div.j0 k t196 t197 t198 t199 t200 t201 t202 t203 false (t202 == 0)) else (heraldref03_Div.j0 k t196 t197 t198 t199 t200 t201 t202 t203 false false))) = some r := H
  have A4 := Aside0.mk A40
  clear A40
  have HC5 := Aside0.mk H
  clear H
  go_enter Try.func24, Try.ntmps24
  go_upto_region 3 with (first | ((with_reducible refine gate_callee (f := 32) rfl ?_); refine goesL_ (some 19) rfl rfl Try.func32 (by kernel_rfl) rfl #[.int .u32 a0] rfl (by (try simp only [List.map_toArray, List.map_cons, List.map_nil]); first | done | rfl | (simp only [List.length_drop, List.length_take]; rfl)) ?_; (with_reducible refine (heraldref03_raw.calls a0 t196 t197 t198 t199 _ A3.out).mono ?_); rintro e w' ⟨rfl, ⟨nd, rfl⟩⟩; refine ⟨_, rfl, ?_⟩) | ((with_reducible refine gate_callee (f := 32) rfl ?_); refine goesL_ (some 26) rfl rfl Try.func32 (by kernel_rfl) rfl #[.int .u32 a1] rfl (by (try simp only [List.map_toArray, List.map_cons, List.map_nil]); first | done | rfl | (simp only [List.length_drop, List.length_take]; rfl)) ?_; (with_reducible refine (heraldref03_raw.calls a1 t200 t201 t202 t203 _ A4.out).mono ?_); rintro e w' ⟨rfl, ⟨nd, rfl⟩⟩; refine ⟨_, rfl, ?_⟩))
  (try simp only [Act.put, List.setIfInBounds_toArray, List.set_cons_zero, List.set_cons_succ])
  go_cut [13, 14] (fun v13 v14 wc => ∃ (kq : Nat) (x13_4 : Bool) (x14_4 : Bool), v13 = .bool x13_4 ∧ v14 = .bool x14_4 ∧ Aside0 (heraldref03_Div.j0 kq t196 t197 t198 t199 t200 t201 t202 t203 x13_4 x14_4 = some r) ∧ Aside0 (kq ≤ k) ∧ Drawn0 w wc)
  case first =>
    have H := HC5.out
    clear HC5
    by_cases c6 : t196 = 0
    · rw [if_pos c6] at H
      have c6b0 : (t196 == 0) = true := beq_iff_eq.mpr c6
      have c6b1 : (t196 != 0) = false := bne_eq_false_iff_eq.mpr c6
      clear c6
      (first | rw [c6b0] | (simp only [i64_w, i32_w]; rw [c6b0]) | skip)
      by_cases c7 : t200 = 0
      · rw [if_pos c7] at H
        have c7b0 : (t200 == 0) = true := beq_iff_eq.mpr c7
        have c7b1 : (t200 != 0) = false := bne_eq_false_iff_eq.mpr c7
        clear c7
        have H' := Aside0.mk H
        clear H
        go_wp2
        go_meet
        case rel => exact ⟨_, ((t198 == 0)), ((t202 == 0)), (by first | rfl | (simp; done) | (simp [*]; done) | (simp [i64_w]; done) | (simp [*, i64_w]; done)), (by first | rfl | (simp; done) | (simp [*]; done) | (simp [i64_w]; done) | (simp [*, i64_w]; done)), H', ⟨by first | omega | exact Nat.le_refl _⟩, by repeat (first | exact Drawn0.refl _ | apply Drawn0.step)⟩
      · rw [if_neg c7] at H
        have c7b0 : (t200 == 0) = false := beq_eq_false_iff_ne.mpr c7
        have c7b1 : (t200 != 0) = true := bne_iff_ne.mpr c7
        have H' := Aside0.mk H
        clear H
        go_wp2
        go_meet
        case rel => exact ⟨_, ((t198 == 0)), (false), (by first | rfl | (simp; done) | (simp [*]; done) | (simp [i64_w]; done) | (simp [*, i64_w]; done)), (by first | rfl | (simp; done) | (simp [*]; done) | (simp [i64_w]; done) | (simp [*, i64_w]; done)), H', ⟨by first | omega | exact Nat.le_refl _⟩, by repeat (first | exact Drawn0.refl _ | apply Drawn0.step)⟩
    · rw [if_neg c6] at H
      have c6b0 : (t196 == 0) = false := beq_eq_false_iff_ne.mpr c6
      have c6b1 : (t196 != 0) = true := bne_iff_ne.mpr c6
      (first | rw [c6b0] | (simp only [i64_w, i32_w]; rw [c6b0]) | skip)
      by_cases c8 : t200 = 0
      · rw [if_pos c8] at H
        have c8b0 : (t200 == 0) = true := beq_iff_eq.mpr c8
        have c8b1 : (t200 != 0) = false := bne_eq_false_iff_eq.mpr c8
        clear c8
        have H' := Aside0.mk H
        clear H
        go_wp2
        go_meet
        case rel => exact ⟨_, (false), ((t202 == 0)), (by first | rfl | (simp; done) | (simp [*]; done) | (simp [i64_w]; done) | (simp [*, i64_w]; done)), (by first | rfl | (simp; done) | (simp [*]; done) | (simp [i64_w]; done) | (simp [*, i64_w]; done)), H', ⟨by first | omega | exact Nat.le_refl _⟩, by repeat (first | exact Drawn0.refl _ | apply Drawn0.step)⟩
      · rw [if_neg c8] at H
        have c8b0 : (t200 == 0) = false := beq_eq_false_iff_ne.mpr c8
        have c8b1 : (t200 != 0) = true := bne_iff_ne.mpr c8
        have H' := Aside0.mk H
        clear H
        go_wp2
        go_meet
        case rel => exact ⟨_, (false), (false), (by first | rfl | (simp; done) | (simp [*]; done) | (simp [i64_w]; done) | (simp [*, i64_w]; done)), (by first | rfl | (simp; done) | (simp [*]; done) | (simp [i64_w]; done) | (simp [*, i64_w]; done)), H', ⟨by first | omega | exact Nat.le_refl _⟩, by repeat (first | exact Drawn0.refl _ | apply Drawn0.step)⟩
  case rest =>
    clear HC5
    try clear c2
    try clear p2
    try clear c3
    try clear c6
    try clear c6b0
    try clear c6b1
    try clear c7
    try clear c7b0
    try clear c7b1
    try clear c8
    try clear c8b0
    try clear c8b1
    obtain ⟨kq, x13_4, x14_4, rfl, rfl, HA, HJ4, ⟨mc4, rfl⟩⟩ := hcut
    cases kq with
    | zero => exact absurd HA.out (by simp [heraldref03_Div.j0])
    | succ kj4 =>
      have H := HA.out
      clear HA
      simp only [heraldref03_Div.j0] at H
      have HC9 := Aside0.mk H
      clear H
      go_upto_region 4 with (fail)
      go_cut [62] (fun v62 wc => ∃ (kq : Nat) (x62_8 : Bool), v62 = .bool x62_8 ∧ Aside0 (heraldref03_Div.j1 kq t196 t197 t198 t199 t200 t201 t202 t203 x13_4 x14_4 x62_8 = some r) ∧ Aside0 (kq ≤ kj4) ∧ Drawn0 w wc)
      case first =>
        have H := HC9.out
        clear HC9
        by_cases c10 : t196 = 2
        · rw [if_pos c10] at H
          have c10b0 : (t196 == 2) = true := beq_iff_eq.mpr c10
          have c10b1 : (t196 != 2) = false := bne_eq_false_iff_eq.mpr c10
          clear c10
          (first | rw [c10b0] | (simp only [i64_w, i32_w]; rw [c10b0]) | skip)
          have H' := Aside0.mk H
          clear H
          go_wp2
          go_meet
          case rel => exact ⟨_, (true), (by first | rfl | (simp; done) | (simp [*]; done) | (simp [i64_w]; done) | (simp [*, i64_w]; done)), H', ⟨by have := HJ4.out; first | omega | exact Nat.le_refl _⟩, by repeat (first | exact Drawn0.refl _ | apply Drawn0.step)⟩
        · rw [if_neg c10] at H
          have c10b0 : (t196 == 2) = false := beq_eq_false_iff_ne.mpr c10
          have c10b1 : (t196 != 2) = true := bne_iff_ne.mpr c10
          (first | rw [c10b0] | (simp only [i64_w, i32_w]; rw [c10b0]) | skip)
          by_cases c11 : t200 = 2
          · rw [if_pos c11] at H
            have c11b0 : (t200 == 2) = true := beq_iff_eq.mpr c11
            have c11b1 : (t200 != 2) = false := bne_eq_false_iff_eq.mpr c11
            clear c11
            have H' := Aside0.mk H
            clear H
            go_wp2
            go_meet
            case rel => exact ⟨_, (true), (by first | rfl | (simp; done) | (simp [*]; done) | (simp [i64_w]; done) | (simp [*, i64_w]; done)), H', ⟨by have := HJ4.out; first | omega | exact Nat.le_refl _⟩, by repeat (first | exact Drawn0.refl _ | apply Drawn0.step)⟩
          · rw [if_neg c11] at H
            have c11b0 : (t200 == 2) = false := beq_eq_false_iff_ne.mpr c11
            have c11b1 : (t200 != 2) = true := bne_iff_ne.mpr c11
            by_cases c12 : x13_4 = true
            · subst c12
              have H1 : (if x14_4 = true then (heraldref03_Div.j1 kj4 t196 t197 t198 t199 t200 t201 t202 t203 true x14_4 true) else (if t196 = 1 then (heraldref03_Div.j1 kj4 t196 t197 t198 t199 t200 t201 t202 t203 true x14_4 (t200 == 1)) else (heraldref03_Div.j1 kj4 t196 t197 t198 t199 t200 t201 t202 t203 true x14_4 false))) = some r := by rw [if_pos rfl] at H; exact H
              clear H
              have H := H1
              clear H1
              by_cases c13 : x14_4 = true
              · subst c13
                have H1 : (heraldref03_Div.j1 kj4 t196 t197 t198 t199 t200 t201 t202 t203 true true true) = some r := by rw [if_pos rfl] at H; exact H
                clear H
                have H := H1
                clear H1
                have H' := Aside0.mk H
                clear H
                go_wp2
                go_meet
                case rel => exact ⟨_, (true), (by first | rfl | (simp; done) | (simp [*]; done) | (simp [i64_w]; done) | (simp [*, i64_w]; done)), H', ⟨by have := HJ4.out; first | omega | exact Nat.le_refl _⟩, by repeat (first | exact Drawn0.refl _ | apply Drawn0.step)⟩
              · replace c13 := Bool.eq_false_iff.mpr c13
                subst c13
                have H1 : (if t196 = 1 then (heraldref03_Div.j1 kj4 t196 t197 t198 t199 t200 t201 t202 t203 true false (t200 == 1)) else (heraldref03_Div.j1 kj4 t196 t197 t198 t199 t200 t201 t202 t203 true false false)) = some r := by rw [if_neg (show ¬ (false = true) by decide)] at H; exact H
                clear H
                have H := H1
                clear H1
                by_cases c14 : t196 = 1
                · rw [if_pos c14] at H
                  have c14b0 : (t196 == 1) = true := beq_iff_eq.mpr c14
                  have c14b1 : (t196 != 1) = false := bne_eq_false_iff_eq.mpr c14
                  clear c14
                  have H' := Aside0.mk H
                  clear H
                  go_wp2
                  go_meet
                  case rel => exact ⟨_, ((t200 == 1)), (by first | rfl | (simp; done) | (simp [*]; done) | (simp [i64_w]; done) | (simp [*, i64_w]; done)), H', ⟨by have := HJ4.out; first | omega | exact Nat.le_refl _⟩, by repeat (first | exact Drawn0.refl _ | apply Drawn0.step)⟩
                · rw [if_neg c14] at H
                  have c14b0 : (t196 == 1) = false := beq_eq_false_iff_ne.mpr c14
                  have c14b1 : (t196 != 1) = true := bne_iff_ne.mpr c14
                  have H' := Aside0.mk H
                  clear H
                  go_wp2
                  go_meet
                  case rel => exact ⟨_, (false), (by first | rfl | (simp; done) | (simp [*]; done) | (simp [i64_w]; done) | (simp [*, i64_w]; done)), H', ⟨by have := HJ4.out; first | omega | exact Nat.le_refl _⟩, by repeat (first | exact Drawn0.refl _ | apply Drawn0.step)⟩
            · replace c12 := Bool.eq_false_iff.mpr c12
              subst c12
              have H1 : (if t196 = 1 then (heraldref03_Div.j1 kj4 t196 t197 t198 t199 t200 t201 t202 t203 false x14_4 (t200 == 1)) else (heraldref03_Div.j1 kj4 t196 t197 t198 t199 t200 t201 t202 t203 false x14_4 false)) = some r := by rw [if_neg (show ¬ (false = true) by decide)] at H; exact H
              clear H
              have H := H1
              clear H1
              by_cases c15 : t196 = 1
              · rw [if_pos c15] at H
                have c15b0 : (t196 == 1) = true := beq_iff_eq.mpr c15
                have c15b1 : (t196 != 1) = false := bne_eq_false_iff_eq.mpr c15
                clear c15
                have H' := Aside0.mk H
                clear H
                go_wp2
                go_meet
                case rel => exact ⟨_, ((t200 == 1)), (by first | rfl | (simp; done) | (simp [*]; done) | (simp [i64_w]; done) | (simp [*, i64_w]; done)), H', ⟨by have := HJ4.out; first | omega | exact Nat.le_refl _⟩, by repeat (first | exact Drawn0.refl _ | apply Drawn0.step)⟩
              · rw [if_neg c15] at H
                have c15b0 : (t196 == 1) = false := beq_eq_false_iff_ne.mpr c15
                have c15b1 : (t196 != 1) = true := bne_iff_ne.mpr c15
                have H' := Aside0.mk H
                clear H
                go_wp2
                go_meet
                case rel => exact ⟨_, (false), (by first | rfl | (simp; done) | (simp [*]; done) | (simp [i64_w]; done) | (simp [*, i64_w]; done)), H', ⟨by have := HJ4.out; first | omega | exact Nat.le_refl _⟩, by repeat (first | exact Drawn0.refl _ | apply Drawn0.step)⟩
      case rest =>
        clear HC9
        try clear c1
        try clear c2
        try clear p2
        try clear c3
        try clear c4
        try clear c6
        try clear c6b0
        try clear c6b1
        try clear c7
        try clear c7b0
        try clear c7b1
        try clear c8
        try clear c8b0
        try clear c8b1
        try clear c10
        try clear c10b0
        try clear c10b1
        try clear c11
        try clear c11b0
        try clear c11b1
        try clear c12
        try clear c13
        try clear c14
        try clear c14b0
        try clear c14b1
        try clear c15
        try clear c15b0
        try clear c15b1
        try clear p2
        obtain ⟨kq, x62_8, rfl, HA, HJ8, ⟨mc8, rfl⟩⟩ := hcut
        cases kq with
        | zero => exact absurd HA.out (by simp [heraldref03_Div.j1])
        | succ kj8 =>
          have H := HA.out
          clear HA
          simp only [heraldref03_Div.j1] at H
          by_cases c16 : x62_8 = true
          · subst c16
            have H1 : (some 2143289344) = some r := by rw [if_pos rfl] at H; exact H
            clear H
            have H := H1
            clear H1
            obtain rfl := Option.some.inj H
            go_wp2
            go_ret
            exact ⟨by first | rfl | (simp; done) | (simp [*]; done), by repeat (first | exact Drawn0.refl _ | apply Drawn0.step)⟩
          · replace c16 := Bool.eq_false_iff.mpr c16
            subst c16
            have H1 : (if (t197 != t201) = true then (heraldref03_Div.j2 kj8 t196 t197 t198 t199 t200 t201 t202 t203 x13_4 x14_4 2147483648) else (heraldref03_Div.j2 kj8 t196 t197 t198 t199 t200 t201 t202 t203 x13_4 x14_4 0)) = some r := by rw [if_neg (show ¬ (false = true) by decide)] at H; exact H
            clear H
            have H := H1
            clear H1
            have HC17 := Aside0.mk H
            clear H
            go_upto_if 65 with (fail)
            go_cut [15] (fun v15 wc => ∃ (kq : Nat) (x15_16 : Int), v15 = .int .u32 x15_16 ∧ Aside0 (heraldref03_Div.j2 kq t196 t197 t198 t199 t200 t201 t202 t203 x13_4 x14_4 x15_16 = some r) ∧ Aside0 (kq ≤ kj8) ∧ Drawn0 w wc)
            case first =>
              have H := HC17.out
              clear HC17
              by_cases c18 : (t197 != t201) = true
              · rw [if_pos c18] at H
                have c18b0 : (t197 != t201) = true := c18
                (try (have c18b1 : decide (t197 = t201) = false := by simpa using c18))
                (try (have c18b2 : (t197 == t201) = false := by simpa using c18))
                (try (have c18b9 : (!(t197 == t201)) = true := by simpa using c18))
                (try (have c18b3 : ¬ (t197 = t201) := by simpa using c18))
                clear c18
                (first | rw [c18b0] | (simp only [i64_w, i32_w]; rw [c18b0]) | skip)
                have H' := Aside0.mk H
                clear H
                go_wp2
                all_goals (try (exfalso; rename_i hh; first | exact absurd (hh.symm.trans c18b9) (by decide) | exact absurd (c18b9.symm.trans hh) (by decide)))
                go_meet
                case rel => exact ⟨_, (2147483648), (by first | rfl | (simp; done) | (simp [*]; done) | (simp [i64_w]; done) | (simp [*, i64_w]; done)), H', ⟨by have := HJ4.out; have := HJ8.out; first | omega | exact Nat.le_refl _⟩, by repeat (first | exact Drawn0.refl _ | apply Drawn0.step)⟩
              · rw [if_neg c18] at H
                have c18b0 : (t197 != t201) = false := by simpa using c18
                (try (have c18b1 : decide (t197 = t201) = true := by simpa using c18))
                (try (have c18b2 : (t197 == t201) = true := by simpa using c18))
                (try (have c18b9 : (!(t197 == t201)) = false := by simpa using c18))
                clear c18
                (first | rw [c18b0] | (simp only [i64_w, i32_w]; rw [c18b0]) | skip)
                have H' := Aside0.mk H
                clear H
                go_wp2
                all_goals (try (exfalso; rename_i hh; first | exact absurd (hh.symm.trans c18b9) (by decide) | exact absurd (c18b9.symm.trans hh) (by decide)))
                go_meet
                case rel => exact ⟨_, (0), (by first | rfl | (simp; done) | (simp [*]; done) | (simp [i64_w]; done) | (simp [*, i64_w]; done)), H', ⟨by have := HJ4.out; have := HJ8.out; first | omega | exact Nat.le_refl _⟩, by repeat (first | exact Drawn0.refl _ | apply Drawn0.step)⟩
            case rest =>
              clear HC17
              try clear c1
              try clear c2
              try clear p2
              try clear c3
              try clear c4
              try clear c6
              try clear c6b0
              try clear c6b1
              try clear c7
              try clear c7b0
              try clear c7b1
              try clear c8
              try clear c8b0
              try clear c8b1
              try clear c10
              try clear c10b0
              try clear c10b1
              try clear c11
              try clear c11b0
              try clear c11b1
              try clear c12
              try clear c13
              try clear c14
              try clear c14b0
              try clear c14b1
              try clear c15
              try clear c15b0
              try clear c15b1
              try clear c16
              try clear c18
              try clear c18b0
              try clear c18b1
              try clear c18b2
              try clear p2
              obtain ⟨kq, x15_16, rfl, HA, HJ16, ⟨mc16, rfl⟩⟩ := hcut
              cases kq with
              | zero => exact absurd HA.out (by simp [heraldref03_Div.j2])
              | succ kj16 =>
                have H := HA.out
                clear HA
                simp only [heraldref03_Div.j2] at H
                have HC19 := Aside0.mk H
                clear H
                go_upto_region 9 with (fail)
                go_cut [70] (fun v70 wc => ∃ (kq : Nat) (x70_18 : Bool), v70 = .bool x70_18 ∧ Aside0 (heraldref03_Div.j3 kq t197 t198 t199 t200 t201 t202 t203 x13_4 x15_16 x70_18 = some r) ∧ Aside0 (kq ≤ kj16) ∧ Drawn0 w wc)
                case first =>
                  have H := HC19.out
                  clear HC19
                  by_cases c20 : t196 = 1
                  · rw [if_pos c20] at H
                    have c20b0 : (t196 == 1) = true := beq_iff_eq.mpr c20
                    have c20b1 : (t196 != 1) = false := bne_eq_false_iff_eq.mpr c20
                    clear c20
                    (first | rw [c20b0] | (simp only [i64_w, i32_w]; rw [c20b0]) | skip)
                    have H' := Aside0.mk H
                    clear H
                    go_wp2
                    go_meet
                    case rel => exact ⟨_, (true), (by first | rfl | (simp; done) | (simp [*]; done) | (simp [i64_w]; done) | (simp [*, i64_w]; done)), H', ⟨by have := HJ4.out; have := HJ8.out; have := HJ16.out; first | omega | exact Nat.le_refl _⟩, by repeat (first | exact Drawn0.refl _ | apply Drawn0.step)⟩
                  · rw [if_neg c20] at H
                    have c20b0 : (t196 == 1) = false := beq_eq_false_iff_ne.mpr c20
                    have c20b1 : (t196 != 1) = true := bne_iff_ne.mpr c20
                    (first | rw [c20b0] | (simp only [i64_w, i32_w]; rw [c20b0]) | skip)
                    have H' := Aside0.mk H
                    clear H
                    go_wp2
                    go_meet
                    case rel => exact ⟨_, (x14_4), (by first | rfl | (simp; done) | (simp [*]; done) | (simp [i64_w]; done) | (simp [*, i64_w]; done)), H', ⟨by have := HJ4.out; have := HJ8.out; have := HJ16.out; first | omega | exact Nat.le_refl _⟩, by repeat (first | exact Drawn0.refl _ | apply Drawn0.step)⟩
                case rest =>
                  clear HC19
                  try clear c1
                  try clear c2
                  try clear p2
                  try clear c3
                  try clear c4
                  try clear c6
                  try clear c6b0
                  try clear c6b1
                  try clear c7
                  try clear c7b0
                  try clear c7b1
                  try clear c8
                  try clear c8b0
                  try clear c8b1
                  try clear c10
                  try clear c10b0
                  try clear c10b1
                  try clear c11
                  try clear c11b0
                  try clear c11b1
                  try clear c12
                  try clear c13
                  try clear c14
                  try clear c14b0
                  try clear c14b1
                  try clear c15
                  try clear c15b0
                  try clear c15b1
                  try clear c16
                  try clear c18
                  try clear c18b0
                  try clear c18b1
                  try clear c18b2
                  try clear c20
                  try clear c20b0
                  try clear c20b1
                  try clear p2
                  obtain ⟨kq, x70_18, rfl, HA, HJ18, ⟨mc18, rfl⟩⟩ := hcut
                  cases kq with
                  | zero => exact absurd HA.out (by simp [heraldref03_Div.j3])
                  | succ kj18 =>
                    have H := HA.out
                    clear HA
                    simp only [heraldref03_Div.j3] at H
                    by_cases c21 : x70_18 = true
                    · subst c21
                      have H1 : (some ((x15_16 + 2139095040) % 4294967296)) = some r := by rw [if_pos rfl] at H; exact H
                      clear H
                      have H := H1
                      clear H1
                      obtain rfl := Option.some.inj H
                      go_wp2
                      go_ret
                      exact ⟨by first | rfl | (simp; done) | (simp [*]; done), by repeat (first | exact Drawn0.refl _ | apply Drawn0.step)⟩
                    · replace c21 := Bool.eq_false_iff.mpr c21
                      subst c21
                      have H1 : (if t200 = 1 then (heraldref03_Div.j4 kj18 t197 t198 t199 t201 t202 t203 x15_16 true) else (heraldref03_Div.j4 kj18 t197 t198 t199 t201 t202 t203 x15_16 x13_4)) = some r := by rw [if_neg (show ¬ (false = true) by decide)] at H; exact H
                      clear H
                      have H := H1
                      clear H1
                      have HC22 := Aside0.mk H
                      clear H
                      go_upto_region 11 with (fail)
                      go_cut [77] (fun v77 wc => ∃ (kq : Nat) (x77_21 : Bool), v77 = .bool x77_21 ∧ Aside0 (heraldref03_Div.j4 kq t197 t198 t199 t201 t202 t203 x15_16 x77_21 = some r) ∧ Aside0 (kq ≤ kj18) ∧ Drawn0 w wc)
                      case first =>
                        have H := HC22.out
                        clear HC22
                        by_cases c23 : t200 = 1
                        · rw [if_pos c23] at H
                          have c23b0 : (t200 == 1) = true := beq_iff_eq.mpr c23
                          have c23b1 : (t200 != 1) = false := bne_eq_false_iff_eq.mpr c23
                          clear c23
                          (first | rw [c23b0] | (simp only [i64_w, i32_w]; rw [c23b0]) | skip)
                          have H' := Aside0.mk H
                          clear H
                          go_wp2
                          go_meet
                          case rel => exact ⟨_, (true), (by first | rfl | (simp; done) | (simp [*]; done) | (simp [i64_w]; done) | (simp [*, i64_w]; done)), H', ⟨by have := HJ4.out; have := HJ8.out; have := HJ16.out; have := HJ18.out; first | omega | exact Nat.le_refl _⟩, by repeat (first | exact Drawn0.refl _ | apply Drawn0.step)⟩
                        · rw [if_neg c23] at H
                          have c23b0 : (t200 == 1) = false := beq_eq_false_iff_ne.mpr c23
                          have c23b1 : (t200 != 1) = true := bne_iff_ne.mpr c23
                          (first | rw [c23b0] | (simp only [i64_w, i32_w]; rw [c23b0]) | skip)
                          have H' := Aside0.mk H
                          clear H
                          go_wp2
                          go_meet
                          case rel => exact ⟨_, (x13_4), (by first | rfl | (simp; done) | (simp [*]; done) | (simp [i64_w]; done) | (simp [*, i64_w]; done)), H', ⟨by have := HJ4.out; have := HJ8.out; have := HJ16.out; have := HJ18.out; first | omega | exact Nat.le_refl _⟩, by repeat (first | exact Drawn0.refl _ | apply Drawn0.step)⟩
                      case rest =>
                        clear HC22
                        try clear c1
                        try clear c2
                        try clear p2
                        try clear c3
                        try clear c4
                        try clear c6
                        try clear c6b0
                        try clear c6b1
                        try clear c7
                        try clear c7b0
                        try clear c7b1
                        try clear c8
                        try clear c8b0
                        try clear c8b1
                        try clear c10
                        try clear c10b0
                        try clear c10b1
                        try clear c11
                        try clear c11b0
                        try clear c11b1
                        try clear c12
                        try clear c13
                        try clear c14
                        try clear c14b0
                        try clear c14b1
                        try clear c15
                        try clear c15b0
                        try clear c15b1
                        try clear c16
                        try clear c18
                        try clear c18b0
                        try clear c18b1
                        try clear c18b2
                        try clear c20
                        try clear c20b0
                        try clear c20b1
                        try clear c21
                        try clear c23
                        try clear c23b0
                        try clear c23b1
                        try clear p2
                        obtain ⟨kq, x77_21, rfl, HA, HJ21, ⟨mc21, rfl⟩⟩ := hcut
                        cases kq with
                        | zero => exact absurd HA.out (by simp [heraldref03_Div.j4])
                        | succ kj21 =>
                          have H := HA.out
                          clear HA
                          simp only [heraldref03_Div.j4] at H
                          by_cases c24 : x77_21 = true
                          · subst c24
                            have H1 : (some x15_16) = some r := by rw [if_pos rfl] at H; exact H
                            clear H
                            have H := H1
                            clear H1
                            obtain rfl := Option.some.inj H
                            go_wp2
                            go_ret
                            exact ⟨by first | rfl | (simp; done) | (simp [*]; done), by repeat (first | exact Drawn0.refl _ | apply Drawn0.step)⟩
                          · replace c24 := Bool.eq_false_iff.mpr c24
                            subst c24
                            have H1 : (heraldref03_Div.l0 kj21 t197 t198 t199 t201 t202 t203) = some r := by rw [if_neg (show ¬ (false = true) by decide)] at H; exact H
                            clear H
                            have H := H1
                            clear H1
                            have H' := Aside0.mk H
                            clear H
                            go_wp2
                            go_loopg [7, 8] kj21 (fun kq v7 v8 w' => ∃ (x7_6 : Int) (x8_6 : Int), v7 = .int .i64 x7_6 ∧ v8 = .int .i64 x8_6 ∧ Aside0 (heraldref03_Div.l0 kq t197 x7_6 x8_6 t201 t202 t203 = some r) ∧ Aside0 (kq ≤ kj21) ∧ Drawn0 w w')
                            case atStart => exact ⟨(t198), (t199), (by first | rfl | (simp; done) | (simp [*]; done) | (simp [i64_w]; done) | (simp [*, i64_w]; done)), (by first | rfl | (simp; done) | (simp [*]; done) | (simp [i64_w]; done) | (simp [*, i64_w]; done)), H', ⟨Nat.le_refl _⟩, by repeat (first | exact Drawn0.refl _ | apply Drawn0.step)⟩
                            case round =>
                              clear H'
                              try clear c1
                              try clear c2
                              try clear p2
                              try clear c3
                              try clear c4
                              try clear c6
                              try clear c6b0
                              try clear c6b1
                              try clear c7
                              try clear c7b0
                              try clear c7b1
                              try clear c8
                              try clear c8b0
                              try clear c8b1
                              try clear c10
                              try clear c10b0
                              try clear c10b1
                              try clear c11
                              try clear c11b0
                              try clear c11b1
                              try clear c12
                              try clear c13
                              try clear c14
                              try clear c14b0
                              try clear c14b1
                              try clear c15
                              try clear c15b0
                              try clear c15b1
                              try clear c16
                              try clear c18
                              try clear c18b0
                              try clear c18b1
                              try clear c18b2
                              try clear c20
                              try clear c20b0
                              try clear c20b1
                              try clear c21
                              try clear c23
                              try clear c23b0
                              try clear c23b1
                              try clear c24
                              try clear p2
                              obtain ⟨x7_6, x8_6, rfl, rfl, HA, HK6, ⟨m6, rfl⟩⟩ := hrel
                              cases gk with
                              | zero => exact absurd HA.out (by simp [heraldref03_Div.l0])
                              | succ k6 =>
                                have H := HA.out
                                clear HA
                                simp only [heraldref03_Div.l0] at H
                                by_cases c25 : x7_6 < 8388608
                                · rw [if_pos c25] at H
                                  have c25b0 : decide (x7_6 < 8388608) = true := decide_eq_true c25
                                  clear c25
                                  have H' := Aside0.mk H
                                  clear H
                                  go_wp2
                                  go_roundg k6
                                  case measure => have := HJ4.out; have := HJ8.out; have := HJ16.out; have := HJ18.out; have := HJ21.out; have := HK6.out; omega
                                  case rel => exact ⟨(wrap64 (x7_6 * 2)), (wrap64 (x8_6 - 1)), (by first | rfl | (simp; done) | (simp [*]; done) | (simp [i64_w]; done) | (simp [*, i64_w]; done)), (by first | rfl | (simp; done) | (simp [*]; done) | (simp [i64_w]; done) | (simp [*, i64_w]; done)), H', ⟨by have := HJ4.out; have := HJ8.out; have := HJ16.out; have := HJ18.out; have := HJ21.out; have := HK6.out; omega⟩, by repeat (first | exact Drawn0.refl _ | apply Drawn0.step)⟩
                                · rw [if_neg c25] at H
                                  have c25b0 : decide (x7_6 < 8388608) = false := decide_eq_false c25
                                  clear c25
                                  have H' := Aside0.mk H
                                  clear H
                                  go_wp2
                                  go_loopg [11, 12] k6 (fun kq v11 v12 w' => ∃ (x11_7 : Int) (x12_7 : Int), v11 = .int .i64 x11_7 ∧ v12 = .int .i64 x12_7 ∧ Aside0 (heraldref03_Div.l1 kq t197 x7_6 x8_6 t201 x11_7 x12_7 = some r) ∧ Aside0 (kq ≤ k6) ∧ Drawn0 w w')
                                  case atStart => exact ⟨(t202), (t203), (by first | rfl | (simp; done) | (simp [*]; done) | (simp [i64_w]; done) | (simp [*, i64_w]; done)), (by first | rfl | (simp; done) | (simp [*]; done) | (simp [i64_w]; done) | (simp [*, i64_w]; done)), H', ⟨Nat.le_refl _⟩, by repeat (first | exact Drawn0.refl _ | apply Drawn0.step)⟩
                                  case round =>
                                    clear H'
                                    try clear c1
                                    try clear c2
                                    try clear p2
                                    try clear c3
                                    try clear c4
                                    try clear c6
                                    try clear c6b0
                                    try clear c6b1
                                    try clear p6
                                    try clear c7
                                    try clear c7b0
                                    try clear c7b1
                                    try clear c8
                                    try clear c8b0
                                    try clear c8b1
                                    try clear c10
                                    try clear c10b0
                                    try clear c10b1
                                    try clear c11
                                    try clear c11b0
                                    try clear c11b1
                                    try clear c12
                                    try clear c13
                                    try clear c14
                                    try clear c14b0
                                    try clear c14b1
                                    try clear c15
                                    try clear c15b0
                                    try clear c15b1
                                    try clear c16
                                    try clear c18
                                    try clear c18b0
                                    try clear c18b1
                                    try clear c18b2
                                    try clear c20
                                    try clear c20b0
                                    try clear c20b1
                                    try clear c21
                                    try clear c23
                                    try clear c23b0
                                    try clear c23b1
                                    try clear c24
                                    try clear c25
                                    try clear c25b0
                                    try clear p2
                                    obtain ⟨x11_7, x12_7, rfl, rfl, HA, HK7, ⟨m7, rfl⟩⟩ := hrel
                                    cases gk with
                                    | zero => exact absurd HA.out (by simp [heraldref03_Div.l1])
                                    | succ k7 =>
                                      have H := HA.out
                                      clear HA
                                      simp only [heraldref03_Div.l1] at H
                                      by_cases c26 : x11_7 ≥ 2
                                      · rw [if_pos c26] at H
                                        have c26b0 : decide (2 ≤ x11_7) = true := decide_eq_true c26
                                        clear c26
                                        by_cases c27 : (Int.tmod x11_7 2) = 0
                                        · rw [if_pos c27] at H
                                          have c27b0 : ((Int.tmod x11_7 2) == 0) = true := beq_iff_eq.mpr c27
                                          have c27b1 : ((Int.tmod x11_7 2) != 0) = false := bne_eq_false_iff_eq.mpr c27
                                          clear c27
                                          have H' := Aside0.mk H
                                          clear H
                                          go_wp2
                                          go_roundg k7
                                          case measure => have := HJ4.out; have := HJ8.out; have := HJ16.out; have := HJ18.out; have := HJ21.out; have := HK6.out; have := HK7.out; omega
                                          case rel => exact ⟨(wrap64 (Int.tdiv x11_7 2)), (wrap64 (x12_7 + 1)), (by first | rfl | (simp; done) | (simp [*]; done) | (simp [i64_w]; done) | (simp [*, i64_w]; done)), (by first | rfl | (simp; done) | (simp [*]; done) | (simp [i64_w]; done) | (simp [*, i64_w]; done)), H', ⟨by have := HJ4.out; have := HJ8.out; have := HJ16.out; have := HJ18.out; have := HJ21.out; have := HK6.out; have := HK7.out; omega⟩, by repeat (first | exact Drawn0.refl _ | apply Drawn0.step)⟩
                                        · rw [if_neg c27] at H
                                          have c27b0 : ((Int.tmod x11_7 2) == 0) = false := beq_eq_false_iff_ne.mpr c27
                                          have c27b1 : ((Int.tmod x11_7 2) != 0) = true := bne_iff_ne.mpr c27
                                          by_cases c28 : (IntKind.u64.wrap (x11_7)) = 0
                                          · rw [if_pos c28] at H
                                            exact absurd H (by simp)
                                          · rw [if_neg c28] at H
                                            have c28b0 : ((IntKind.u64.wrap (x11_7)) == 0) = false := beq_eq_false_iff_ne.mpr c28
                                            have c28b1 : ((IntKind.u64.wrap (x11_7)) != 0) = true := bne_iff_ne.mpr c28
                                            by_cases c29 : (IntKind.u64.wrap ((IntKind.u64.wrap (Int.tdiv (IntKind.u64.wrap ((IntKind.u64.wrap (x7_6)) * 274877906944)) (IntKind.u64.wrap (x11_7)))) * (IntKind.u64.wrap (x11_7)))) = (IntKind.u64.wrap ((IntKind.u64.wrap (x7_6)) * 274877906944))
                                            · rw [if_pos c29] at H
                                              have c29b0 : ((IntKind.u64.wrap ((IntKind.u64.wrap (Int.tdiv (IntKind.u64.wrap ((IntKind.u64.wrap (x7_6)) * 274877906944)) (IntKind.u64.wrap (x11_7)))) * (IntKind.u64.wrap (x11_7)))) == (IntKind.u64.wrap ((IntKind.u64.wrap (x7_6)) * 274877906944))) = true := beq_iff_eq.mpr c29
                                              have c29b1 : ((IntKind.u64.wrap ((IntKind.u64.wrap (Int.tdiv (IntKind.u64.wrap ((IntKind.u64.wrap (x7_6)) * 274877906944)) (IntKind.u64.wrap (x11_7)))) * (IntKind.u64.wrap (x11_7)))) != (IntKind.u64.wrap ((IntKind.u64.wrap (x7_6)) * 274877906944))) = false := bne_eq_false_iff_eq.mpr c29
                                              clear c29
                                              replace H := Option.bind_eq_some_iff.mp H
                                              obtain ⟨t204, A300, H⟩ := H
                                              replace H : (some t204) = some r := H
                                              have A30 := Aside0.mk A300
                                              clear A300
                                              obtain rfl := Option.some.inj H
                                              go_wp2_with (first | ((with_reducible refine gate_callee (f := 29) rfl ?_); refine goesL_ (some 120) rfl rfl Try.func29 (by kernel_rfl) rfl #[.bool (t197 != t201), .int .u64 (IntKind.u64.wrap (Int.tdiv (IntKind.u64.wrap ((IntKind.u64.wrap (x7_6)) * 274877906944)) (IntKind.u64.wrap (x11_7)))), .int .i64 (wrap64 ((wrap64 (x8_6 - 38)) - x12_7))] rfl (by (try simp only [List.map_toArray, List.map_cons, List.map_nil]); first | done | rfl | (simp only [List.length_drop, List.length_take]; rfl)) ?_; (with_reducible refine (heraldref03_near.calls k7 (t197 != t201) (IntKind.u64.wrap (Int.tdiv (IntKind.u64.wrap ((IntKind.u64.wrap (x7_6)) * 274877906944)) (IntKind.u64.wrap (x11_7)))) (wrap64 ((wrap64 (x8_6 - 38)) - x12_7)) t204 _ A30.out).mono ?_); rintro e w' ⟨rfl, ⟨nd, rfl⟩⟩; refine ⟨_, rfl, ?_⟩))
                                              go_ret
                                              exact ⟨by first | rfl | (simp; done) | (simp [*]; done), by repeat (first | exact Drawn0.refl _ | apply Drawn0.step)⟩
                                            · rw [if_neg c29] at H
                                              have c29b0 : ((IntKind.u64.wrap ((IntKind.u64.wrap (Int.tdiv (IntKind.u64.wrap ((IntKind.u64.wrap (x7_6)) * 274877906944)) (IntKind.u64.wrap (x11_7)))) * (IntKind.u64.wrap (x11_7)))) == (IntKind.u64.wrap ((IntKind.u64.wrap (x7_6)) * 274877906944))) = false := beq_eq_false_iff_ne.mpr c29
                                              have c29b1 : ((IntKind.u64.wrap ((IntKind.u64.wrap (Int.tdiv (IntKind.u64.wrap ((IntKind.u64.wrap (x7_6)) * 274877906944)) (IntKind.u64.wrap (x11_7)))) * (IntKind.u64.wrap (x11_7)))) != (IntKind.u64.wrap ((IntKind.u64.wrap (x7_6)) * 274877906944))) = true := bne_iff_ne.mpr c29
                                              replace H := Option.bind_eq_some_iff.mp H
                                              obtain ⟨t205, A310, H⟩ := H
                                              replace H : (some t205) = some r := H
                                              have A31 := Aside0.mk A310
                                              clear A310
                                              obtain rfl := Option.some.inj H
                                              go_wp2_with (first | ((with_reducible refine gate_callee (f := 29) rfl ?_); refine goesL_ (some 120) rfl rfl Try.func29 (by kernel_rfl) rfl #[.bool (t197 != t201), .int .u64 (Go.bits .or .u64 (IntKind.u64.wrap (Int.tdiv (IntKind.u64.wrap ((IntKind.u64.wrap (x7_6)) * 274877906944)) (IntKind.u64.wrap (x11_7)))) 1), .int .i64 (wrap64 ((wrap64 (x8_6 - 38)) - x12_7))] rfl (by (try simp only [List.map_toArray, List.map_cons, List.map_nil]); first | done | rfl | (simp only [List.length_drop, List.length_take]; rfl)) ?_; (with_reducible refine (heraldref03_near.calls k7 (t197 != t201) (Go.bits .or .u64 (IntKind.u64.wrap (Int.tdiv (IntKind.u64.wrap ((IntKind.u64.wrap (x7_6)) * 274877906944)) (IntKind.u64.wrap (x11_7)))) 1) (wrap64 ((wrap64 (x8_6 - 38)) - x12_7)) t205 _ A31.out).mono ?_); rintro e w' ⟨rfl, ⟨nd, rfl⟩⟩; refine ⟨_, rfl, ?_⟩))
                                              go_ret
                                              exact ⟨by first | rfl | (simp; done) | (simp [*]; done), by repeat (first | exact Drawn0.refl _ | apply Drawn0.step)⟩
                                      · rw [if_neg c26] at H
                                        have c26b0 : decide (2 ≤ x11_7) = false := decide_eq_false c26
                                        clear c26
                                        by_cases c32 : (IntKind.u64.wrap (x11_7)) = 0
                                        · rw [if_pos c32] at H
                                          exact absurd H (by simp)
                                        · rw [if_neg c32] at H
                                          have c32b0 : ((IntKind.u64.wrap (x11_7)) == 0) = false := beq_eq_false_iff_ne.mpr c32
                                          have c32b1 : ((IntKind.u64.wrap (x11_7)) != 0) = true := bne_iff_ne.mpr c32
                                          by_cases c33 : (IntKind.u64.wrap ((IntKind.u64.wrap (Int.tdiv (IntKind.u64.wrap ((IntKind.u64.wrap (x7_6)) * 274877906944)) (IntKind.u64.wrap (x11_7)))) * (IntKind.u64.wrap (x11_7)))) = (IntKind.u64.wrap ((IntKind.u64.wrap (x7_6)) * 274877906944))
                                          · rw [if_pos c33] at H
                                            have c33b0 : ((IntKind.u64.wrap ((IntKind.u64.wrap (Int.tdiv (IntKind.u64.wrap ((IntKind.u64.wrap (x7_6)) * 274877906944)) (IntKind.u64.wrap (x11_7)))) * (IntKind.u64.wrap (x11_7)))) == (IntKind.u64.wrap ((IntKind.u64.wrap (x7_6)) * 274877906944))) = true := beq_iff_eq.mpr c33
                                            have c33b1 : ((IntKind.u64.wrap ((IntKind.u64.wrap (Int.tdiv (IntKind.u64.wrap ((IntKind.u64.wrap (x7_6)) * 274877906944)) (IntKind.u64.wrap (x11_7)))) * (IntKind.u64.wrap (x11_7)))) != (IntKind.u64.wrap ((IntKind.u64.wrap (x7_6)) * 274877906944))) = false := bne_eq_false_iff_eq.mpr c33
                                            clear c33
                                            replace H := Option.bind_eq_some_iff.mp H
                                            obtain ⟨t206, A340, H⟩ := H
                                            replace H : (some t206) = some r := H
                                            have A34 := Aside0.mk A340
                                            clear A340
                                            obtain rfl := Option.some.inj H
                                            go_wp2_with (first | ((with_reducible refine gate_callee (f := 29) rfl ?_); refine goesL_ (some 120) rfl rfl Try.func29 (by kernel_rfl) rfl #[.bool (t197 != t201), .int .u64 (IntKind.u64.wrap (Int.tdiv (IntKind.u64.wrap ((IntKind.u64.wrap (x7_6)) * 274877906944)) (IntKind.u64.wrap (x11_7)))), .int .i64 (wrap64 ((wrap64 (x8_6 - 38)) - x12_7))] rfl (by (try simp only [List.map_toArray, List.map_cons, List.map_nil]); first | done | rfl | (simp only [List.length_drop, List.length_take]; rfl)) ?_; (with_reducible refine (heraldref03_near.calls k7 (t197 != t201) (IntKind.u64.wrap (Int.tdiv (IntKind.u64.wrap ((IntKind.u64.wrap (x7_6)) * 274877906944)) (IntKind.u64.wrap (x11_7)))) (wrap64 ((wrap64 (x8_6 - 38)) - x12_7)) t206 _ A34.out).mono ?_); rintro e w' ⟨rfl, ⟨nd, rfl⟩⟩; refine ⟨_, rfl, ?_⟩))
                                            go_ret
                                            exact ⟨by first | rfl | (simp; done) | (simp [*]; done), by repeat (first | exact Drawn0.refl _ | apply Drawn0.step)⟩
                                          · rw [if_neg c33] at H
                                            have c33b0 : ((IntKind.u64.wrap ((IntKind.u64.wrap (Int.tdiv (IntKind.u64.wrap ((IntKind.u64.wrap (x7_6)) * 274877906944)) (IntKind.u64.wrap (x11_7)))) * (IntKind.u64.wrap (x11_7)))) == (IntKind.u64.wrap ((IntKind.u64.wrap (x7_6)) * 274877906944))) = false := beq_eq_false_iff_ne.mpr c33
                                            have c33b1 : ((IntKind.u64.wrap ((IntKind.u64.wrap (Int.tdiv (IntKind.u64.wrap ((IntKind.u64.wrap (x7_6)) * 274877906944)) (IntKind.u64.wrap (x11_7)))) * (IntKind.u64.wrap (x11_7)))) != (IntKind.u64.wrap ((IntKind.u64.wrap (x7_6)) * 274877906944))) = true := bne_iff_ne.mpr c33
                                            replace H := Option.bind_eq_some_iff.mp H
                                            obtain ⟨t207, A350, H⟩ := H
                                            replace H : (some t207) = some r := H
                                            have A35 := Aside0.mk A350
                                            clear A350
                                            obtain rfl := Option.some.inj H
                                            go_wp2_with (first | ((with_reducible refine gate_callee (f := 29) rfl ?_); refine goesL_ (some 120) rfl rfl Try.func29 (by kernel_rfl) rfl #[.bool (t197 != t201), .int .u64 (Go.bits .or .u64 (IntKind.u64.wrap (Int.tdiv (IntKind.u64.wrap ((IntKind.u64.wrap (x7_6)) * 274877906944)) (IntKind.u64.wrap (x11_7)))) 1), .int .i64 (wrap64 ((wrap64 (x8_6 - 38)) - x12_7))] rfl (by (try simp only [List.map_toArray, List.map_cons, List.map_nil]); first | done | rfl | (simp only [List.length_drop, List.length_take]; rfl)) ?_; (with_reducible refine (heraldref03_near.calls k7 (t197 != t201) (Go.bits .or .u64 (IntKind.u64.wrap (Int.tdiv (IntKind.u64.wrap ((IntKind.u64.wrap (x7_6)) * 274877906944)) (IntKind.u64.wrap (x11_7)))) 1) (wrap64 ((wrap64 (x8_6 - 38)) - x12_7)) t207 _ A35.out).mono ?_); rintro e w' ⟨rfl, ⟨nd, rfl⟩⟩; refine ⟨_, rfl, ?_⟩))
                                            go_ret
                                            exact ⟨by first | rfl | (simp; done) | (simp [*]; done), by repeat (first | exact Drawn0.refl _ | apply Drawn0.step)⟩
end Go.Proofs.Yteecekhfpfnepaa.PAll
end

section
namespace Go.Proofs.Yteecekhfpfnepaa.PAll
open Go.RowKit Go.Proofs.YteecekhfpfnepaaW.PrintWords Go.Proofs.YteecekhfpfnepaaW.PrintLast Go.Proofs.YteecekhfpfnepaaW.PrintMore
attribute [local go_sem] max2_int min2_int max_two min_two max_three min_three max_four min_four   -- for this text's walks alone
set_option linter.unusedVariables false
set_option linter.unusedSimpArgs false
def heraldref03_root.l0 : Nat → Int → Int → Int → Option (Int)
  | 0, _, _, _ => none
  | k + 1, x0, x3, x4 => if x4 > 0 then (if (IntKind.u64.wrap ((IntKind.u64.wrap (x3 + x4)) * (IntKind.u64.wrap (x3 + x4)))) ≤ x0 then (heraldref03_root.l0 k x0 (IntKind.u64.wrap (x3 + x4)) (IntKind.u64.wrap (Int.tdiv x4 2))) else (heraldref03_root.l0 k x0 x3 (IntKind.u64.wrap (Int.tdiv x4 2)))) else (some x3)
def heraldref03_root.f (k : Nat) (a0 : Int) : Option (Int) := heraldref03_root.l0 k a0 0 2147483648
set_option maxHeartbeats 8000000 in
set_option maxRecDepth 100000 in
theorem heraldref03_root.calls (k : Nat) (a0 : Int) (r : Int) (w : World) (h : heraldref03_root.f k a0 = some r) :
    Calls Try.prog 36 #[.int .u64 a0] w fun e w' => e = .returned (.int .u64 r) ∧ Drawn0 w w' := by
  have H : (heraldref03_root.l0 k a0 0 2147483648) = some r := h
  clear h
  have H' := Aside0.mk H
  clear H
  go_enter Try.func36, Try.ntmps36
  go_wp2
  go_loopg [3, 4] k (fun kq v3 v4 w' => ∃ (x3_1 : Int) (x4_1 : Int), v3 = .int .u64 x3_1 ∧ v4 = .int .u64 x4_1 ∧ Aside0 (heraldref03_root.l0 kq a0 x3_1 x4_1 = some r) ∧ Aside0 (kq ≤ k) ∧ Drawn0 w w')
  case atStart => exact ⟨(0), (2147483648), (by first | rfl | (simp; done) | (simp [*]; done) | (simp [i64_w]; done) | (simp [*, i64_w]; done)), (by first | rfl | (simp; done) | (simp [*]; done) | (simp [i64_w]; done) | (simp [*, i64_w]; done)), H', ⟨Nat.le_refl _⟩, by repeat (first | exact Drawn0.refl _ | apply Drawn0.step)⟩
  case round =>
    clear H'
    obtain ⟨x3_1, x4_1, rfl, rfl, HA, HK1, ⟨m1, rfl⟩⟩ := hrel
    cases gk with
    | zero => exact absurd HA.out (by simp [heraldref03_root.l0])
    | succ k1 =>
      have H := HA.out
      clear HA
      simp only [heraldref03_root.l0] at H
      by_cases c2 : x4_1 > 0
      · rw [if_pos c2] at H
        have c2b0 : decide (0 < x4_1) = true := decide_eq_true c2
        clear c2
        by_cases c3 : (IntKind.u64.wrap ((IntKind.u64.wrap (x3_1 + x4_1)) * (IntKind.u64.wrap (x3_1 + x4_1)))) ≤ a0
        · rw [if_pos c3] at H
          have c3b0 : decide ((IntKind.u64.wrap ((IntKind.u64.wrap (x3_1 + x4_1)) * (IntKind.u64.wrap (x3_1 + x4_1)))) ≤ a0) = true := decide_eq_true c3
          clear c3
          have H' := Aside0.mk H
          clear H
          go_wp2
          go_roundg k1
          case measure => have := HK1.out; omega
          case rel => exact ⟨(IntKind.u64.wrap (x3_1 + x4_1)), (IntKind.u64.wrap (Int.tdiv x4_1 2)), (by first | rfl | (simp; done) | (simp [*]; done) | (simp [i64_w]; done) | (simp [*, i64_w]; done)), (by first | rfl | (simp; done) | (simp [*]; done) | (simp [i64_w]; done) | (simp [*, i64_w]; done)), H', ⟨by have := HK1.out; omega⟩, by repeat (first | exact Drawn0.refl _ | apply Drawn0.step)⟩
        · rw [if_neg c3] at H
          have c3b0 : decide ((IntKind.u64.wrap ((IntKind.u64.wrap (x3_1 + x4_1)) * (IntKind.u64.wrap (x3_1 + x4_1)))) ≤ a0) = false := decide_eq_false c3
          clear c3
          have H' := Aside0.mk H
          clear H
          go_wp2
          go_roundg k1
          case measure => have := HK1.out; omega
          case rel => exact ⟨(x3_1), (IntKind.u64.wrap (Int.tdiv x4_1 2)), (by first | rfl | (simp; done) | (simp [*]; done) | (simp [i64_w]; done) | (simp [*, i64_w]; done)), (by first | rfl | (simp; done) | (simp [*]; done) | (simp [i64_w]; done) | (simp [*, i64_w]; done)), H', ⟨by have := HK1.out; omega⟩, by repeat (first | exact Drawn0.refl _ | apply Drawn0.step)⟩
      · rw [if_neg c2] at H
        have c2b0 : decide (0 < x4_1) = false := decide_eq_false c2
        clear c2
        obtain rfl := Option.some.inj H
        go_wp2
        go_ret
        exact ⟨by first | rfl | (simp; done) | (simp [*]; done), by repeat (first | exact Drawn0.refl _ | apply Drawn0.step)⟩
end Go.Proofs.Yteecekhfpfnepaa.PAll
end

section
namespace Go.Proofs.Yteecekhfpfnepaa.PAll
open Go.RowKit Go.Proofs.YteecekhfpfnepaaW.PrintWords Go.Proofs.YteecekhfpfnepaaW.PrintLast Go.Proofs.YteecekhfpfnepaaW.PrintMore
attribute [local go_sem] max2_int min2_int max_two min_two max_three min_three max_four min_four   -- for this text's walks alone
set_option linter.unusedVariables false
set_option linter.unusedSimpArgs false
mutual
def heraldref03_Sqrt.j0 : Nat → Int → Int → Bool → Int → Int → Bool → Option (Int)
  | 0, _, _, _, _, _, _ => none
  | k + 1, x0, x3, x4, x5, x6, x21 => if x21 = true then (some x0) else (if x3 = 2 then (heraldref03_Sqrt.j1 k x0 x3 x5 x6 true) else (heraldref03_Sqrt.j1 k x0 x3 x5 x6 x4))
def heraldref03_Sqrt.j1 : Nat → Int → Int → Int → Int → Bool → Option (Int)
  | 0, _, _, _, _, _ => none
  | k + 1, x0, x3, x5, x6, x27 => if x27 = true then (some 2143289344) else (if x3 = 1 then (some x0) else (heraldref03_Sqrt.l0 k x5 x6))
def heraldref03_Sqrt.l0 : Nat → Int → Int → Option (Int)
  | 0, _, _ => none
  | k + 1, x5, x6 => if x5 < 1152921504606846976 then (heraldref03_Sqrt.l0 k (wrap64 (x5 * 2)) (wrap64 (x6 - 1))) else (if (Int.tmod x6 2) = 0 then (heraldref03_Sqrt.j3 k x5 x6) else (heraldref03_Sqrt.j3 k (wrap64 (x5 * 2)) (wrap64 (x6 - 1))))
def heraldref03_Sqrt.j3 : Nat → Int → Int → Option (Int)
  | 0, _, _ => none
  | k + 1, x5, x6 => (heraldref03_root.f k (IntKind.u64.wrap (x5))).bind fun t212 => (if (IntKind.u64.wrap (t212 * t212)) = (IntKind.u64.wrap (x5)) then ((heraldref03_near.f k false (IntKind.u64.wrap (2 * t212)) (wrap64 ((wrap64 (Int.tdiv x6 2)) - 1))).bind fun t213 => (some t213)) else ((heraldref03_near.f k false (IntKind.u64.wrap ((IntKind.u64.wrap (2 * t212)) + 1)) (wrap64 ((wrap64 (Int.tdiv x6 2)) - 1))).bind fun t214 => (some t214)))
end
def heraldref03_Sqrt.f (k : Nat) (a0 : Int) : Option (Int) := (heraldref03_raw.f a0).bind fun bt208 => (if bt208.1 = 0 then (heraldref03_Sqrt.j0 k a0 bt208.1 bt208.2.1 bt208.2.2.1 bt208.2.2.2 (bt208.2.2.1 == 0)) else (heraldref03_Sqrt.j0 k a0 bt208.1 bt208.2.1 bt208.2.2.1 bt208.2.2.2 false))
set_option maxHeartbeats 8000000 in
set_option maxRecDepth 100000 in
theorem heraldref03_Sqrt.calls (k : Nat) (a0 : Int) (r : Int) (w : World) (h : heraldref03_Sqrt.f k a0 = some r) :
    Calls Try.prog 26 #[.int .u32 a0] w fun e w' => e = .returned (.int .u32 r) ∧ Drawn0 w w' := by
  have H : ((heraldref03_raw.f a0).bind fun bt208 => (if bt208.1 = 0 then (heraldref03_Sqrt.j0 k a0 bt208.1 bt208.2.1 bt208.2.2.1 bt208.2.2.2 (bt208.2.2.1 == 0)) else (heraldref03_Sqrt.j0 k a0 bt208.1 bt208.2.1 bt208.2.2.1 bt208.2.2.2 false))) = some r := h
  clear h
  replace H := Option.bind_eq_some_iff.mp H
  obtain ⟨⟨t208, t209, t210, t211⟩, A20, H⟩ := H
  replace H : (if t208 = 0 then (heraldref03_Sqrt.j0 k a0 t208 t209 t210 t211 (t210 == 0)) else (heraldref03_Sqrt.j0 k a0 t208 t209 t210 t211 false)) = some r := H
  have A2 := Aside0.mk A20
  clear A20
  have HC3 := Aside0.mk H
  clear H
  go_enter Try.func26, Try.ntmps26
  go_upto_region 2 with (first | ((with_reducible refine gate_callee (f := 32) rfl ?_); refine goesL_ (some 11) rfl rfl Try.func32 (by kernel_rfl) rfl #[.int .u32 a0] rfl (by (try simp only [List.map_toArray, List.map_cons, List.map_nil]); first | done | rfl | (simp only [List.length_drop, List.length_take]; rfl)) ?_; (with_reducible refine (heraldref03_raw.calls a0 t208 t209 t210 t211 _ A2.out).mono ?_); rintro e w' ⟨rfl, ⟨nd, rfl⟩⟩; refine ⟨_, rfl, ?_⟩))
  (try simp only [Act.put, List.setIfInBounds_toArray, List.set_cons_zero, List.set_cons_succ])
  go_cut [21] (fun v21 wc => ∃ (kq : Nat) (x21_2 : Bool), v21 = .bool x21_2 ∧ Aside0 (heraldref03_Sqrt.j0 kq a0 t208 t209 t210 t211 x21_2 = some r) ∧ Aside0 (kq ≤ k) ∧ Drawn0 w wc)
  case first =>
    have H := HC3.out
    clear HC3
    by_cases c4 : t208 = 0
    · rw [if_pos c4] at H
      have c4b0 : (t208 == 0) = true := beq_iff_eq.mpr c4
      have c4b1 : (t208 != 0) = false := bne_eq_false_iff_eq.mpr c4
      clear c4
      (first | rw [c4b0] | (simp only [i64_w, i32_w]; rw [c4b0]) | skip)
      have H' := Aside0.mk H
      clear H
      go_wp2
      go_meet
      case rel => exact ⟨_, ((t210 == 0)), (by first | rfl | (simp; done) | (simp [*]; done) | (simp [i64_w]; done) | (simp [*, i64_w]; done)), H', ⟨by first | omega | exact Nat.le_refl _⟩, by repeat (first | exact Drawn0.refl _ | apply Drawn0.step)⟩
    · rw [if_neg c4] at H
      have c4b0 : (t208 == 0) = false := beq_eq_false_iff_ne.mpr c4
      have c4b1 : (t208 != 0) = true := bne_iff_ne.mpr c4
      (first | rw [c4b0] | (simp only [i64_w, i32_w]; rw [c4b0]) | skip)
      have H' := Aside0.mk H
      clear H
      go_wp2
      go_meet
      case rel => exact ⟨_, (false), (by first | rfl | (simp; done) | (simp [*]; done) | (simp [i64_w]; done) | (simp [*, i64_w]; done)), H', ⟨by first | omega | exact Nat.le_refl _⟩, by repeat (first | exact Drawn0.refl _ | apply Drawn0.step)⟩
  case rest =>
    clear HC3
    try clear c2
    try clear p2
    try clear c3
    try clear c4
    try clear c4b0
    try clear c4b1
    obtain ⟨kq, x21_2, rfl, HA, HJ2, ⟨mc2, rfl⟩⟩ := hcut
    cases kq with
    | zero => exact absurd HA.out (by simp [heraldref03_Sqrt.j0])
    | succ kj2 =>
      have H := HA.out
      clear HA
      simp only [heraldref03_Sqrt.j0] at H
      by_cases c5 : x21_2 = true
      · subst c5
        have H1 : (some a0) = some r := by rw [if_pos rfl] at H; exact H
        clear H
        have H := H1
        clear H1
        obtain rfl := Option.some.inj H
        go_wp2
        go_ret
        exact ⟨by first | rfl | (simp; done) | (simp [*]; done), by repeat (first | exact Drawn0.refl _ | apply Drawn0.step)⟩
      · replace c5 := Bool.eq_false_iff.mpr c5
        subst c5
        have H1 : (if t208 = 2 then (heraldref03_Sqrt.j1 kj2 a0 t208 t210 t211 true) else (heraldref03_Sqrt.j1 kj2 a0 t208 t210 t211 t209)) = some r := by rw [if_neg (show ¬ (false = true) by decide)] at H; exact H
        clear H
        have H := H1
        clear H1
        have HC6 := Aside0.mk H
        clear H
        go_upto_region 4 with (fail)
        go_cut [27] (fun v27 wc => ∃ (kq : Nat) (x27_5 : Bool), v27 = .bool x27_5 ∧ Aside0 (heraldref03_Sqrt.j1 kq a0 t208 t210 t211 x27_5 = some r) ∧ Aside0 (kq ≤ kj2) ∧ Drawn0 w wc)
        case first =>
          have H := HC6.out
          clear HC6
          by_cases c7 : t208 = 2
          · rw [if_pos c7] at H
            have c7b0 : (t208 == 2) = true := beq_iff_eq.mpr c7
            have c7b1 : (t208 != 2) = false := bne_eq_false_iff_eq.mpr c7
            clear c7
            (first | rw [c7b0] | (simp only [i64_w, i32_w]; rw [c7b0]) | skip)
            have H' := Aside0.mk H
            clear H
            go_wp2
            go_meet
            case rel => exact ⟨_, (true), (by first | rfl | (simp; done) | (simp [*]; done) | (simp [i64_w]; done) | (simp [*, i64_w]; done)), H', ⟨by have := HJ2.out; first | omega | exact Nat.le_refl _⟩, by repeat (first | exact Drawn0.refl _ | apply Drawn0.step)⟩
          · rw [if_neg c7] at H
            have c7b0 : (t208 == 2) = false := beq_eq_false_iff_ne.mpr c7
            have c7b1 : (t208 != 2) = true := bne_iff_ne.mpr c7
            (first | rw [c7b0] | (simp only [i64_w, i32_w]; rw [c7b0]) | skip)
            have H' := Aside0.mk H
            clear H
            go_wp2
            go_meet
            case rel => exact ⟨_, (t209), (by first | rfl | (simp; done) | (simp [*]; done) | (simp [i64_w]; done) | (simp [*, i64_w]; done)), H', ⟨by have := HJ2.out; first | omega | exact Nat.le_refl _⟩, by repeat (first | exact Drawn0.refl _ | apply Drawn0.step)⟩
        case rest =>
          clear HC6
          try clear c2
          try clear p2
          try clear c3
          try clear c4
          try clear c4b0
          try clear c4b1
          try clear c5
          try clear c7
          try clear c7b0
          try clear c7b1
          try clear p2
          obtain ⟨kq, x27_5, rfl, HA, HJ5, ⟨mc5, rfl⟩⟩ := hcut
          cases kq with
          | zero => exact absurd HA.out (by simp [heraldref03_Sqrt.j1])
          | succ kj5 =>
            have H := HA.out
            clear HA
            simp only [heraldref03_Sqrt.j1] at H
            by_cases c8 : x27_5 = true
            · subst c8
              have H1 : (some 2143289344) = some r := by rw [if_pos rfl] at H; exact H
              clear H
              have H := H1
              clear H1
              obtain rfl := Option.some.inj H
              go_wp2
              go_ret
              exact ⟨by first | rfl | (simp; done) | (simp [*]; done), by repeat (first | exact Drawn0.refl _ | apply Drawn0.step)⟩
            · replace c8 := Bool.eq_false_iff.mpr c8
              subst c8
              have H1 : (if t208 = 1 then (some a0) else (heraldref03_Sqrt.l0 kj5 t210 t211)) = some r := by rw [if_neg (show ¬ (false = true) by decide)] at H; exact H
              clear H
              have H := H1
              clear H1
              by_cases c9 : t208 = 1
              · rw [if_pos c9] at H
                have c9b0 : (t208 == 1) = true := beq_iff_eq.mpr c9
                have c9b1 : (t208 != 1) = false := bne_eq_false_iff_eq.mpr c9
                clear c9
                obtain rfl := Option.some.inj H
                go_wp2
                go_ret
                exact ⟨by first | rfl | (simp; done) | (simp [*]; done), by repeat (first | exact Drawn0.refl _ | apply Drawn0.step)⟩
              · rw [if_neg c9] at H
                have c9b0 : (t208 == 1) = false := beq_eq_false_iff_ne.mpr c9
                have c9b1 : (t208 != 1) = true := bne_iff_ne.mpr c9
                have H' := Aside0.mk H
                clear H
                go_wp2
                go_loopg [5, 6] kj5 (fun kq v5 v6 w' => ∃ (x5_3 : Int) (x6_3 : Int), v5 = .int .i64 x5_3 ∧ v6 = .int .i64 x6_3 ∧ Aside0 (heraldref03_Sqrt.l0 kq x5_3 x6_3 = some r) ∧ Aside0 (kq ≤ kj5) ∧ Drawn0 w w')
                case atStart => exact ⟨(t210), (t211), (by first | rfl | (simp; done) | (simp [*]; done) | (simp [i64_w]; done) | (simp [*, i64_w]; done)), (by first | rfl | (simp; done) | (simp [*]; done) | (simp [i64_w]; done) | (simp [*, i64_w]; done)), H', ⟨Nat.le_refl _⟩, by repeat (first | exact Drawn0.refl _ | apply Drawn0.step)⟩
                case round =>
                  clear H'
                  try clear c2
                  try clear p2
                  try clear c3
                  try clear c4
                  try clear c4b0
                  try clear c4b1
                  try clear c5
                  try clear c7
                  try clear c7b0
                  try clear c7b1
                  try clear c8
                  try clear c9
                  try clear c9b0
                  try clear c9b1
                  try clear p2
                  obtain ⟨x5_3, x6_3, rfl, rfl, HA, HK3, ⟨m3, rfl⟩⟩ := hrel
                  cases gk with
                  | zero => exact absurd HA.out (by simp [heraldref03_Sqrt.l0])
                  | succ k3 =>
                    have H := HA.out
                    clear HA
                    simp only [heraldref03_Sqrt.l0] at H
                    by_cases c10 : x5_3 < 1152921504606846976
                    · rw [if_pos c10] at H
                      have c10b0 : decide (x5_3 < 1152921504606846976) = true := decide_eq_true c10
                      clear c10
                      have H' := Aside0.mk H
                      clear H
                      go_wp2
                      go_roundg k3
                      case measure => have := HJ2.out; have := HJ5.out; have := HK3.out; omega
                      case rel => exact ⟨(wrap64 (x5_3 * 2)), (wrap64 (x6_3 - 1)), (by first | rfl | (simp; done) | (simp [*]; done) | (simp [i64_w]; done) | (simp [*, i64_w]; done)), (by first | rfl | (simp; done) | (simp [*]; done) | (simp [i64_w]; done) | (simp [*, i64_w]; done)), H', ⟨by have := HJ2.out; have := HJ5.out; have := HK3.out; omega⟩, by repeat (first | exact Drawn0.refl _ | apply Drawn0.step)⟩
                    · rw [if_neg c10] at H
                      have c10b0 : decide (x5_3 < 1152921504606846976) = false := decide_eq_false c10
                      clear c10
                      have HC11 := Aside0.mk H
                      clear H
                      go_upto_if 39 with (fail)
                      go_cut [5, 6] (fun v5 v6 wc => ∃ (kq : Nat) (x5_10 : Int) (x6_10 : Int), v5 = .int .i64 x5_10 ∧ v6 = .int .i64 x6_10 ∧ Aside0 (heraldref03_Sqrt.j3 kq x5_10 x6_10 = some r) ∧ Aside0 (kq ≤ k3) ∧ Drawn0 w wc)
                      case first =>
                        have H := HC11.out
                        clear HC11
                        by_cases c12 : (Int.tmod x6_3 2) = 0
                        · rw [if_pos c12] at H
                          have c12b0 : ((Int.tmod x6_3 2) == 0) = true := beq_iff_eq.mpr c12
                          have c12b1 : ((Int.tmod x6_3 2) != 0) = false := bne_eq_false_iff_eq.mpr c12
                          clear c12
                          (first | rw [c12b0] | (simp only [i64_w, i32_w]; rw [c12b0]) | skip)
                          have H' := Aside0.mk H
                          clear H
                          go_wp2
                          go_meet
                          case rel => exact ⟨_, (x5_3), (x6_3), (by first | rfl | (simp; done) | (simp [*]; done) | (simp [i64_w]; done) | (simp [*, i64_w]; done)), (by first | rfl | (simp; done) | (simp [*]; done) | (simp [i64_w]; done) | (simp [*, i64_w]; done)), H', ⟨by have := HJ2.out; have := HJ5.out; have := HK3.out; first | omega | exact Nat.le_refl _⟩, by repeat (first | exact Drawn0.refl _ | apply Drawn0.step)⟩
                        · rw [if_neg c12] at H
                          have c12b0 : ((Int.tmod x6_3 2) == 0) = false := beq_eq_false_iff_ne.mpr c12
                          have c12b1 : ((Int.tmod x6_3 2) != 0) = true := bne_iff_ne.mpr c12
                          (first | rw [c12b0] | (simp only [i64_w, i32_w]; rw [c12b0]) | skip)
                          have H' := Aside0.mk H
                          clear H
                          go_wp2
                          go_meet
                          case rel => exact ⟨_, (wrap64 (x5_3 * 2)), (wrap64 (x6_3 - 1)), (by first | rfl | (simp; done) | (simp [*]; done) | (simp [i64_w]; done) | (simp [*, i64_w]; done)), (by first | rfl | (simp; done) | (simp [*]; done) | (simp [i64_w]; done) | (simp [*, i64_w]; done)), H', ⟨by have := HJ2.out; have := HJ5.out; have := HK3.out; first | omega | exact Nat.le_refl _⟩, by repeat (first | exact Drawn0.refl _ | apply Drawn0.step)⟩
                      case rest =>
                        clear HC11
                        try clear c1
                        try clear c2
                        try clear p2
                        try clear c3
                        try clear c4
                        try clear c4b0
                        try clear c4b1
                        try clear c5
                        try clear p6
                        try clear c7
                        try clear c7b0
                        try clear c7b1
                        try clear c8
                        try clear c9
                        try clear c9b0
                        try clear c9b1
                        try clear c10
                        try clear c10b0
                        try clear c12
                        try clear c12b0
                        try clear c12b1
                        try clear p2
                        obtain ⟨kq, x5_10, x6_10, rfl, rfl, HA, HJ10, ⟨mc10, rfl⟩⟩ := hcut
                        cases kq with
                        | zero => exact absurd HA.out (by simp [heraldref03_Sqrt.j3])
                        | succ kj10 =>
                          have H := HA.out
                          clear HA
                          simp only [heraldref03_Sqrt.j3] at H
                          replace H := Option.bind_eq_some_iff.mp H
                          obtain ⟨t212, A130, H⟩ := H
                          replace H : (if (IntKind.u64.wrap (t212 * t212)) = (IntKind.u64.wrap (x5_10)) then ((heraldref03_near.f kj10 false (IntKind.u64.wrap (2 * t212)) (wrap64 ((wrap64 (Int.tdiv x6_10 2)) - 1))).bind fun t213 => (some t213)) else ((heraldref03_near.f kj10 false (IntKind.u64.wrap ((IntKind.u64.wrap (2 * t212)) + 1)) (wrap64 ((wrap64 (Int.tdiv x6_10 2)) - 1))).bind fun t214 => (some t214))) = some r := H
                          have A13 := Aside0.mk A130
                          clear A130
                          by_cases c14 : (IntKind.u64.wrap (t212 * t212)) = (IntKind.u64.wrap (x5_10))
                          · rw [if_pos c14] at H
                            have c14b0 : ((IntKind.u64.wrap (t212 * t212)) == (IntKind.u64.wrap (x5_10))) = true := beq_iff_eq.mpr c14
                            have c14b1 : ((IntKind.u64.wrap (t212 * t212)) != (IntKind.u64.wrap (x5_10))) = false := bne_eq_false_iff_eq.mpr c14
                            clear c14
                            replace H := Option.bind_eq_some_iff.mp H
                            obtain ⟨t213, A150, H⟩ := H
                            replace H : (some t213) = some r := H
                            have A15 := Aside0.mk A150
                            clear A150
                            obtain rfl := Option.some.inj H
                            go_wp2_with (first | ((with_reducible refine gate_callee (f := 36) rfl ?_); refine goesL_ (some 46) rfl rfl Try.func36 (by kernel_rfl) rfl #[.int .u64 (IntKind.u64.wrap (x5_10))] rfl (by (try simp only [List.map_toArray, List.map_cons, List.map_nil]); first | done | rfl | (simp only [List.length_drop, List.length_take]; rfl)) ?_; (with_reducible refine (heraldref03_root.calls kj10 (IntKind.u64.wrap (x5_10)) t212 _ A13.out).mono ?_); rintro e w' ⟨rfl, ⟨nd, rfl⟩⟩; refine ⟨_, rfl, ?_⟩) | ((with_reducible refine gate_callee (f := 29) rfl ?_); refine goesL_ (some 61) rfl rfl Try.func29 (by kernel_rfl) rfl #[.bool false, .int .u64 (IntKind.u64.wrap (2 * t212)), .int .i64 (wrap64 ((wrap64 (Int.tdiv x6_10 2)) - 1))] rfl (by (try simp only [List.map_toArray, List.map_cons, List.map_nil]); first | done | rfl | (simp only [List.length_drop, List.length_take]; rfl)) ?_; (with_reducible refine (heraldref03_near.calls kj10 false (IntKind.u64.wrap (2 * t212)) (wrap64 ((wrap64 (Int.tdiv x6_10 2)) - 1)) t213 _ A15.out).mono ?_); rintro e w' ⟨rfl, ⟨nd, rfl⟩⟩; refine ⟨_, rfl, ?_⟩))
                            go_ret
                            exact ⟨by first | rfl | (simp; done) | (simp [*]; done), by repeat (first | exact Drawn0.refl _ | apply Drawn0.step)⟩
                          · rw [if_neg c14] at H
                            have c14b0 : ((IntKind.u64.wrap (t212 * t212)) == (IntKind.u64.wrap (x5_10))) = false := beq_eq_false_iff_ne.mpr c14
                            have c14b1 : ((IntKind.u64.wrap (t212 * t212)) != (IntKind.u64.wrap (x5_10))) = true := bne_iff_ne.mpr c14
                            replace H := Option.bind_eq_some_iff.mp H
                            obtain ⟨t214, A160, H⟩ := H
                            replace H : (some t214) = some r := H
                            have A16 := Aside0.mk A160
                            clear A160
                            obtain rfl := Option.some.inj H
                            go_wp2_with (first | ((with_reducible refine gate_callee (f := 36) rfl ?_); refine goesL_ (some 46) rfl rfl Try.func36 (by kernel_rfl) rfl #[.int .u64 (IntKind.u64.wrap (x5_10))] rfl (by (try simp only [List.map_toArray, List.map_cons, List.map_nil]); first | done | rfl | (simp only [List.length_drop, List.length_take]; rfl)) ?_; (with_reducible refine (heraldref03_root.calls kj10 (IntKind.u64.wrap (x5_10)) t212 _ A13.out).mono ?_); rintro e w' ⟨rfl, ⟨nd, rfl⟩⟩; refine ⟨_, rfl, ?_⟩) | ((with_reducible refine gate_callee (f := 29) rfl ?_); refine goesL_ (some 61) rfl rfl Try.func29 (by kernel_rfl) rfl #[.bool false, .int .u64 (IntKind.u64.wrap ((IntKind.u64.wrap (2 * t212)) + 1)), .int .i64 (wrap64 ((wrap64 (Int.tdiv x6_10 2)) - 1))] rfl (by (try simp only [List.map_toArray, List.map_cons, List.map_nil]); first | done | rfl | (simp only [List.length_drop, List.length_take]; rfl)) ?_; (with_reducible refine (heraldref03_near.calls kj10 false (IntKind.u64.wrap ((IntKind.u64.wrap (2 * t212)) + 1)) (wrap64 ((wrap64 (Int.tdiv x6_10 2)) - 1)) t214 _ A16.out).mono ?_); rintro e w' ⟨rfl, ⟨nd, rfl⟩⟩; refine ⟨_, rfl, ?_⟩))
                            go_ret
                            exact ⟨by first | rfl | (simp; done) | (simp [*]; done), by repeat (first | exact Drawn0.refl _ | apply Drawn0.step)⟩
end Go.Proofs.Yteecekhfpfnepaa.PAll
end

section
namespace Go.Proofs.Yteecekhfpfnepaa.PAll
open Go.RowKit Go.Proofs.YteecekhfpfnepaaW.PrintWords Go.Proofs.YteecekhfpfnepaaW.PrintLast Go.Proofs.YteecekhfpfnepaaW.PrintMore
set_option linter.unusedVariables false
set_option linter.unusedSimpArgs false
def single_Div.f (a0 a1 : Int) : Option Int := some (arithV (arithR .quo a0.toNat a1.toNat))
set_option maxHeartbeats 800000 in
theorem single_Div.calls (a0 a1 : Int) (r : Int) (w : World) (h : single_Div.f a0 a1 = some r) :
    Calls Try.prog 23 #[.int .u32 a0, .int .u32 a1] w fun e w' => e = .returned (.int .u32 r) ∧ Drawn0 w w' := by
  obtain rfl := Option.some.inj h
  clear h
  obtain ⟨x, hx⟩ : ∃ x, a0.toNat = x := ⟨_, rfl⟩
  obtain ⟨y, hy⟩ : ∃ y, a1.toNat = y := ⟨_, rfl⟩
  rw [hx, hy]
  have H0 := Aside0.mk (fun W => of_calls a0 W)
  have H1 := Aside0.mk (fun W => of_calls a1 W)
  rw [hx] at H0
  rw [hy] at H1
  clear hx hy
  have HA := Aside0.mk (fun W => run_arith .quo (by simp) x y W)
  obtain ⟨V, hV⟩ : ∃ V, arithV (arithR .quo x y) = V := ⟨_, rfl⟩
  rw [hV] at HA ⊢
  clear hV
  go_enter Try.func23, Try.ntmps23
  go_wp2_with (first | (go_at_call 31; (with_reducible refine (H0.out _).mono ?_); rintro e w' ⟨rfl, ⟨m1, rfl⟩⟩) | (go_at_call 31; (with_reducible refine (H1.out _).mono ?_); rintro e w' ⟨rfl, ⟨m2, rfl⟩⟩))
  obtain ⟨r, q, hrun, hback⟩ := HA.out (w.drewN (m1 + m2))
  rw [hrun, World.drewN_drewN]
  have HBk := Aside0.mk hback
  clear HA H0 H1 hrun hback
  go_wp2_with (go_at_call 30; (with_reducible refine (back_calls r _).mono ?_); rintro e w' ⟨rfl, ⟨m3, rfl⟩⟩)
  go_ret
  exact ⟨by rw [← HBk.out]; first | rfl | simp, by repeat (first | exact Drawn0.refl _ | apply Drawn0.step | exact ⟨⟨_, rfl⟩⟩)⟩
end Go.Proofs.Yteecekhfpfnepaa.PAll
end

section
namespace Go.Proofs.Yteecekhfpfnepaa.PAll
open Go.RowKit Go.Proofs.YteecekhfpfnepaaW.PrintWords Go.Proofs.YteecekhfpfnepaaW.PrintLast Go.Proofs.YteecekhfpfnepaaW.PrintMore
set_option linter.unusedVariables false
set_option linter.unusedSimpArgs false
/-- The root of a word of 32 bits, by way of 64. -/
def sqrtR (x : Nat) : Option Int :=
  if (Ieee.single.read x).isNaN then some 2143289344 else
  match floatToFloatBits .f32 x .f64 with
  | none => none
  | some y => match FloatKind.f64.format.sqrt y with
    | none => some 2143289344
    | some z => match floatToFloatBits .f64 z .f32 with
      | none => none
      | some r => some (backV r)
def single_Sqrt.f (a0 : Int) : Option Int := sqrtR a0.toNat
theorem nan64 (q : Nat) (t : Nat) (h : q = (t % 2) * 2 ^ 63 + 0x7ff0000000000000 + 1 + (t / 2) % (2 ^ 52 - 1)) : (Ieee.double.read q).isNaN = true := by
  subst h
  have h1 : t % 2 < 2 := Nat.mod_lt _ (by omega)
  have h2 : (t / 2) % (2 ^ 52 - 1) < 4503599627370495 := Nat.mod_lt _ (by decide)
  generalize t % 2 = a at h1
  generalize (t / 2) % (2 ^ 52 - 1) = c at h2
  unfold Ieee.Format.read
  have hs : Ieee.double.signWeight = 9223372036854775808 := by decide
  have hb : Ieee.double.binade = 4503599627370496 := by decide
  have hi : Ieee.double.infRung = 9218868437227405312 := by decide
  simp only [hs, hb, hi]
  have hm : (a * 2 ^ 63 + 0x7ff0000000000000 + 1 + c) % 9223372036854775808 = 9218868437227405313 + c := by omega
  rw [hm, if_neg (by omega), if_neg (by omega), if_neg (by omega)]
  rfl
theorem nan32 (q : Nat) (t : Nat) (h : q = (t % 2) * 2 ^ 31 + 0x7f800000 + 1 + (t / 2) % (2 ^ 23 - 1)) : backV q = 2143289344 := by
  subst h
  have := cut_nan 0 0 0 t
  have e : (Question.nanBits .f32 0 0).cut t = (t % 2) * 2 ^ 31 + 0x7f800000 + 1 + (t / 2) % (2 ^ 23 - 1) := rfl
  rw [e] at this
  unfold backV
  rw [this]
  rfl
theorem sqrt_nan (y : Nat) (h : (Ieee.double.read y).isNaN = true) : FloatKind.f64.format.sqrt y = none := by
  show ((Ieee.double.read y).root _).map Ieee.double.write = none
  cases hr : Ieee.double.read y <;> rw [hr] at h <;> simp [Ieee.Datum.isNaN] at h
  rfl
/-- To 64 bits, of a none. -/
theorem run_up_nan (x : Nat) (w : World) (h : (Ieee.single.read x).isNaN = true) : ∃ y m, (convert 45 50 (.float .f32 x)).run Try.prog w = .ok (.float .f64 y) (w.drewN m) ∧ (Ieee.double.read y).isNaN = true := by
  refine ⟨(Question.nanConv .f64 x).cut (w.tape w.drawn (.nanConv .f64 x)), 1, ?_, nan64 _ _ rfl⟩
  obtain ⟨s, f, hx⟩ : ∃ s f, FloatKind.f32.decode x = .nan s f := by
    show ∃ s f, Ieee.single.read x = .nan s f
    cases hr : Ieee.single.read x <;> rw [hr] at h <;> simp [Ieee.Datum.isNaN] at h
    exact ⟨_, _, rfl⟩
  have hu : Try.prog.underlying 50 = some (.float .f64) := by kernel_rfl
  have hs : (Try.prog.underlying 45).isSome = true := by kernel_rfl
  obtain ⟨u, hs'⟩ := Option.isSome_iff_exists.1 hs
  have hn : FloatKind.f32 ≠ FloatKind.f64 := by decide
  cases u <;> simp [convert, run_underlying hs', run_underlying hu, Conv.floatToFloat, hn, hx, choose, Sem.run, World.drewN]
  all_goals (intro hf; exact absurd hf (by simp [Question.forced]))
/-- Back to 32 bits, of a none. -/
theorem run_down_nan (x : Nat) (w : World) (h : (Ieee.double.read x).isNaN = true) : ∃ y m, (convert 50 45 (.float .f64 x)).run Try.prog w = .ok (.float .f32 y) (w.drewN m) ∧ backV y = 2143289344 := by
  refine ⟨(Question.nanConv .f32 x).cut (w.tape w.drawn (.nanConv .f32 x)), 1, ?_, nan32 _ _ rfl⟩
  obtain ⟨s, f, hx⟩ : ∃ s f, FloatKind.f64.decode x = .nan s f := by
    show ∃ s f, Ieee.double.read x = .nan s f
    cases hr : Ieee.double.read x <;> rw [hr] at h <;> simp [Ieee.Datum.isNaN] at h
    exact ⟨_, _, rfl⟩
  have hu : Try.prog.underlying 45 = some (.float .f32) := by kernel_rfl
  have hs : (Try.prog.underlying 50).isSome = true := by kernel_rfl
  obtain ⟨u, hs'⟩ := Option.isSome_iff_exists.1 hs
  have hn : FloatKind.f64 ≠ FloatKind.f32 := by decide
  cases u <;> simp [convert, run_underlying hs', run_underlying hu, Conv.floatToFloat, hn, hx, choose, Sem.run, World.drewN]
  all_goals (intro hf; exact absurd hf (by simp [Question.forced]))
theorem run_up (x y : Nat) (w : World) (h : floatToFloatBits .f32 x .f64 = some y) : (convert 45 50 (.float .f32 x)).run Try.prog w = .ok (.float .f64 y) w :=
  run_convert_float_float w 45 50 .f32 .f64 x y (by kernel_rfl) (by kernel_rfl) h
theorem run_down (x y : Nat) (w : World) (h : floatToFloatBits .f64 x .f32 = some y) : (convert 50 45 (.float .f64 x)).run Try.prog w = .ok (.float .f32 y) w :=
  run_convert_float_float w 50 45 .f64 .f32 x y (by kernel_rfl) (by kernel_rfl) h
/-- The root of 64 bits. -/
theorem ext41 (y : Nat) : Extern.MathSqrt.sqrt #[.float .f64 y] = (match FloatKind.f64.format.sqrt y with
    | some r => pure (.float .f64 r)
    | none => do pure (.float .f64 (← choose (.nanBits .f64 y y)))) := rfl
theorem run41 (y : Nat) (w : World) : ∃ z m, (callFunc 41 #[.float .f64 y]).run Try.prog w = .ok (.value (.float .f64 z)) (w.drewN m) ∧ (match FloatKind.f64.format.sqrt y with | some r => z = r | none => (Ieee.double.read z).isNaN = true) := by
  rw [run_callFunc_extern Try.func41 (by kernel_rfl) (by kernel_rfl) (by kernel_rfl) (e := Extern.MathSqrt.sqrt) (by kernel_rfl), ext41]
  cases h : FloatKind.f64.format.sqrt y with
  | some r => exact ⟨r, 0, rfl, rfl⟩
  | none =>
    refine ⟨(Question.nanBits .f64 y y).cut (w.tape w.drawn (.nanBits .f64 y y)), 1, ?_, nan64 _ _ rfl⟩
    have hf : ¬ (Question.nanBits FloatKind.f64 y y).forced = true := by simp [Question.forced]
    simp [choose, Sem.run, World.drewN, Result.andThen, hf]
/-- What math.Sqrt tells. -/
def Root64 (y z : Nat) : Prop := match FloatKind.f64.format.sqrt y with | some r => z = r | none => (Ieee.double.read z).isNaN = true
set_option maxHeartbeats 400000 in
theorem sqrt64_calls (y : Nat) (w : World) : Calls Try.prog 35 #[.float .f64 y] w fun e w' => (∃ z, e = .returned (.float .f64 z) ∧ Root64 y z) ∧ ∃ m, w' = w.drewN m := by
  have HA := Aside0.mk (fun W => run41 y W)
  go_enter Try.func35, Try.ntmps35
  go_wp2
  obtain ⟨z, m, hrun, hz⟩ := HA.out w
  rw [hrun]
  have HZ := Aside0.mk hz
  clear HA hrun hz
  go_wp2
  go_ret
  exact ⟨⟨z, by first | rfl | simp, HZ.out⟩, m, by first | rfl | simp⟩
set_option maxHeartbeats 800000 in
theorem single_Sqrt.calls (a0 : Int) (r : Int) (w : World) (h : single_Sqrt.f a0 = some r) :
    Calls Try.prog 25 #[.int .u32 a0] w fun e w' => e = .returned (.int .u32 r) ∧ Drawn0 w w' := by
  unfold single_Sqrt.f at h
  obtain ⟨x, hx⟩ : ∃ x, a0.toNat = x := ⟨_, rfl⟩
  rw [hx] at h
  have H0 := Aside0.mk (fun W => of_calls a0 W)
  rw [hx] at H0
  clear hx
  -- the three steps, whichever way
  have HT : ∀ W, ∃ y m, (convert 45 50 (.float .f32 x)).run Try.prog W = .ok (.float .f64 y) (W.drewN m) ∧ ∀ z, Root64 y z → ∀ W, ∃ q m, (convert 50 45 (.float .f64 z)).run Try.prog W = .ok (.float .f32 q) (W.drewN m) ∧ backV q = r := by
    intro W
    unfold sqrtR at h
    by_cases hn : (Ieee.single.read x).isNaN = true
    · rw [if_pos hn] at h
      obtain rfl := Option.some.inj h
      obtain ⟨y, m, h1, h2⟩ := run_up_nan x W hn
      refine ⟨y, m, h1, fun z hz W => ?_⟩
      unfold Root64 at hz
      rw [sqrt_nan y h2] at hz
      exact run_down_nan z W hz
    · rw [if_neg hn] at h
      cases hu : floatToFloatBits .f32 x .f64 with
      | none => rw [hu] at h; cases h
      | some y =>
        rw [hu] at h
        refine ⟨y, 0, run_up x y W hu, fun z hz W => ?_⟩
        unfold Root64 at hz
        simp only at h
        cases hs : FloatKind.f64.format.sqrt y with
        | none =>
          rw [hs] at h hz
          obtain rfl := Option.some.inj h
          exact run_down_nan z W hz
        | some z' =>
          rw [hs] at h hz
          simp only at h hz
          subst hz
          cases hd : floatToFloatBits .f64 z .f32 with
          | none => rw [hd] at h; cases h
          | some q =>
            rw [hd] at h
            exact ⟨q, 0, run_down z q W hd, Option.some.inj h⟩
  clear h
  have HT := Aside0.mk HT
  have HR := Aside0.mk (fun y W => sqrt64_calls y W)
  go_enter Try.func25, Try.ntmps25
  go_wp2_with (go_at_call 31; (with_reducible refine (H0.out _).mono ?_); rintro e w' ⟨rfl, ⟨m1, rfl⟩⟩)
  obtain ⟨y, m2, hrun, hback⟩ := HT.out (w.drewN m1)
  rw [hrun, World.drewN_drewN]
  have HB := Aside0.mk hback
  clear HT H0 hrun hback
  go_wp2_with (go_at_call 35; (with_reducible refine (HR.out _ _).mono ?_); rintro e w' ⟨⟨z, rfl, hz⟩, ⟨m3, rfl⟩⟩; have HZ := Aside0.mk hz; clear hz)
  obtain ⟨q, m4, hrun, hv⟩ := HB.out z HZ.out (w.drewN (m1 + m2 + m3))
  rw [hrun, World.drewN_drewN]
  have HV := Aside0.mk hv
  clear HB HZ HR hrun hv
  go_wp2_with (go_at_call 30; (with_reducible refine (back_calls q _).mono ?_); rintro e w' ⟨rfl, ⟨m5, rfl⟩⟩)
  go_ret
  exact ⟨by rw [← HV.out]; first | rfl | simp, by repeat (first | exact Drawn0.refl _ | apply Drawn0.step | exact ⟨⟨_, rfl⟩⟩)⟩
end Go.Proofs.Yteecekhfpfnepaa.PAll
end
