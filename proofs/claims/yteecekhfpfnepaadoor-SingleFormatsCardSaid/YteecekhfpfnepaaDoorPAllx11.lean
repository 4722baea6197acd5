-- Written by a program of this session out of the translation. Lean checks it.
import Derived.Test.YteecekhfpfnepaaDoorPAllx0
import Derived.Test.YteecekhfpfnepaaDoorPAllx10
namespace Go.Proofs.YteecekhfpfnepaaDoor.PAll
open Go.RowKit Go.Proofs.YteecekhfpfnepaaDoorW.PrintWords Go.Proofs.YteecekhfpfnepaaDoorW.PrintLast Go.Proofs.YteecekhfpfnepaaDoorW.PrintMore
attribute [local go_sem] max2_int min2_int max_two min_two max_three min_three max_four min_four   -- for this text's walks alone
set_option linter.unusedVariables false
set_option linter.unusedSimpArgs false

/-! ### heraldref03_FromHalf: function 26, by hand -/
def heraldref03_FromHalf.f (k : Nat) (a0 : Int) : Option Int :=
  if 0 ≤ a0 ∧ a0 < 65536 then (if a0 / 1024 % 32 = 31 then (if a0 % 1024 > 0 then some 2143289344 else some (if 32768 ≤ a0 then 4286578688 else 2139095040))
    else if a0 / 1024 % 32 = 0 then heraldref03_near.f k (decide (32768 ≤ a0)) (a0 % 1024) (-24) else heraldref03_near.f k (decide (32768 ≤ a0)) (1024 + a0 % 1024) (a0 / 1024 % 32 - 25)) else none
theorem heraldref03_FromHalf.mono : ∀ a0 k, LeO (heraldref03_FromHalf.f k a0) (heraldref03_FromHalf.f (k + 1) a0) := by
  intro a0 k
  unfold heraldref03_FromHalf.f
  repeat' first
      | (with_reducible exact heraldref03_near.mono _ _ _ _)
      | (with_reducible exact LeO.refl _)
      | (with_reducible exact LeO.none _)
      | (with_reducible refine LeO.ite ?_ ?_)
set_option maxRecDepth 20000 in
set_option maxHeartbeats 3200000 in
theorem heraldref03_FromHalf.calls (k : Nat) (a0 : Int) (r : Int) (w : World) (h : heraldref03_FromHalf.f k a0 = some r) :
    Calls Tryd.prog 26 #[.int .u16 a0] w fun e w' => e = .returned (.int .u32 r) ∧ Drawn0 w w' := by
  unfold heraldref03_FromHalf.f at h
  split at h
  case isFalse => simp at h
  case isTrue hr =>
  have hd : Int.tdiv a0 1024 = a0 / 1024 := Int.tdiv_eq_ediv_of_nonneg hr.1
  have hm : Int.tmod a0 1024 = a0 % 1024 := Int.tmod_eq_emod_of_nonneg hr.1
  obtain ⟨q, hq⟩ : ∃ q, a0 / 1024 = q := ⟨_, rfl⟩
  obtain ⟨ff, hff⟩ : ∃ ff, a0 % 1024 = ff := ⟨_, rfl⟩
  have hq0 : 0 ≤ q := by omega
  have hq1 : q < 64 := by omega
  have hm2 : Int.tmod q 32 = q % 32 := Int.tmod_eq_emod_of_nonneg hq0
  obtain ⟨ee, hee⟩ : ∃ ee, q % 32 = ee := ⟨_, rfl⟩
  rw [hq, hff, hee] at h
  rw [hq] at hd
  rw [hff] at hm
  rw [hee] at hm2
  have hf0 : 0 ≤ ff := by omega
  have hf1 : ff < 1024 := by omega
  have he0 : 0 ≤ ee := by omega
  have he1 : ee < 32 := by omega
  have uq : IntKind.u16.wrap q = q := by show q % 65536 = q; omega
  have wf : wrap64 ff = ff := by unfold wrap64; omega
  have we : wrap64 ee = ee := by unfold wrap64; omega
  have uf : IntKind.u64.wrap ff = ff := by show ff % 18446744073709551616 = ff; omega
  have w1 : wrap64 (1024 + ff) = 1024 + ff := by unfold wrap64; omega
  have u1 : IntKind.u64.wrap (1024 + ff) = 1024 + ff := by show (1024 + ff) % 18446744073709551616 = 1024 + ff; omega
  have w2 : wrap64 (ee - 25) = ee - 25 := by unfold wrap64; omega
  by_cases hs : 32768 ≤ a0
  · rw [decide_eq_true hs] at h
    by_cases c1 : ee = 31
    · subst c1
      rw [if_pos rfl, if_pos hs] at h
      by_cases c2 : ff > 0
      · rw [if_pos c2] at h
        obtain rfl := Option.some.inj h
        clear h
        go_enter Tryd.func26, Tryd.ntmps26
        go_wp2
        go_ret
        exact ⟨by first | rfl | (simp; done), by repeat (first | exact Drawn0.refl _ | apply Drawn0.step | exact ⟨⟨_, rfl⟩⟩)⟩
      · obtain rfl : ff = 0 := by omega
        rw [if_neg (by omega)] at h
        obtain rfl := Option.some.inj h
        clear h
        go_enter Tryd.func26, Tryd.ntmps26
        go_wp2
        go_ret
        exact ⟨by first | rfl | (simp; done), by repeat (first | exact Drawn0.refl _ | apply Drawn0.step | exact ⟨⟨_, rfl⟩⟩)⟩
    · rw [if_neg c1] at h
      have c1b : (ee == 31) = false := beq_eq_false_iff_ne.mpr c1
      by_cases c3 : ee = 0
      · subst c3
        rw [if_pos rfl] at h
        have HZ := Aside0.mk h
        clear h
        go_enter Tryd.func26, Tryd.ntmps26
        go_wp2_with (go_at_call 44; (with_reducible refine (heraldref03_near.calls _ _ _ _ _ _ HZ.out).mono ?_); rintro e w' ⟨rfl, ⟨m, rfl⟩⟩)
        go_ret
        exact ⟨by first | rfl | (simp; done), by repeat (first | exact Drawn0.refl _ | apply Drawn0.step | exact ⟨⟨_, rfl⟩⟩)⟩
      · rw [if_neg c3] at h
        have c3b : (ee == 0) = false := beq_eq_false_iff_ne.mpr c3
        have HZ := Aside0.mk h
        clear h
        go_enter Tryd.func26, Tryd.ntmps26
        go_wp2_with (go_at_call 44; (with_reducible refine (heraldref03_near.calls _ _ _ _ _ _ HZ.out).mono ?_); rintro e w' ⟨rfl, ⟨m, rfl⟩⟩)
        go_ret
        exact ⟨by first | rfl | (simp; done), by repeat (first | exact Drawn0.refl _ | apply Drawn0.step | exact ⟨⟨_, rfl⟩⟩)⟩
  · rw [decide_eq_false hs] at h
    by_cases c1 : ee = 31
    · subst c1
      rw [if_pos rfl, if_neg hs] at h
      by_cases c2 : ff > 0
      · rw [if_pos c2] at h
        obtain rfl := Option.some.inj h
        clear h
        go_enter Tryd.func26, Tryd.ntmps26
        go_wp2
        go_ret
        exact ⟨by first | rfl | (simp; done), by repeat (first | exact Drawn0.refl _ | apply Drawn0.step | exact ⟨⟨_, rfl⟩⟩)⟩
      · obtain rfl : ff = 0 := by omega
        rw [if_neg (by omega)] at h
        obtain rfl := Option.some.inj h
        clear h
        go_enter Tryd.func26, Tryd.ntmps26
        go_wp2
        go_ret
        exact ⟨by first | rfl | (simp; done), by repeat (first | exact Drawn0.refl _ | apply Drawn0.step | exact ⟨⟨_, rfl⟩⟩)⟩
    · rw [if_neg c1] at h
      have c1b : (ee == 31) = false := beq_eq_false_iff_ne.mpr c1
      by_cases c3 : ee = 0
      · subst c3
        rw [if_pos rfl] at h
        have HZ := Aside0.mk h
        clear h
        go_enter Tryd.func26, Tryd.ntmps26
        go_wp2_with (go_at_call 44; (with_reducible refine (heraldref03_near.calls _ _ _ _ _ _ HZ.out).mono ?_); rintro e w' ⟨rfl, ⟨m, rfl⟩⟩)
        go_ret
        exact ⟨by first | rfl | (simp; done), by repeat (first | exact Drawn0.refl _ | apply Drawn0.step | exact ⟨⟨_, rfl⟩⟩)⟩
      · rw [if_neg c3] at h
        have c3b : (ee == 0) = false := beq_eq_false_iff_ne.mpr c3
        have HZ := Aside0.mk h
        clear h
        go_enter Tryd.func26, Tryd.ntmps26
        go_wp2_with (go_at_call 44; (with_reducible refine (heraldref03_near.calls _ _ _ _ _ _ HZ.out).mono ?_); rintro e w' ⟨rfl, ⟨m, rfl⟩⟩)
        go_ret
        exact ⟨by first | rfl | (simp; done), by repeat (first | exact Drawn0.refl _ | apply Drawn0.step | exact ⟨⟨_, rfl⟩⟩)⟩
end Go.Proofs.YteecekhfpfnepaaDoor.PAll
