/- The plain law of SingleBack. -/
import Derived.Test.YteecekhfpfnepaaDoorPAllx5
import Derived.Test.YteecekhfpfnepaaDoorSgAwake
import Derived.Test.YteecekhfpfnepaaDoorSgParts
import Derived.Test.YteecekhfpfnepaaDoorSgStick
namespace Go.Proofs.YteecekhfpfnepaaDoor.Pure
open Go.RowKit Go.Proofs.YteecekhfpfnepaaDoor.PAll Go.Proofs.YteecekhfpfnepaaDoor.Sg Go.Proofs.YteecekhfpfnepaaDoorW.PrintWords Go.Proofs.YteecekhfpfnepaaDoorW.PrintLast
set_option linter.unusedVariables false

theorem SingleBack : heraldlaw03_SingleBack.Pure := by
  intro a0 w0
  obtain ⟨h0, h1⟩ := wf_u32 w0
  obtain ⟨k, hk⟩ : ∃ k, k = 100 := ⟨_, rfl⟩
  refine ⟨k + 2, ?_⟩
  have ha := awake_some k (by omega)
  have hp := parts_some a0 h0 (by omega)
  have hq := refparts_some a0 h0 (by omega) (k + 1) (by omega)
  unfold heraldlaw03_SingleBack.f
  rw [hp]
  simp only [Option.bind_some, heraldlaw03_SingleBack.j0, hq]
  clear hp hq
  rcases raw_cases a0 h0 (by omega) with ⟨ra, _⟩ | ⟨s, ra, _⟩ | ⟨s, m, e, ra, _, fa⟩
  · rw [partsV_of ra]
    simp [heraldlaw03_SingleBack.j1, ha]
  · rw [partsV_of ra]
    simp [heraldlaw03_SingleBack.j1, ha]
  · by_cases c : m = 0
    · subst c
      rw [partsV_of ra]
      simp [heraldlaw03_SingleBack.j1, ha]
    · have hb : m < 16777216 ∧ -149 ≤ e ∧ e ≤ 104 := by rcases fa.form with ⟨g1, g2⟩ | ⟨g1, g2, g3, g4⟩ <;> omega
      obtain ⟨q, hq⟩ := tz_spec m c (by omega)
      have ht := tz_lt m c (by omega)
      have hdiv : m / 2 ^ tz m = 2 * q + 1 := by
        have hp := pow_pos' (tz m)
        obtain ⟨T, hT⟩ : ∃ T, 2 ^ tz m = T := ⟨_, rfl⟩
        rw [hT] at hq hp ⊢
        rw [hq, Nat.mul_div_cancel_left _ hp]
      have hql : 2 * q + 1 ≤ m := by rw [← hdiv]; exact Nat.div_le_self _ _
      have hs : NR s (2 * q + 1) (e + (tz m : Int)) = a0 := by
        have := rung_scale (2 * q + 1) (tz m) (e + (tz m : Int))
        rw [Nat.mul_comm, ← hq, show e + (tz m : Int) - (tz m : Int) = e from by omega] at this
        unfold NR
        rw [← this]
        exact fa.word.symm
      have hP : partsV a0 = (0, s, ((2 * q + 1 : Nat) : Int), e + (tz m : Int)) := by rw [partsV_of ra, if_neg (by omega), Int.toNat_natCast, hdiv]
      rw [hP]
      have hz : (((2 * q + 1 : Nat) : Int) == 0) = false := beq_eq_false_iff_ne.mpr (by omega)
      have n1 := near_some (-((2 * q + 1 : Nat) : Int)) (e + (tz m : Int)) (by omega) (by omega) k (by omega)
      have n2 := near_some (((2 * q + 1 : Nat) : Int)) (e + (tz m : Int)) (by omega) (by omega) k (by omega)
      rw [if_neg (by omega), decide_eq_true (by omega), show (-((2 * q + 1 : Nat) : Int)).natAbs = 2 * q + 1 from by omega] at n1
      rw [if_neg (by omega), decide_eq_false (by omega), show (((2 * q + 1 : Nat) : Int)).natAbs = 2 * q + 1 from by omega] at n2
      have hw : wrap64 (-((2 * q + 1 : Nat) : Int)) = -((2 * q + 1 : Nat) : Int) := wrap_in (by omega) (by omega)
      obtain ⟨M, hM⟩ : ∃ M : Int, ((2 * q + 1 : Nat) : Int) = M := ⟨_, rfl⟩
      rw [hM] at hz n1 n2 hw ⊢
      cases s
      · rw [hs] at n2
        simp [heraldlaw03_SingleBack.j1, ha, hz, n2]
      · rw [hs] at n1
        simp [heraldlaw03_SingleBack.j1, ha, hz, hw, n1]
end Go.Proofs.YteecekhfpfnepaaDoor.Pure
