/- The parts of a single: the program's and the reference's. -/
import Derived.Test.YteecekhfpfnepaaDoorSgRaw
import Derived.Test.YteecekhfpfnepaaDoorHParts
import Derived.Test.YteecekhfpfnepaaDoorPAllx1
namespace Go.Proofs.YteecekhfpfnepaaDoor.Sg
open Go.RowKit Go.Proofs.YteecekhfpfnepaaDoor.PAll Go.Proofs.YteecekhfpfnepaaDoorW.PrintWords Go.Proofs.YteecekhfpfnepaaDoorW.PrintLast Go.Proofs.YteecekhfpfnepaaDoorW.PrintMore
set_option linter.unusedVariables false
set_option linter.unusedSimpArgs false

theorem parts_some (a : Int) (h0 : 0 ≤ a) (h1 : a < 4294967296) : single_Parts.f a = some (partsV a) := by unfold single_Parts.f; rw [if_pos ⟨h0, h1⟩]
theorem refparts_loop (kind : Int) (s : Bool) (q : Nat) (hq : q % 2 = 1) : ∀ (t : Nat) (e : Int) (k : Nat), 2 ^ t * q < 16777216 → t ≤ 64 → -1000 ≤ e → e + t ≤ 1000 → t + 1 ≤ k → heraldref03_Parts.l0 k kind s ((2 ^ t * q : Nat) : Int) e = some (kind, s, (q : Int), e + t) := by
  intro t
  induction t with
  | zero =>
    intro e k h1 h2 h3 h4 hk
    obtain ⟨k, rfl⟩ : ∃ j, k = j + 1 := ⟨k - 1, by omega⟩
    simp only [heraldref03_Parts.l0]
    rw [Nat.pow_zero, Nat.one_mul, Int.tmod_eq_emod_of_nonneg (by omega), if_neg (by omega)]
    simp
  | succ t ih =>
    intro e k h1 h2 h3 h4 hk
    obtain ⟨k, rfl⟩ : ∃ j, k = j + 1 := ⟨k - 1, by omega⟩
    have e1 : 2 ^ (t + 1) * q = 2 * (2 ^ t * q) := by rw [Nat.pow_succ, Nat.mul_comm (2 ^ t) 2, Nat.mul_assoc]
    rw [e1] at h1 ⊢
    obtain ⟨z, hz⟩ : ∃ z, 2 ^ t * q = z := ⟨_, rfl⟩
    have hi := ih (e + 1) k (by omega) (by omega) (by omega) (by omega) (by omega)
    rw [hz] at h1 hi ⊢
    simp only [heraldref03_Parts.l0]
    rw [Int.tmod_eq_emod_of_nonneg (by omega), if_pos (by omega), Int.tdiv_eq_ediv_of_nonneg (by omega), show ((2 * z : Nat) : Int) / 2 = (z : Int) from by omega, wrap_in (by omega) (by omega), wrap_in (by omega) (by omega), hi]
    congr 4
    omega
theorem refparts_some (a : Int) (h0 : 0 ≤ a) (h1 : a < 4294967296) (k : Nat) (hk : 70 ≤ k) : heraldref03_Parts.f k a = some (partsV a) := by
  unfold heraldref03_Parts.f partsV
  rw [raw_some a h0 h1]
  simp only [Option.bind_some]
  rcases raw_cases a h0 h1 with ⟨ra, _⟩ | ⟨s, ra, _⟩ | ⟨s, m, e, ra, _, fa⟩ <;> rw [ra]
  · simp
  · simp
  · by_cases c : m = 0
    · subst c; simp
    · have hb : m < 16777216 ∧ -149 ≤ e ∧ e ≤ 104 := by rcases fa.form with ⟨g1, g2⟩ | ⟨g1, g2, g3, g4⟩ <;> omega
      obtain ⟨q, hq⟩ := tz_spec m c (by omega)
      have ht := tz_lt m c (by omega)
      have hl := refparts_loop 0 s (2 * q + 1) (by omega) (tz m) e k (by omega) (by omega) (by omega) (by omega) (by omega)
      rw [← hq] at hl
      have hdiv : m / 2 ^ tz m = 2 * q + 1 := by
        have hp := pow_pos' (tz m)
        obtain ⟨T, hT⟩ : ∃ T, 2 ^ tz m = T := ⟨_, rfl⟩
        rw [hT] at hq hp ⊢
        rw [hq, Nat.mul_div_cancel_left _ hp]
      simp only
      rw [if_neg (by omega), if_neg (by omega), Int.toNat_natCast, hdiv, hl]
end Go.Proofs.YteecekhfpfnepaaDoor.Sg
