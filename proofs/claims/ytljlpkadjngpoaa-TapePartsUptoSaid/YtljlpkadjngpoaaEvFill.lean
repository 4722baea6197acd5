/- Plain: the two Fills make the same bytes. -/
import Derived.Test.YtljlpkadjngpoaaPAllx8
import Derived.Test.YtljlpkadjngpoaaPAllx9
import Derived.Test.YtljlpkadjngpoaaEvMake
namespace Go.Proofs.Ytljlpkadjngpoaa.Math
open Go.RowKit Go.Proofs.Ytljlpkadjngpoaa.PAll Go.Proofs.YtljlpkadjngpoaaW.PrintWords Go.Proofs.YtljlpkadjngpoaaW.PrintLast Go.Proofs.YtljlpkadjngpoaaW.PrintMore
set_option linter.unusedVariables false
set_option linter.unusedSimpArgs false

theorem shr_u64 (u : Int) (s : Nat) (hs : s ≤ 64) : shr .u64 u (s : Int) = u / 2 ^ s := by
  show u / 2 ^ min (s : Int).toNat 64 = _
  rw [Int.toNat_natCast, Nat.min_eq_left hs]
def shiftV (n : Int) : Nat → Int
  | 0 => n
  | k + 1 => IntKind.u64.wrap (shiftV n k * 256)
theorem u64_mod (a : Int) : IntKind.u64.wrap a = a % 18446744073709551616 := rfl
theorem shift_byte (n : Int) (h0 : 0 ≤ n) (h1 : n < 18446744073709551616) (k : Nat) (hk : k < 8) : (shiftV n k / 72057594037927936) % 256 = (shr .u64 n (wrap64 (56 - (wrap64 (8 * (k : Int)))))) % 256 := by
  have e : wrap64 (56 - (wrap64 (8 * (k : Int)))) = ((56 - 8 * k : Nat) : Int) := by
    rw [wrap_in (a := 8 * (k : Int)) (by omega) (by omega), wrap_in (by omega) (by omega)]; omega
  rw [e, shr_u64 _ _ (by omega)]
  rcases (show k = 0 ∨ k = 1 ∨ k = 2 ∨ k = 3 ∨ k = 4 ∨ k = 5 ∨ k = 6 ∨ k = 7 by omega) with rfl | rfl | rfl | rfl | rfl | rfl | rfl | rfl
  all_goals
    simp only [shiftV, u64_mod, Nat.reduceMul, Nat.reduceSub, Int.reducePow]
    try omega
theorem fill_both (c : Int) (hc : c ≤ 16777216) : ∀ k : Nat,
    (∀ (rem : Nat) (x : Int) (out : List Int), (out.length : Int) + rem = c → 3 * rem + 1 ≤ k → ∃ r, tape_Fill.l0 k c x out = some r ∧ heraldref23_Fill.l0 k c x out = some r) ∧
    (∀ (rem : Nat) (x n : Int) (out : List Int) (j : Nat), (out.length : Int) + rem = c → 0 ≤ n → n < 18446744073709551616 → j ≤ 8 → (if j < 8 ∧ 0 < rem then 3 * rem ≤ k else 3 * rem + 2 ≤ k) →
      ∃ r, tape_Fill.l1 k c x out n (j : Int) = some r ∧ heraldref23_Fill.l1 k c x out (shiftV n j) (j : Int) = some r) := by
  intro k
  induction k with
  | zero =>
    refine ⟨fun rem x out h1 h2 => by omega, fun rem x n out j h1 h2 h3 h4 h5 => ?_⟩
    split at h5 <;> omega
  | succ k ih =>
    obtain ⟨ih0, ih1⟩ := ih
    refine ⟨fun rem x out h1 h2 => ?_, fun rem x n out j h1 h2 h3 h4 h5 => ?_⟩
    · simp only [tape_Fill.l0, heraldref23_Fill.l0]
      by_cases hz : rem = 0
      · rw [if_neg (by omega), if_neg (by omega)]
        exact ⟨_, rfl, rfl⟩
      · rw [if_pos (by omega), if_pos (by omega)]
        have hw : ∀ a : Int, 0 ≤ IntKind.u64.wrap a ∧ IntKind.u64.wrap a < 18446744073709551616 := fun a => by rw [u64_mod]; omega
        exact ih1 rem _ _ out 0 h1 (hw _).1 (hw _).2 (by omega) (by rw [if_pos (by omega)]; omega)
    · simp only [tape_Fill.l1, heraldref23_Fill.l1]
      by_cases hj : j < 8
      · by_cases hz : rem = 0
        · rw [if_pos (by omega), if_neg (by omega), if_pos (by omega), if_neg (by omega)]
          rw [if_neg (by omega)] at h5
          exact ih0 rem x out h1 (by omega)
        · rw [if_pos (by omega)] at h5
          have e : wrap64 (56 - (wrap64 (8 * (j : Int)))) = ((56 - 8 * j : Nat) : Int) := by
            rw [wrap_in (a := 8 * (j : Int)) (by omega) (by omega), wrap_in (by omega) (by omega)]; omega
          rw [if_pos (by omega), if_pos (by omega), if_pos (by rw [e]; omega), if_pos (by omega), if_pos (by omega), if_pos (by omega), if_pos (by omega), shift_byte n h2 h3 j hj, wrap_in (a := (j : Int) + 1) (by omega) (by omega)]
          exact ih1 (rem - 1) x n _ (j + 1) (by simp; omega) h2 h3 (by omega) (by split <;> omega)
      · rw [if_neg (by omega), if_neg (by omega)]
        rw [if_neg (by omega)] at h5
        exact ih0 rem x out h1 (by omega)
theorem fill_some (seed c : Int) (k : Nat) (hk : 50331700 ≤ k) : ∃ r, tape_Fill.f k seed c = some r ∧ heraldref23_Fill.f k seed c = some r := by
  obtain ⟨k, rfl⟩ : ∃ m, k = m + 1 := ⟨k - 1, by omega⟩
  obtain ⟨k, rfl⟩ : ∃ m, k = m + 1 := ⟨k - 1, by omega⟩
  unfold tape_Fill.f heraldref23_Fill.f
  by_cases h0 : c < 0
  · rw [if_pos h0, if_pos h0]
    simp only [tape_Fill.j0, heraldref23_Fill.j0]
    exact ⟨_, rfl, rfl⟩
  · rw [if_neg h0, if_neg h0]
    simp only [tape_Fill.j0, heraldref23_Fill.j0]
    by_cases h1 : c > 16777216
    · rw [decide_eq_true h1]
      exact ⟨_, rfl, rfl⟩
    · rw [decide_eq_false h1]
      simp only [Bool.false_eq_true, if_false]
      by_cases hs : seed = 0
      · rw [if_pos hs, if_pos hs]
        simp only [tape_Fill.j1, heraldref23_Fill.j1]
        exact (fill_both c (by omega) k).1 c.toNat _ [] (by simp; omega) (by omega)
      · rw [if_neg hs, if_neg hs]
        simp only [tape_Fill.j1, heraldref23_Fill.j1]
        exact (fill_both c (by omega) k).1 c.toNat _ [] (by simp; omega) (by omega)
end Go.Proofs.Ytljlpkadjngpoaa.Math
