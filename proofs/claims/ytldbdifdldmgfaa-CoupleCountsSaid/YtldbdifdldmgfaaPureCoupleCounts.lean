/- For every row of numbers the law CoupleCounts returns true: each token comes of just as many draws as it weighs (sums to 65536), counted one by one. Conditions: none but those of the given statement. -/
import Derived.Test.YtldbdifdldmgfaaEvA
import Derived.Test.YtldbdifdldmgfaaPAllx9
namespace Go.Proofs.Ytldbdifdldmgfaa.Pure
open Go.RowKit Go.Proofs.Ytldbdifdldmgfaa.PAll Go.Proofs.Ytldbdifdldmgfaa.Math Go.Proofs.YtldbdifdldmgfaaW.PrintWords Go.Proofs.YtldbdifdldmgfaaW.PrintLast
set_option linter.unusedVariables false
set_option linter.unusedSimpArgs false

theorem draw_some (l : List Int) (h : IsWts l) (u : Int) (h0 : 0 ≤ u) (h1 : u < l.sum) (k : Nat) (hk : 600 < k) :
    ∃ (y : Nat) (r : Int), couple_Draw.f k l u = some ((y : Int), 0) ∧ y < l.length ∧ 0 ≤ r ∧ r < rd l (y : Int) ∧ u = pre l y + r := by
  obtain ⟨y, r, hy, h2, h3, h4, h5⟩ := findL_tells l (good_nn h) (good_sum h).2 u h0 h1
  refine ⟨y, r, ?_, h2, h3, h4, h5⟩
  unfold couple_Draw.f
  rw [check_some l k hk, if_pos h]
  simp only [Option.bind_some, if_true]
  rw [if_neg (by omega), hy]

theorem counted_loop (l : List Int) (h : IsWts l) (hs : l.sum ≤ 65536) : ∀ (n : Nat) (u : Int) (k : Nat), (n : Int) = l.sum - u → 0 ≤ u → n + 600 < k →
    heraldlaw24_counted.l0 k l (cnt l u) l.sum u = some (l, true) := by
  intro n
  induction n with
  | zero =>
    intro u k hn h0 hk
    obtain ⟨k, rfl⟩ : ∃ m, k = m + 1 := ⟨k - 1, by omega⟩
    obtain rfl : u = l.sum := by omega
    simp only [heraldlaw24_counted.l0]
    rw [if_neg (by omega), cnt_all l (good_nn h)]
  | succ n ih =>
    intro u k hn h0 hk
    obtain ⟨k, rfl⟩ : ∃ m, k = m + 1 := ⟨k - 1, by omega⟩
    obtain ⟨y, r, hy, h2, h3, h4, h5⟩ := draw_some l h u h0 (by omega) k (by omega)
    have hc := cnt_range l (good_nn h) u h0 y h2
    have hg := good_rd h y h2
    simp only [heraldlaw24_counted.l0]
    rw [if_pos (by omega), hy]
    simp only [Option.bind_some, if_true]
    rw [if_neg (by omega), if_neg (by omega), if_pos (by omega), cnt_length, if_pos (by omega), wrap_in (by omega) (by omega), wrap_in (by omega) (by omega), Int.toNat_natCast, ← cnt_step l (good_nn h) u r y h2 h3 h4 h5]
    exact ih (u + 1) k (by omega) (by omega) (by omega)

theorem CoupleCounts : heraldlaw24_CoupleCounts.Pure := by
  intro l hm _ _
  refine ⟨70000 + l.length, ?_⟩
  unfold heraldlaw24_CoupleCounts.f
  rw [awake_some _ (by omega), sum_some l _ (by omega)]
  simp only [Option.bind_some, if_true]
  obtain ⟨k, hk⟩ : ∃ m, 70000 + l.length = m + 1 := ⟨69999 + l.length, by omega⟩
  rw [hk]
  by_cases g : IsWts l
  · rw [if_pos g]
    have hs := good_sum g
    rw [if_neg (by omega)]
    simp only [heraldlaw24_CoupleCounts.j0]
    by_cases c : l.sum > 65536
    · rw [if_pos (by simpa using c)]
    · rw [if_neg (by simpa using c)]
      have h1 : heraldlaw24_counted.f k l l.sum = some (l, true) := by
        unfold heraldlaw24_counted.f
        have := g.len2
        rw [if_pos (by omega), if_pos (by omega), Int.toNat_natCast, ← cnt_zero l (good_nn g)]
        obtain ⟨n, hn⟩ := Int.eq_ofNat_of_zero_le (show 0 ≤ l.sum by omega)
        exact counted_loop l g (by omega) n 0 k (by omega) (by omega) (by omega)
      rw [h1]
      simp only [Option.bind_some, if_true]
      rw [same_some l l hm k (by omega)]
      simp
  · rw [if_neg g, if_pos rfl]
    simp only [heraldlaw24_CoupleCounts.j0, if_true]

end Go.Proofs.Ytldbdifdldmgfaa.Pure
