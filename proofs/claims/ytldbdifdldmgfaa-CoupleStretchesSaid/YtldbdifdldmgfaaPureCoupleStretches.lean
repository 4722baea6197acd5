/- For every row of numbers and every draw the law CoupleStretches returns true: the stretches of all tokens are all draws, one behind the other, and a draw's token is the one in whose stretch it lies. Conditions: none but those of the given statement. -/
import Derived.Test.YtldbdifdldmgfaaEvD
import Derived.Test.YtldbdifdldmgfaaPAllx15
namespace Go.Proofs.Ytldbdifdldmgfaa.Pure
open Go.RowKit Go.Proofs.Ytldbdifdldmgfaa.PAll Go.Proofs.Ytldbdifdldmgfaa.Math Go.Proofs.YtldbdifdldmgfaaW.PrintWords Go.Proofs.YtldbdifdldmgfaaW.PrintLast Go.Proofs.YtldbdifdldmgfaaW.PrintMore
set_option linter.unusedVariables false
set_option linter.unusedSimpArgs false

/-- The token of a draw is the one in whose stretch it lies. -/
theorem draw_in (l : List Int) (g : IsWts l) (u : Int) (x : Nat) (hx : x < l.length) (h0 : pre l x ≤ u) (h1 : u < pre l x + rd l (x : Int)) : drawV l u = ((x : Int), 0) := by
  have a1 := pre_succ l x hx
  have a2 := pre_le_sum l (good_nn g) (x + 1) (by omega)
  have a3 := pre_nonneg l (good_nn g) x (by omega)
  unfold drawV
  rw [if_pos g, if_neg (by omega)]
  obtain ⟨y, r, hy, h2, h3, h4, h5⟩ := findL_tells l (good_nn g) (good_sum g).2 u (by omega) (by omega)
  rw [hy]
  have b1 := pre_succ l y h2
  rcases Nat.lt_trichotomy x y with c | c | c
  · have := pre_le l (good_nn g) (show x + 1 ≤ y by omega) (by omega); omega
  · rw [c]
  · have := pre_le l (good_nn g) (show y + 1 ≤ x by omega) (by omega); omega

theorem str_loop (l : List Int) (g : IsWts l) (u : Int) : ∀ (n i : Nat) (k : Nat), n = l.length - i → i ≤ l.length → 3 * n + 610 < k →
    heraldlaw24_CoupleStretches.l0 k l u l.sum (pre l i) (l.length : Int) (i : Int) = some true := by
  have h2 := g.len2
  have hs := good_sum g
  intro n
  induction n with
  | zero =>
    intro i k hn hi hk
    obtain ⟨k, rfl⟩ : ∃ m, k = m + 1 := ⟨k - 1, by omega⟩
    obtain rfl : i = l.length := by omega
    simp only [heraldlaw24_CoupleStretches.l0]
    rw [if_neg (by omega), pre_all]
    simp
  | succ n ih =>
    intro i k hn hi hk
    obtain ⟨k, rfl⟩ : ∃ m, k = m + 3 := ⟨k - 3, by omega⟩
    have a1 := pre_succ l i (by omega)
    have a2 := pre_le_sum l (good_nn g) (i + 1) (by omega)
    have a3 := pre_nonneg l (good_nn g) i (by omega)
    have a4 := good_rd g i (by omega)
    simp only [heraldlaw24_CoupleStretches.l0]
    rw [if_pos (by omega), cstr_some l (i : Int) (k + 1) (by omega)]
    simp only [Option.bind_some]
    have hv : strV l (i : Int) = (pre l i, pre l i + rd l (i : Int), 0) := by
      unfold strV
      rw [if_pos g, if_neg (by omega), Int.toNat_natCast]
    rw [hv]
    simp only [if_true]
    rw [if_pos (by omega), if_pos (by omega), show pre l i + rd l (i : Int) - pre l i = rd l (i : Int) from by omega, wrap_in (by omega) (by omega)]
    simp only [bne_self_eq_false, heraldlaw24_CoupleStretches.j1, Bool.false_eq_true, if_false]
    have fin : heraldlaw24_CoupleStretches.l0 k l u l.sum (pre l i + rd l (i : Int)) (l.length : Int) (wrap64 ((i : Int) + 1)) = some true := by
      rw [← a1, wrap_in (by omega) (by omega)]
      exact ih (i + 1) k (by omega) (by omega) (by omega)
    by_cases c1 : pre l i ≤ u
    · rw [if_pos c1]
      by_cases c2 : u < pre l i + rd l (i : Int)
      · simp only [heraldlaw24_CoupleStretches.j2, decide_eq_true c2, if_true]
        rw [cdraw_some l u k (by omega), draw_in l g u i (by omega) c1 c2]
        simp only [Option.bind_some, if_true]
        exact fin
      · simp only [heraldlaw24_CoupleStretches.j2, decide_eq_false c2, Bool.false_eq_true, if_false]
        exact fin
    · rw [if_neg c1]
      simp only [heraldlaw24_CoupleStretches.j2, Bool.false_eq_true, if_false]
      exact fin

theorem CoupleStretches : heraldlaw24_CoupleStretches.Pure := by
  intro l u hm hr _ _
  refine ⟨3000, ?_⟩
  unfold heraldlaw24_CoupleStretches.f
  rw [awake_some _ (by omega), sum_some l _ (by omega)]
  simp only [Option.bind_some, if_true]
  by_cases g : IsWts l
  · have hs := good_sum g
    rw [if_pos g, if_neg (by omega)]
    have := str_loop l g u l.length 0 3000 (by omega) (by omega) (by have := g.len2; omega)
    rwa [pre_zero] at this
  · rw [if_neg g, if_pos rfl]
end Go.Proofs.Ytldbdifdldmgfaa.Pure
