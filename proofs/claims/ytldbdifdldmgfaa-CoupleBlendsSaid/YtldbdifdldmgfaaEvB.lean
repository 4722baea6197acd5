/- What the functions over two rows of weights come to. -/
import Derived.Test.YtldbdifdldmgfaaEvA
import Derived.Test.YtldbdifdldmgfaaPAllx6
import Derived.Test.YtldbdifdldmgfaaPAllx12
import Derived.Test.YtldbdifdldmgfaaPAllx10
namespace Go.Proofs.Ytldbdifdldmgfaa.Math
open Go.RowKit Go.Proofs.Ytldbdifdldmgfaa.PAll Go.Proofs.YtldbdifdldmgfaaW.PrintWords Go.Proofs.YtldbdifdldmgfaaW.PrintLast Go.Proofs.YtldbdifdldmgfaaW.PrintMore
set_option linter.unusedVariables false
set_option linter.unusedSimpArgs false

def minL (p q : List Int) : List Int := List.zipWith mn p q
theorem mn_le (a b : Int) : mn a b ≤ a ∧ mn a b ≤ b := by unfold mn; split <;> omega
theorem mn_or (a b : Int) : mn a b = a ∨ mn a b = b := by unfold mn; split <;> simp
theorem mn_comm (a b : Int) : mn a b = mn b a := by unfold mn; split <;> split <;> omega
theorem less_some (a b : Int) : heraldref24_less.f a b = some (mn a b) := by
  unfold heraldref24_less.f mn
  by_cases h : a < b
  · rw [if_pos h, if_neg (by omega)]
  · rw [if_neg h]
    by_cases h2 : b < a
    · rw [if_pos h2]
    · rw [if_neg h2, show a = b from by omega]
theorem minL_length (p q : List Int) (h : p.length = q.length) : (minL p q).length = p.length := by simp [minL, h]
theorem minL_rd (p q : List Int) (h : p.length = q.length) (x : Nat) (hx : x < p.length) : rd (minL p q) (x : Int) = mn (rd p (x : Int)) (rd q (x : Int)) := by
  have h1 : x < q.length := by omega
  simp [minL, rd, List.getD_eq_getElem?_getD, List.getElem?_zipWith, hx, h1]
theorem minL_comm (p q : List Int) : minL p q = minL q p := by
  unfold minL
  rw [List.zipWith_comm]
  congr 1
  funext a b
  exact mn_comm b a
theorem pre_lin (a b c : List Int) : ∀ n : Nat, n ≤ a.length → n ≤ b.length → n ≤ c.length → (∀ x : Nat, x < n → rd a (x : Int) = rd b (x : Int) + rd c (x : Int)) → pre a n = pre b n + pre c n
  | 0, _, _, _, _ => by simp [pre]
  | n + 1, ha, hb, hc, h => by
    rw [pre_succ a n (by omega), pre_succ b n (by omega), pre_succ c n (by omega), pre_lin a b c n (by omega) (by omega) (by omega) (fun x hx => h x (by omega)), h n (by omega)]
    omega
theorem pre_le_pre (a b : List Int) : ∀ n : Nat, n ≤ a.length → n ≤ b.length → (∀ x : Nat, x < n → rd a (x : Int) ≤ rd b (x : Int)) → pre a n ≤ pre b n
  | 0, _, _, _ => by simp [pre]
  | n + 1, ha, hb, h => by
    rw [pre_succ a n (by omega), pre_succ b n (by omega)]
    have h1 := pre_le_pre a b n (by omega) (by omega) (fun x hx => h x (by omega))
    have h2 := h n (by omega)
    omega

/-- Two rows of weights, of one length and one sum. -/
structure Pair (p q : List Int) : Prop where
  wp : IsWts p
  wq : IsWts q
  same : p.sum = q.sum
  len : p.length = q.length
def errV (p q : List Int) : Int := if IsWts p ∧ IsWts q then (if p.sum = q.sum ∧ p.length = q.length then 0 else 242) else 240
theorem errV_pair {p q : List Int} (h : Pair p q) : errV p q = 0 := by unfold errV; rw [if_pos ⟨h.wp, h.wq⟩, if_pos ⟨h.same, h.len⟩]
theorem errV_no {p q : List Int} (h : ¬ Pair p q) : errV p q ≠ 0 := by
  unfold errV
  by_cases c : IsWts p ∧ IsWts q
  · rw [if_pos c, if_neg (fun z => h ⟨c.1, c.2, z.1, z.2⟩)]; decide
  · rw [if_neg c]; decide
theorem Pair.symm {p q : List Int} (h : Pair p q) : Pair q p := ⟨h.wq, h.wp, h.same.symm, h.len.symm⟩
theorem Pair.self {p : List Int} (h : IsWts p) : Pair p p := ⟨h, h, rfl, rfl⟩
theorem both_err (p q : List Int) (k : Nat) (hk : 600 < k) : couple_both.f k p q = some (if errV p q = 0 then (p.sum, 0) else (0, errV p q)) := by
  rw [both_some p q k hk]
  congr 1
  unfold errV
  by_cases c : IsWts p ∧ IsWts q
  · rw [if_pos c]
    simp only [if_pos c]
    by_cases d : p.sum = q.sum ∧ p.length = q.length
    · simp only [if_pos d, if_true]
    · simp only [if_neg d]; rfl
  · rw [if_neg c]
    simp only [if_neg c]
    rfl
theorem together_some (p q : List Int) (k : Nat) (hk : 600 < k) : heraldref24_together.f (k + 1) p q = some (errV p q) := by
  unfold heraldref24_together.f errV
  rw [sum_some p _ (by omega)]
  simp only [Option.bind_some]
  by_cases hp : IsWts p
  · have h1 := good_sum hp
    simp only [if_pos hp]
    rw [if_neg (by omega), sum_some q _ (by omega)]
    simp only [Option.bind_some, heraldref24_together.j0]
    by_cases hq : IsWts q
    · have h2 := good_sum hq
      simp only [if_pos hq, if_pos (And.intro hp hq)]
      rw [if_neg (by simp; omega)]
      by_cases e2 : (p.length : Int) = (q.length : Int)
      · rw [if_pos e2, sum_some p k hk, sum_some q k hk, if_pos hp, if_pos hq]
        simp only [Option.bind_some]
        by_cases e1 : p.sum = q.sum
        · rw [if_pos e1, if_pos ⟨e1, by omega⟩]
        · rw [if_neg e1, if_neg (fun z => e1 z.1)]
      · rw [if_neg e2, if_neg (fun z => e2 (by omega))]
    · simp only [if_neg hq, if_neg (show ¬ (IsWts p ∧ IsWts q) from fun h => hq h.2)]
      rfl
  · simp only [if_neg hp, if_neg (show ¬ (IsWts p ∧ IsWts q) from fun h => hp h.1), heraldref24_together.j0]
    rfl

section
variable {p q : List Int} (h : Pair p q)
include h
theorem minL_nn : ∀ x ∈ minL p q, 0 ≤ x := by
  intro x hx
  obtain ⟨i, hi, rfl⟩ := List.getElem_of_mem hx
  have hi' : i < p.length := by rwa [minL_length p q h.len] at hi
  rw [← rd_at _ i hi, minL_rd p q h.len i hi']
  have h1 := good_rd h.wp i hi'
  have h2 := good_rd h.wq i (by rw [← h.len]; exact hi')
  rcases mn_or (rd p (i : Int)) (rd q (i : Int)) with e | e <;> omega
theorem pre_min_le (i : Nat) (hi : i ≤ p.length) : 0 ≤ pre (minL p q) i ∧ pre (minL p q) i ≤ pre p i ∧ pre (minL p q) i ≤ pre q i := by
  have hl := minL_length p q h.len
  have hlen := h.len
  refine ⟨pre_nonneg _ (minL_nn h) i (by omega), pre_le_pre _ _ i (by omega) hi (fun x hx => ?_), pre_le_pre _ _ i (by omega) (by omega) (fun x hx => ?_)⟩
  · rw [minL_rd p q h.len x (by omega)]; exact (mn_le _ _).1
  · rw [minL_rd p q h.len x (by omega)]; exact (mn_le _ _).2
theorem kept_le : 0 ≤ (minL p q).sum ∧ (minL p q).sum ≤ p.sum := by
  have h1 := pre_min_le h p.length (Nat.le_refl _)
  rw [pre_all, show p.length = (minL p q).length from (minL_length p q h.len).symm, pre_all] at h1
  omega
theorem res_rd (x : Nat) (hx : x < p.length) : rd (resL p q) (x : Int) = rd p (x : Int) - mn (rd p (x : Int)) (rd q (x : Int)) := by
  have h1 := good_rd h.wp x hx
  have h2 := good_rd h.wq x (by rw [← h.len]; exact hx)
  rw [resL_rd p q h.len x hx]
  rcases mn_or (rd p (x : Int)) (rd q (x : Int)) with e | e <;> rw [wrap_in (by omega) (by omega)]
theorem res_range (x : Nat) (hx : x < p.length) : 0 ≤ rd (resL p q) (x : Int) ∧ rd (resL p q) (x : Int) ≤ rd p (x : Int) := by
  have h0 := good_rd h.wp x hx
  have h2 := good_rd h.wq x (by rw [← h.len]; exact hx)
  have h1 := mn_le (rd p (x : Int)) (rd q (x : Int))
  rw [res_rd h x hx]
  rcases mn_or (rd p (x : Int)) (rd q (x : Int)) with e | e <;> omega
theorem res_nn : ∀ x ∈ resL p q, 0 ≤ x := by
  intro x hx
  obtain ⟨i, hi, rfl⟩ := List.getElem_of_mem hx
  have hi' : i < p.length := by rwa [resL_length p q h.len] at hi
  rw [← rd_at _ i hi]
  exact (res_range h i hi').1
theorem pre_res (i : Nat) (hi : i ≤ p.length) : pre p i = pre (resL p q) i + pre (minL p q) i := by
  have h1 := minL_length p q h.len
  have h2 := resL_length p q h.len
  refine pre_lin _ _ _ i hi (by omega) (by omega) fun x hx => ?_
  rw [res_rd h x (by omega), minL_rd p q h.len x (by omega)]
  omega
theorem res_sum : (resL p q).sum = p.sum - (minL p q).sum := by
  have := pre_res h p.length (Nat.le_refl _)
  rw [pre_all, show pre (resL p q) p.length = (resL p q).sum from by rw [← resL_length p q h.len, pre_all], show pre (minL p q) p.length = (minL p q).sum from by rw [← minL_length p q h.len, pre_all]] at this
  omega

theorem kept_loop : ∀ (n i : Nat) (k : Nat), n = p.length - i → i ≤ p.length → n < k →
    couple_Kept.l0 k q (pre (minL p q) i) p (p.length : Int) (i : Int) = some ((minL p q).sum, 0) := by
  have hl := h.len
  have hml := minL_length p q h.len
  have hs := good_sum h.wp
  intro n
  induction n with
  | zero =>
    intro i k hn hi hk
    obtain ⟨k, rfl⟩ : ∃ m, k = m + 1 := ⟨k - 1, by omega⟩
    obtain rfl : i = p.length := by omega
    simp only [couple_Kept.l0]
    rw [if_neg (by omega), ← hml, pre_all]
  | succ n ih =>
    intro i k hn hi hk
    obtain ⟨k, rfl⟩ : ∃ m, k = m + 1 := ⟨k - 1, by omega⟩
    have hlt : i < p.length := by omega
    have h2 := h.wp.len2
    have hb := pre_min_le h (i + 1) (by omega)
    have hb2 := pre_le_sum p (good_nn h.wp) (i + 1) (by omega)
    have hp := pre_succ (minL p q) i (by omega)
    simp only [couple_Kept.l0]
    rw [if_pos (by omega), if_pos (by omega), if_pos (by omega), if_pos (by omega), ← minL_rd p q h.len i hlt, ← hp, wrap_in (by omega) (by omega), wrap_in (by omega) (by omega)]
    exact ih (i + 1) k (by omega) (by omega) (by omega)
theorem refkept_loop : ∀ (n i : Nat) (k : Nat), n = p.length - i → i ≤ p.length → n < k →
    heraldref24_Kept.l0 k p q (pre (minL p q) i) (p.length : Int) (i : Int) = some ((minL p q).sum, 0) := by
  have hl := h.len
  have hml := minL_length p q h.len
  have hs := good_sum h.wp
  intro n
  induction n with
  | zero =>
    intro i k hn hi hk
    obtain ⟨k, rfl⟩ : ∃ m, k = m + 1 := ⟨k - 1, by omega⟩
    obtain rfl : i = p.length := by omega
    simp only [heraldref24_Kept.l0]
    rw [if_neg (by omega), ← hml, pre_all]
  | succ n ih =>
    intro i k hn hi hk
    obtain ⟨k, rfl⟩ : ∃ m, k = m + 1 := ⟨k - 1, by omega⟩
    have hlt : i < p.length := by omega
    have h2 := h.wp.len2
    have hb := pre_min_le h (i + 1) (by omega)
    have hb2 := pre_le_sum p (good_nn h.wp) (i + 1) (by omega)
    have hp := pre_succ (minL p q) i (by omega)
    simp only [heraldref24_Kept.l0]
    rw [if_pos (by omega), if_pos (by omega), if_pos (by omega), if_pos (by omega), less_some]
    simp only [Option.bind_some]
    rw [← minL_rd p q h.len i hlt, ← hp, wrap_in (by omega) (by omega), wrap_in (by omega) (by omega)]
    exact ih (i + 1) k (by omega) (by omega) (by omega)
end
theorem kept_some (p q : List Int) (k : Nat) (hk : 600 < k) : couple_Kept.f k p q = some (if errV p q = 0 then ((minL p q).sum, 0) else (0, errV p q)) := by
  unfold couple_Kept.f
  rw [both_err p q k hk]
  simp only [Option.bind_some]
  by_cases g : Pair p q
  · simp only [errV_pair g, if_true]
    have := kept_loop g p.length 0 k (by omega) (by omega) (by have := g.wp.len2; omega)
    rwa [pre_zero] at this
  · have e := errV_no g
    simp only [e, if_false]
theorem refkept_some (p q : List Int) (k : Nat) (hk : 600 < k) : heraldref24_Kept.f (k + 1) p q = some (if errV p q = 0 then ((minL p q).sum, 0) else (0, errV p q)) := by
  unfold heraldref24_Kept.f
  rw [together_some p q k hk]
  simp only [Option.bind_some]
  by_cases g : Pair p q
  · simp only [errV_pair g, if_true]
    have := refkept_loop g p.length 0 (k + 1) (by omega) (by omega) (by have := g.wp.len2; omega)
    rwa [pre_zero] at this
  · have e := errV_no g
    simp only [e, if_false]
end Go.Proofs.Ytldbdifdldmgfaa.Math
