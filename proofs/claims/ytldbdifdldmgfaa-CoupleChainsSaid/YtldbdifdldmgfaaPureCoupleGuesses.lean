/- For every two rows of numbers and every draw the law CoupleGuesses returns true: Guess, Kept and Left answer as the document's reference does, and what was handed in stays. Conditions: none but those of the given statement. -/
import Derived.Test.YtldbdifdldmgfaaEvC
import Derived.Test.YtldbdifdldmgfaaPAllx13
namespace Go.Proofs.Ytldbdifdldmgfaa.Pure
open Go.RowKit Go.Proofs.Ytldbdifdldmgfaa.PAll Go.Proofs.Ytldbdifdldmgfaa.Math Go.Proofs.YtldbdifdldmgfaaW.PrintWords Go.Proofs.YtldbdifdldmgfaaW.PrintLast Go.Proofs.YtldbdifdldmgfaaW.PrintMore
set_option linter.unusedVariables false
set_option linter.unusedSimpArgs false

theorem guess_loop {p q : List Int} (h : Pair p q) (x : Nat) (hx : x < p.length) (a : Int) (y : Nat) (s : Int)
    (hp : ∀ k, 600 < k → heraldref24_place.f k (resL p q) (lostTo p q x a) = some ((y : Int), s)) : ∀ (n i : Nat) (k : Nat), n = x - i → i ≤ x → n + 601 < k →
    heraldref24_Guess.l0 k p q (x : Int) (lostTo p q i a) (i : Int) = some ((x : Int), (y : Int), false, 0) := by
  have hl := h.len
  have h2 := h.wp.len2
  intro n
  induction n with
  | zero =>
    intro i k hn hi hk
    obtain ⟨k, rfl⟩ : ∃ m, k = m + 1 := ⟨k - 1, by omega⟩
    obtain rfl : i = x := by omega
    simp only [heraldref24_Guess.l0]
    rw [if_neg (by omega), left_some h k (by omega)]
    simp only [Option.bind_some]
    rw [hp k (by omega)]
    rfl
  | succ n ih =>
    intro i k hn hi hk
    obtain ⟨k, rfl⟩ : ∃ m, k = m + 1 := ⟨k - 1, by omega⟩
    simp only [heraldref24_Guess.l0]
    rw [if_pos (by omega), if_pos (by omega), if_pos (by omega), if_pos (by omega), less_some]
    simp only [Option.bind_some]
    rw [wrap_in (a := (i : Int) + 1) (by omega) (by omega)]
    exact ih (i + 1) k (by omega) (by omega) (by omega)

theorem guess_both (p q : List Int) (u : Int) (k : Nat) (hk : 1300 < k) : ∃ x y b e, couple_Guess.f k p q u = some (x, y, b, e) ∧ heraldref24_Guess.f (k + 1) p q u = some (x, y, b, e) := by
  unfold couple_Guess.f heraldref24_Guess.f
  rw [both_err p q k (by omega), together_some p q k (by omega)]
  simp only [Option.bind_some]
  by_cases g : Pair p q
  · have hs := good_sum g.wp
    simp only [errV_pair g, if_true]
    by_cases c : u < 0
    · rw [if_pos (Or.inl c), if_pos c]
      exact ⟨_, _, _, _, rfl, by simp only [heraldref24_Guess.j0, if_true]⟩
    · rw [if_neg c, sum_some p _ (by omega), if_pos g.wp]
      simp only [Option.bind_some, heraldref24_Guess.j0]
      by_cases c2 : u ≥ p.sum
      · rw [if_pos (Or.inr c2), if_pos (by simpa using c2)]
        exact ⟨_, _, _, _, rfl, rfl⟩
      · rw [if_neg (by omega), if_neg (by simpa using c2)]
        obtain ⟨x, r, hx, h3, h4, h5, hf, hc⟩ := guess_tells g u (by omega) (by omega)
        have hl := g.len
        rw [place_some q (good_nn g.wq) (good_sum g.wq).2 g.wq.len2 u (by omega) (by have := g.same; omega) k (by omega), hf]
        simp only [Option.bind_some]
        rw [if_pos (by omega), if_pos (by omega), if_pos (by omega), less_some]
        simp only [Option.bind_some]
        rcases hc with ⟨c3, hg⟩ | ⟨c3, he, y, s, g2, g3, g4, g5, g6, g7, hg⟩
        · rw [if_pos c3, hg]
          exact ⟨_, _, _, _, rfl, rfl⟩
        · rw [if_neg (by omega), hg]
          refine ⟨_, _, _, _, rfl, ?_⟩
          have hrl := resL_length p q g.len
          have := guess_loop g x hx (wrap64 (r - rd p (x : Int))) y s (fun k hk => by
            rw [g6, place_some (resL p q) (res_nn g) (by have := res_sum g; have := kept_le g; omega) (by rw [hrl]; exact g.wp.len2) _ ?_ ?_ k hk, g7]
            · rw [g5]; have := pre_nonneg (resL p q) (res_nn g) y (by omega); omega
            · rw [g5]
              have := pre_le_sum (resL p q) (res_nn g) (y + 1) (by omega)
              have := pre_succ (resL p q) y (by omega)
              omega) x 0 k (by omega) (by omega) (by have := g.wp.len2; omega)
          rw [he]
          exact this
  · have e := errV_no g
    simp only [e, if_false]
    exact ⟨_, _, _, _, rfl, rfl⟩

theorem CoupleGuesses : heraldlaw24_CoupleGuesses.Pure := by
  intro p q u hm hr _ hm2 hr2 _ _
  obtain ⟨k, hk⟩ : ∃ k, k = 2000 + p.length + q.length := ⟨_, rfl⟩
  refine ⟨k + 4, ?_⟩
  obtain ⟨x, y, b, e, h1, h2⟩ := guess_both p q u (k + 3) (by omega)
  have h1' : couple_Guess.f (k + 4) p q u = some (x, y, b, e) := by
    have := couple_Guess.mono p q u (k + 3) _ h1
    exact this
  unfold heraldlaw24_CoupleGuesses.f
  rw [awake_some _ (by omega)]
  simp only [Option.bind_some, if_true, List.nil_append, List.length_nil, Nat.zero_add]
  rw [if_pos (by omega), if_pos (by omega), h1']
  simp only [Option.bind_some]
  rw [h2]
  simp only [Option.bind_some, beq_self_eq_true, Bool.not_true, Bool.or_false, Bool.false_eq_true, if_false, bne_self_eq_false, heraldlaw24_CoupleGuesses.j0]
  rw [kept_some p q _ (by omega), refkept_some p q (k + 2) (by omega)]
  simp only [Option.bind_some, if_true, bne_self_eq_false, heraldlaw24_CoupleGuesses.j1, Bool.false_eq_true, if_false]
  rw [cleft_some p q _ (by omega), rleft_some p q (k + 1) (by omega)]
  simp only [Option.bind_some]
  have hres : (if errV p q = 0 then (resL p q, (0 : Int)) else ([], errV p q)).1.length ≤ p.length := by
    split
    · simp [resL]; omega
    · simp
  rw [same_some _ _ (by omega) _ (by omega)]
  simp only [Option.bind_some, decide_true, if_true]
  rw [same_some p p hm _ (by omega)]
  simp only [Option.bind_some, decide_true, if_true]
  rw [same_some q q hm2 _ (by omega)]
  simp
end Go.Proofs.Ytldbdifdldmgfaa.Pure
