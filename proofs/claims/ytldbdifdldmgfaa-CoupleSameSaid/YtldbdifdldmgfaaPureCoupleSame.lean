/- For every two rows of numbers and every draw the law CoupleSame returns true: where both are the same every guess is kept; a token without weight never comes; Kept is the same the other way round; what is left sums to what is lost. Conditions: none but those of the given statement. -/
import Derived.Test.YtldbdifdldmgfaaEvD
import Derived.Test.YtldbdifdldmgfaaPAllx16
namespace Go.Proofs.Ytldbdifdldmgfaa.Pure
open Go.RowKit Go.Proofs.Ytldbdifdldmgfaa.PAll Go.Proofs.Ytldbdifdldmgfaa.Math Go.Proofs.YtldbdifdldmgfaaW.PrintWords Go.Proofs.YtldbdifdldmgfaaW.PrintLast Go.Proofs.YtldbdifdldmgfaaW.PrintMore
set_option linter.unusedVariables false
set_option linter.unusedSimpArgs false

theorem mn_self (a : Int) : mn a a = a := by rcases mn_or a a with e | e <;> exact e
theorem guess_of {p q : List Int} (g : Pair p q) (u : Int) (h0 : 0 ≤ u) (h1 : u < p.sum) (k : Nat) (hk : 600 < k) : couple_Guess.f k p q u = couple_Guess.g p q (findL q 0 u).1 (findL q 0 u).2 := by
  unfold couple_Guess.f
  rw [both_err p q k hk]
  simp only [Option.bind_some, errV_pair g, if_true]
  rw [if_neg (by omega)]
theorem same_sum {p q : List Int} (g : Pair p q) : ∀ (n i : Nat) (k : Nat), n = p.length - i → i ≤ p.length → n < k →
    heraldlaw24_CoupleSame.l0 k p p.sum ((minL p q).sum + pre (resL p q) i) (resL p q) (p.length : Int) (i : Int) = some true := by
  have h2 := g.wp.len2
  have hs := good_sum g.wp
  have hrl := resL_length p q g.len
  have hkl := kept_le g
  have hrs := res_sum g
  intro n
  induction n with
  | zero =>
    intro i k hn hi hk
    obtain ⟨k, rfl⟩ : ∃ m, k = m + 1 := ⟨k - 1, by omega⟩
    obtain rfl : i = p.length := by omega
    simp only [heraldlaw24_CoupleSame.l0]
    rw [if_neg (by omega), show pre (resL p q) p.length = (resL p q).sum from by rw [← hrl, pre_all], hrs]
    have : (minL p q).sum + (p.sum - (minL p q).sum) = p.sum := by omega
    rw [this]
    simp
  | succ n ih =>
    intro i k hn hi hk
    obtain ⟨k, rfl⟩ : ∃ m, k = m + 1 := ⟨k - 1, by omega⟩
    have a1 := res_range g i (by omega)
    have a2 := pre_succ (resL p q) i (by omega)
    have a3 := pre_le_sum (resL p q) (res_nn g) (i + 1) (by omega)
    have a4 := pre_nonneg (resL p q) (res_nn g) i (by omega)
    simp only [heraldlaw24_CoupleSame.l0]
    rw [if_pos (by omega), if_pos (by omega), if_pos (by omega), if_neg (by omega), if_pos (by omega), if_neg (by omega), wrap_in (a := (i : Int) + 1) (by omega) (by omega), Int.add_assoc, ← a2, wrap_in (by omega) (by omega)]
    exact ih (i + 1) k (by omega) (by omega) (by omega)

theorem CoupleSame : heraldlaw24_CoupleSame.Pure := by
  intro p q u hm hr _ hm2 hr2 _ _
  obtain ⟨k, hk⟩ : ∃ k, k = 3000 := ⟨_, rfl⟩
  refine ⟨k + 6, ?_⟩
  unfold heraldlaw24_CoupleSame.f
  rw [awake_some _ (by omega), sum_some p _ (by omega)]
  simp only [Option.bind_some, if_true]
  by_cases g : IsWts p
  rotate_left
  · rw [if_neg g, if_pos rfl]
    simp only [heraldlaw24_CoupleSame.j0, if_true]
  have hs := good_sum g
  rw [if_pos g, if_neg (by omega)]
  by_cases c0 : u < 0
  · rw [if_pos c0]
    simp only [heraldlaw24_CoupleSame.j0, if_true]
  rw [if_neg c0]
  by_cases c1 : u ≥ p.sum
  · simp only [decide_eq_true c1, heraldlaw24_CoupleSame.j0, if_true]
  simp only [decide_eq_false c1, heraldlaw24_CoupleSame.j0, Bool.false_eq_true, if_false]
  have gs := Pair.self g
  obtain ⟨x, r, hx, h3, h4, h5, hf, hc⟩ := guess_tells gs u (by omega) (by omega)
  have hG : couple_Guess.f (k + 5) p p u = some ((x : Int), (x : Int), true, 0) := by
    rw [guess_of gs u (by omega) (by omega) _ (by omega), hf]
    rcases hc with ⟨_, hg⟩ | ⟨c3, _⟩
    · exact hg
    · rw [mn_self] at c3; omega
  have hD : drawV p u = ((x : Int), 0) := by
    unfold drawV
    rw [if_pos g, if_neg (by omega), hf]
  rw [hG, cdraw_some p u _ (by omega), hD]
  simp only [Option.bind_some, if_true, beq_self_eq_true, Bool.not_true, Bool.or_false, heraldlaw24_CoupleSame.j1, Bool.false_eq_true, if_false]
  rw [sum_some q _ (by omega)]
  simp only [Option.bind_some]
  by_cases gq : IsWts q
  rotate_left
  · rw [if_neg gq, if_neg (by omega)]
    simp only [heraldlaw24_CoupleSame.j2, if_true]
  rw [if_pos gq]
  by_cases e1 : q.sum = p.sum
  rotate_left
  · rw [if_neg e1]
    simp only [heraldlaw24_CoupleSame.j2, if_true]
  rw [if_pos e1]
  by_cases e2 : (q.length : Int) = (p.length : Int)
  rotate_left
  · have : ((q.length : Int) != (p.length : Int)) = true := by simpa using e2
    simp only [this, heraldlaw24_CoupleSame.j2, if_true]
  simp only [e2, bne_self_eq_false, heraldlaw24_CoupleSame.j2, Bool.false_eq_true, if_false]
  have gp : Pair p q := ⟨g, gq, e1.symm, by omega⟩
  have fin : heraldlaw24_CoupleSame.j3 (k + 3) p q p.sum false = some true := by
    simp only [heraldlaw24_CoupleSame.j3, Bool.false_eq_true, if_false]
    rw [kept_some p q _ (by omega), kept_some q p _ (by omega), cleft_some p q _ (by omega)]
    simp only [Option.bind_some, errV_pair gp, errV_pair gp.symm, if_true, minL_comm q p]
    rw [resL_length p q gp.len]
    simp only [bne_self_eq_false, heraldlaw24_CoupleSame.j4, Bool.false_eq_true, if_false]
    have := same_sum gp p.length 0 (k + 1) (by omega) (by omega) (by have := g.len2; omega)
    rw [pre_zero, Int.add_zero] at this
    rw [resL_length p q gp.len]
    exact this
  obtain ⟨x, r, hx, h3, h4, h5, hf, hc⟩ := guess_tells gp u (by omega) (by omega)
  rw [guess_of gp u (by omega) (by omega) _ (by omega), hf]
  rcases hc with ⟨c3, hg⟩ | ⟨c3, he, y, s, g2, g3, g4, g5, g6, g7, hg⟩
  · have hm1 := mn_le (rd p (x : Int)) (rd q (x : Int))
    rw [hg]
    simp only [Option.bind_some, if_true]
    rw [if_neg (by omega), if_neg (by omega), if_neg (by omega), if_neg (by omega), if_pos (by omega), if_pos (by omega), if_neg (by omega), if_pos (by omega), if_pos (by omega)]
    rw [show ((rd q (x : Int)) == 0) = false from beq_eq_false_iff_ne.mpr (by omega)]
    exact fin
  · have hr1 := res_range gp y g2
    rw [hg]
    simp only [Option.bind_some, if_true]
    rw [if_neg (by omega), if_neg (by omega), if_neg (by omega), if_neg (by omega), if_pos (by omega), if_pos (by omega), if_neg (by omega), if_pos (by omega), if_pos (by omega)]
    rw [show ((rd q (x : Int)) == 0) = false from beq_eq_false_iff_ne.mpr (by omega)]
    exact fin
end Go.Proofs.Ytldbdifdldmgfaa.Pure
