/- For every row of numbers, every draw and every token the law CoupleDraws returns true: Check, Draw and Stretch answer as the document's reference does, and what was handed in stays. Conditions: none but those of the given statement. -/
import Derived.Test.YtldbdifdldmgfaaEvD
import Derived.Test.YtldbdifdldmgfaaPAllx15
namespace Go.Proofs.Ytldbdifdldmgfaa.Pure
open Go.RowKit Go.Proofs.Ytldbdifdldmgfaa.PAll Go.Proofs.Ytldbdifdldmgfaa.Math Go.Proofs.YtldbdifdldmgfaaW.PrintWords Go.Proofs.YtldbdifdldmgfaaW.PrintLast Go.Proofs.YtldbdifdldmgfaaW.PrintMore
set_option linter.unusedVariables false
set_option linter.unusedSimpArgs false

theorem CoupleDraws : heraldlaw24_CoupleDraws.Pure := by
  intro l u x hm hr _ _ _
  obtain ⟨k, hk⟩ : ∃ k, k = 2000 + l.length := ⟨_, rfl⟩
  refine ⟨k + 4, ?_⟩
  have fin : heraldlaw24_CoupleDraws.j0 (k + 4) l u x l false = some true := by
    simp only [heraldlaw24_CoupleDraws.j0, Bool.false_eq_true, if_false]
    rw [cdraw_some l u _ (by omega), rdraw_some l u _ (by omega)]
    simp only [Option.bind_some, if_true, bne_self_eq_false, heraldlaw24_CoupleDraws.j1, Bool.false_eq_true, if_false]
    rw [cstr_some l x (k + 1) (by omega), rstr_some l x (k + 1) (by omega)]
    simp only [Option.bind_some, if_true]
    rw [same_some l l hm _ (by omega)]
    simp
  unfold heraldlaw24_CoupleDraws.f
  rw [awake_some _ (by omega)]
  simp only [Option.bind_some, if_true, List.nil_append, List.length_nil, Nat.zero_add]
  rw [if_pos (by omega), check_some l _ (by omega), sum_some l _ (by omega)]
  simp only [Option.bind_some]
  by_cases g : IsWts l
  · have hs := good_sum g
    simp only [if_pos g, if_true]
    rw [if_neg (by simp; omega)]
    exact fin
  · simp only [if_neg g, if_true]
    exact fin
end Go.Proofs.Ytldbdifdldmgfaa.Pure
