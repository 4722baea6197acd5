/- For every number of bits and of bytes the law TapeCounts returns true: Draws answers as the document's reference does. Conditions: none but those of the given statement. -/
import Derived.Test.YtljlpkadjngpoaaPAllx2
namespace Go.Proofs.Ytljlpkadjngpoaa.Pure
open Go.RowKit Go.Proofs.Ytljlpkadjngpoaa.PAll Go.Proofs.YtljlpkadjngpoaaW.PrintWords Go.Proofs.YtljlpkadjngpoaaW.PrintLast Go.Proofs.YtljlpkadjngpoaaW.PrintMore
set_option linter.unusedVariables false
theorem TapeCounts : heraldlaw23_TapeCounts.Pure := by
  intro a b _ _
  have e : tape_Draws.f a b = heraldref23_Draws.f a b := by
    unfold tape_Draws.f heraldref23_Draws.f
    rw [isBits_some, may_some]
  have h : ∃ r, heraldref23_Draws.f a b = some r := by
    unfold heraldref23_Draws.f
    rw [may_some]
    simp only [Option.bind_some]
    by_cases c : IsBits a
    · rw [decide_eq_true c, if_pos rfl]
      have : a ≠ 0 := by unfold IsBits at c; omega
      rw [if_neg this]
      split
      · exact ⟨_, rfl⟩
      · split <;> exact ⟨_, rfl⟩
    · rw [decide_eq_false c, if_neg (by decide)]
      exact ⟨_, rfl⟩
  obtain ⟨r, hr⟩ := h
  unfold heraldlaw23_TapeCounts.f heraldlaw23_awake.f
  rw [e, hr]
  simp
end Go.Proofs.Ytljlpkadjngpoaa.Pure
