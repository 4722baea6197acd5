/- The plain law of SingleScales. -/
import Derived.Test.YteecekhfpfnepaaPAllx13
import Derived.Test.YteecekhfpfnepaaSgAwake
namespace Go.Proofs.Yteecekhfpfnepaa.Pure
open Go.RowKit Go.Proofs.Yteecekhfpfnepaa.PAll Go.Proofs.Yteecekhfpfnepaa.Sg Go.Proofs.YteecekhfpfnepaaW.PrintWords Go.Proofs.YteecekhfpfnepaaW.PrintLast
set_option linter.unusedVariables false

theorem SingleScales : heraldlaw03_SingleScales.Pure := by
  intro a0 a1 w0 w1
  obtain ⟨h0, h1⟩ := wf_i8 w0
  refine ⟨80, ?_⟩
  unfold heraldlaw03_SingleScales.f single_Scaled.f heraldref03_Scaled.f
  have e : wrap64 a0 = a0 := wrap_in (by omega) (by omega)
  rw [awake_some 80 (by omega), e, near_some a0 _ (by omega) (by omega) 80 (by omega), refNear_some a0 _ (by omega) (by omega) 80 (by omega)]
  by_cases c1 : a1 < -64
  · simp [c1]
  · by_cases c2 : a1 > 64
    · simp [c1, c2]
    · simp [c1, c2]
end Go.Proofs.Yteecekhfpfnepaa.Pure
