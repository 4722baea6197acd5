/- The plain law of SingleNear. -/
import Derived.Test.YteecekhfpfnepaaPAllx5
import Derived.Test.YteecekhfpfnepaaSgAwake
namespace Go.Proofs.Yteecekhfpfnepaa.Pure
open Go.RowKit Go.Proofs.Yteecekhfpfnepaa.PAll Go.Proofs.Yteecekhfpfnepaa.Sg Go.Proofs.YteecekhfpfnepaaW.PrintWords Go.Proofs.YteecekhfpfnepaaW.PrintLast
set_option linter.unusedVariables false

theorem SingleNear : heraldlaw03_SingleNear.Pure := by
  intro a0 a1 w0 w1
  obtain ⟨h0, h1⟩ := wf_i64 w0
  refine ⟨80, ?_⟩
  unfold heraldlaw03_SingleNear.f
  rw [awake_some 80 (by omega)]
  simp only [Option.bind_some, if_true]
  rw [near_some a0 a1 h0 h1 80 (by omega), refNear_some a0 a1 h0 h1 80 (by omega)]
  simp
end Go.Proofs.Yteecekhfpfnepaa.Pure
