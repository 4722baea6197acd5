/- The plain law of SingleCompares. -/
import Derived.Test.YteecekhfpfnepaaPAllx15
import Derived.Test.YteecekhfpfnepaaSgAwake
import Derived.Test.YteecekhfpfnepaaSgCompare
namespace Go.Proofs.Yteecekhfpfnepaa.Pure
open Go.RowKit Go.Proofs.Yteecekhfpfnepaa.PAll Go.Proofs.Yteecekhfpfnepaa.Sg Go.Proofs.YteecekhfpfnepaaW.PrintWords Go.Proofs.YteecekhfpfnepaaW.PrintLast
set_option linter.unusedVariables false

theorem SingleCompares : heraldlaw03_SingleCompares.Pure := by
  intro a0 a1 w0 w1
  obtain ⟨h0, h1⟩ := wf_u32 w0
  obtain ⟨g0, g1⟩ := wf_u32 w1
  refine ⟨140, ?_⟩
  unfold heraldlaw03_SingleCompares.f
  rw [awake_some 140 (by omega), refCompare_some a0 a1 h0 (by omega) g0 (by omega) 140 (by omega)]
  unfold single_Compare.f
  simp
end Go.Proofs.Yteecekhfpfnepaa.Pure
