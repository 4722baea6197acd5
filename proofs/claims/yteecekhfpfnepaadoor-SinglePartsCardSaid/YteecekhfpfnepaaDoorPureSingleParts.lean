/- The plain law of SingleParts. -/
import Derived.Test.YteecekhfpfnepaaDoorPAllx5
import Derived.Test.YteecekhfpfnepaaDoorSgAwake
import Derived.Test.YteecekhfpfnepaaDoorSgParts
namespace Go.Proofs.YteecekhfpfnepaaDoor.Pure
open Go.RowKit Go.Proofs.YteecekhfpfnepaaDoor.PAll Go.Proofs.YteecekhfpfnepaaDoor.Sg Go.Proofs.YteecekhfpfnepaaDoorW.PrintWords Go.Proofs.YteecekhfpfnepaaDoorW.PrintLast
set_option linter.unusedVariables false

theorem SingleParts : heraldlaw03_SingleParts.Pure := by
  intro a0 w0
  obtain ⟨h0, h1⟩ := wf_u32 w0
  refine ⟨100, ?_⟩
  unfold heraldlaw03_SingleParts.f
  rw [awake_some 100 (by omega), parts_some a0 h0 (by omega), refparts_some a0 h0 (by omega) 100 (by omega)]
  simp
end Go.Proofs.YteecekhfpfnepaaDoor.Pure
