/- The plain law of SingleAdds. -/
import Derived.Test.YteecekhfpfnepaaPAllx8
import Derived.Test.YteecekhfpfnepaaSgAwake
import Derived.Test.YteecekhfpfnepaaSgAdds
namespace Go.Proofs.Yteecekhfpfnepaa.Pure
open Go.RowKit Go.Proofs.Yteecekhfpfnepaa.PAll Go.Proofs.Yteecekhfpfnepaa.Sg Go.Proofs.YteecekhfpfnepaaW.PrintWords Go.Proofs.YteecekhfpfnepaaW.PrintLast
set_option linter.unusedVariables false

theorem SingleAdds : heraldlaw03_SingleAdds.Pure := by
  intro a0 a1 w0 w1
  obtain ⟨h0, h1⟩ := wf_u32 w0
  obtain ⟨g0, g1⟩ := wf_u32 w1
  refine ⟨140, ?_⟩
  unfold heraldlaw03_SingleAdds.f
  have hc : single_Add.f a1 a0 = single_Add.f a0 a1 := by
    show some (arithV (((Ieee.single.read a1.toNat).sum (Ieee.single.read a0.toNat)).map Ieee.single.write)) = some (arithV (((Ieee.single.read a0.toNat).sum (Ieee.single.read a1.toNat)).map Ieee.single.write))
    rw [sum_comm]
  rw [awake_some 140 (by omega), hc, refAdd_some a0 a1 h0 (by omega) g0 (by omega) 140 (by omega)]
  unfold single_Add.f
  simp
end Go.Proofs.Yteecekhfpfnepaa.Pure
