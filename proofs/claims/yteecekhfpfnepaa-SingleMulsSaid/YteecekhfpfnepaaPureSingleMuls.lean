/- The plain law of SingleMuls. -/
import Derived.Test.YteecekhfpfnepaaPAllx10
import Derived.Test.YteecekhfpfnepaaSgAwake
import Derived.Test.YteecekhfpfnepaaSgMul
namespace Go.Proofs.Yteecekhfpfnepaa.Pure
open Go.RowKit Go.Proofs.Yteecekhfpfnepaa.PAll Go.Proofs.Yteecekhfpfnepaa.Sg Go.Proofs.YteecekhfpfnepaaW.PrintWords Go.Proofs.YteecekhfpfnepaaW.PrintLast
set_option linter.unusedVariables false

theorem SingleMuls : heraldlaw03_SingleMuls.Pure := by
  intro a0 a1 w0 w1
  obtain ⟨h0, h1⟩ := wf_u32 w0
  obtain ⟨g0, g1⟩ := wf_u32 w1
  refine ⟨100, ?_⟩
  unfold heraldlaw03_SingleMuls.f
  have hc : single_Mul.f a1 a0 = single_Mul.f a0 a1 := by
    show some (arithV (((Ieee.single.read a1.toNat).product (Ieee.single.read a0.toNat)).map Ieee.single.write)) = some (arithV (((Ieee.single.read a0.toNat).product (Ieee.single.read a1.toNat)).map Ieee.single.write))
    rw [product_comm]
  rw [awake_some 100 (by omega), hc, refMul_some a0 a1 h0 (by omega) g0 (by omega) 100 (by omega)]
  unfold single_Mul.f
  simp
end Go.Proofs.Yteecekhfpfnepaa.Pure
