/- The plain law of SingleFormats. -/
import Derived.Test.YteecekhfpfnepaaDoorPAllx16
import Derived.Test.YteecekhfpfnepaaDoorSgAwake
import Derived.Test.YteecekhfpfnepaaDoorSgFmts
namespace Go.Proofs.YteecekhfpfnepaaDoor.Pure
open Go.RowKit Go.Proofs.YteecekhfpfnepaaDoor.PAll Go.Proofs.YteecekhfpfnepaaDoor.Sg Go.Proofs.YteecekhfpfnepaaDoorW.PrintWords Go.Proofs.YteecekhfpfnepaaDoorW.PrintLast
set_option linter.unusedVariables false

theorem SingleFormats : heraldlaw03_SingleFormats.Pure := by
  intro a0 a1 w0 w1
  obtain ⟨h0, h1⟩ := wf_u32 w0
  obtain ⟨g0, g1⟩ : 0 ≤ a1 ∧ a1 ≤ 65535 := (Lit.wf_int_iff _ _).1 w1
  obtain ⟨k, hk⟩ : ∃ k, k = 120 := ⟨_, rfl⟩
  refine ⟨k, ?_⟩
  obtain ⟨n, rfl⟩ := Int.eq_ofNat_of_zero_le g0
  obtain ⟨v1, a, b⟩ := halves_same a0 h0 (by omega) k (by omega)
  obtain ⟨v2, c, d⟩ := from_same n (by omega) k (by omega)
  obtain ⟨v3, e, f⟩ := brain_same a0 h0 (by omega)
  obtain ⟨v4, g, h⟩ := frombrain_same (n : Int) g0 (by omega)
  unfold heraldlaw03_SingleFormats.f
  rw [awake_some k (by omega), a, b, c, d, e, f, g, h]
  simp
end Go.Proofs.YteecekhfpfnepaaDoor.Pure
