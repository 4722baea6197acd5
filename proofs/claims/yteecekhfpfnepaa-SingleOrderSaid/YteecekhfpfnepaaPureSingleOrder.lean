/- The plain law of SingleOrder. -/
import Derived.Test.YteecekhfpfnepaaPAllx16
import Derived.Test.YteecekhfpfnepaaSgAwake
import Derived.Test.YteecekhfpfnepaaSgOrder
namespace Go.Proofs.Yteecekhfpfnepaa.Pure
open Go.RowKit Go.Proofs.Yteecekhfpfnepaa.PAll Go.Proofs.Yteecekhfpfnepaa.Sg Go.Proofs.YteecekhfpfnepaaW.PrintWords Go.Proofs.YteecekhfpfnepaaW.PrintLast
set_option linter.unusedVariables false

theorem SingleOrder : heraldlaw03_SingleOrder.Pure := by
  intro a0 a1 a2 w0 w1 w2
  obtain ⟨h0, h1⟩ := wf_u32 w0
  obtain ⟨g0, g1⟩ := wf_u32 w1
  obtain ⟨i0, i1⟩ := wf_u32 w2
  obtain ⟨k, hk⟩ : ∃ k, k = 140 := ⟨_, rfl⟩
  refine ⟨k + 2, ?_⟩
  have hr : ∀ a b : Int, 0 ≤ a → a ≤ 4294967295 → 0 ≤ b → b ≤ 4294967295 → heraldref03_Compare.f k a b = single_Compare.f a b := fun a b x0 x1 y0 y1 => refCompare_some a b x0 (by omega) y0 (by omega) k (by omega)
  have ha := awake_some k (by omega)
  unfold heraldlaw03_SingleOrder.f
  have o1 := order_key a0 a1 h0 (by omega) g0 (by omega)
  have o2 := order_key a1 a2 g0 (by omega) i0 (by omega)
  have o3 := order_key a0 a2 h0 (by omega) i0 (by omega)
  have o4 := order_key a1 a0 g0 (by omega) h0 (by omega)
  have r1 := hr a0 a1 h0 h1 g0 g1
  have r2 := hr a1 a2 g0 g1 i0 i1
  rw [o1] at r1
  rw [o2] at r2
  rw [o1, o2, o3, o4]
  simp only [Option.bind_some]
  clear hr o1 o2 o3 o4
  generalize key (Ieee.single.read a0.toNat) = A at *
  generalize key (Ieee.single.read a1.toNat) = B at *
  generalize key (Ieee.single.read a2.toNat) = C at *
  cases A with
  | none =>
    have e0 : wrap64 0 = 0 := wrap_in (by omega) (by omega)
    cases B <;> cases C <;> simp [cmpK, heraldlaw03_SingleOrder.j0, heraldlaw03_SingleOrder.j1, e0, ha, r1, r2]
  | some P =>
    cases B with
    | none =>
      have e0 : wrap64 0 = 0 := wrap_in (by omega) (by omega)
      cases C <;> simp [cmpK, heraldlaw03_SingleOrder.j0, heraldlaw03_SingleOrder.j1, e0, ha, r1, r2]
    | some Q =>
      have hb : cmpI P Q = wrap64 (-(cmpI Q P)) := by
        rcases cmpI_cases P Q with ⟨e1, l1⟩ | ⟨e1, l1⟩ | ⟨e1, l1⟩ <;> rcases cmpI_cases Q P with ⟨e2, l2⟩ | ⟨e2, l2⟩ | ⟨e2, l2⟩ <;> first | (rw [e1, e2]; exact (wrap_in (by omega) (by omega)).symm) | omega
      cases C with
      | none => simp [cmpK, heraldlaw03_SingleOrder.j0, heraldlaw03_SingleOrder.j1, ← hb, ha, r1, r2]
      | some R =>
        simp only [cmpK, ← hb]
        rcases cmpI_cases P Q with ⟨e1, l1⟩ | ⟨e1, l1⟩ | ⟨e1, l1⟩ <;> rcases cmpI_cases Q R with ⟨e2, l2⟩ | ⟨e2, l2⟩ | ⟨e2, l2⟩ <;> rcases cmpI_cases P R with ⟨e3, l3⟩ | ⟨e3, l3⟩ | ⟨e3, l3⟩ <;> first | omega | simp [heraldlaw03_SingleOrder.j0, heraldlaw03_SingleOrder.j1, e1, e2, e3, ha]
end Go.Proofs.Yteecekhfpfnepaa.Pure
