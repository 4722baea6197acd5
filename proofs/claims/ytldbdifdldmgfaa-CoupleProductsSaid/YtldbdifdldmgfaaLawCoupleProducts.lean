/- The law CoupleProducts holds: for every row of true and guessed weights, to each beginning of a row as many draws lead as the product of the true weights says, and the argument reads as it did. Conditions: none but those of the given statement. -/
import Derived.Test.YtldbdifdldmgfaaCpD0
import Derived.Test.YtldbdifdldmgfaaCpD1
import Derived.Test.YtldbdifdldmgfaaCpD2
import Derived.Test.YtldbdifdldmgfaaCpD3
import Derived.Test.YtldbdifdldmgfaaCpD4
import Derived.Test.YtldbdifdldmgfaaRows
import Derived.WalkKit
import Derived.ProofKit
import Derived.OpenShut
import Derived.ShutString
import Derived.ChangeOld
import Derived.Below
import Derived.SizedLaws
namespace Go.Proofs.Ytldbdifdldmgfaa.coupleProducts
open Go.ChangeShapes Go.WideShapes Go.ChangeAt Go.RowKit Go.Joins Go.Proofs.YtldbdifdldmgfaaW.PrintWords
set_option linter.unusedVariables false
theorem own : ownKnob Try.prog.godebug = none := by kernel_rfl
theorem laidOut : laidOutB Try.prog = true := by kernel_rfl
set_option maxRecDepth 100000 in
theorem lifted (os : Os) (started : os.Started) (H : Type) (enc : TypeId × Value → H) :
    ReturnsInHanded {} Try.checked os 12 .any (Rows.coupleProductsSpec.pre6 enc Try.prog Try.f12 Rows.coupleProductsRow.domain false) (Rows.coupleProductsSpec.post enc Try.prog Try.f12 false true false false) := by
  refine returnsInHanded_of_change_sized (C := Try.checked) own started (by kernel_rfl) Try.func12
    (ChangeSpec.witness6 (enc := enc) (C := Try.checked) false ⟨#[], #[.agg #[.slice none 0 0, .slice none 0 0]], []⟩ 8 (by kernel_rfl) (by kernel_rfl) (by kernel_rfl) (by kernel_rfl)) ?_
  intro W base args ds gs before hval0 hW hcnd hsz0 _
  have hval : ∀ (j : Nat) t v, Try.f12.params[j]? = some t → args[j]? = some v → Value.okWide Try.prog W .any base t v := hval0
  have hW' := hW
  obtain ⟨p, q, hA0, hV, rfl, hfz, hnd⟩ := hW
  have hA : DataW.TrodAll enc Try.prog W 0 (fun _ => true) true Try.f12.params.toList args.toList ds p := hA0
  rw [Try.params12] at hA hval
  obtain ⟨v0, vs0, d0, ds0, p0, q0, hargs, rfl, rfl, h0, r0⟩ := trodAll_cons hA
  obtain ⟨rfl, rfl, rfl⟩ := trodAll_nil r0
  obtain rfl : args = #[v0] := by cases args; simp_all
  obtain ⟨rfl, rfl⟩ := trodVars_none hV
  have k0 := h0
  have lt0 : ∀ x ∈ p0, x.block < W.heap.size := by obtain ⟨m, hm⟩ := k0; exact DataW.trod_lt m _ _ _ hm
  have cells59 : Try.prog.cellsOf 59 = 2 := by kernel_rfl
  obtain ⟨c0, c1, y0, y1, m, rfl, rfl, rfl, hy0, hy1⟩ := open_agg2 Try.underlying59 (by kernel_rfl) cells59 (hval 0 59 v0 rfl rfl) h0
  obtain ⟨A0, n0, L0, e0, hn0, hC0⟩ := Math.rows_C Try.underlying57 Try.underlying22 Try.underlying2 (by kernel_rfl) (by kernel_rfl) hy0
  obtain ⟨A1, n1, L1, e1, hn1, hC1⟩ := Math.rows_C Try.underlying57 Try.underlying22 Try.underlying2 (by kernel_rfl) (by kernel_rfl) hy1
  obtain rfl : c0 = .slice A0 L0.length n0 := by simpa using e0
  obtain rfl : c1 = .slice A1 L1.length n1 := by simpa using e1
  clear hA0 hval0 hsz0
  obtain ⟨k, hk⟩ := Pure.CoupleProducts L0 L1
  refine (PAll.hcp.calls k A0 n0 L0 A1 n1 L1 true W hC0 hn0 hC1 hn1 hk).mono fun e W' ⟨he, bel⟩ => ?_
  subst he
  exact ⟨_, rfl, _, _, _, [], _, [], hW', trodAll_mk1 (shut_bool Try.underlying4 _), (trodAll_cons_mk (Below.trod laidOut (by kernel_rfl) (of_decide_eq_true (by kernel_rfl)) k0 bel lt0) trodAll_mk0), rfl, bel.frame _, fun h => by cases h⟩
theorem over : Rows.coupleProductsRow.holds Try.pinned (OpenSpec.ofChange Rows.coupleProductsSpec) :=
  OpenClaim.holds_of_wide 12 Try.f12 rfl rfl rfl rfl rfl rfl rfl ⟨rfl, rfl, rfl, rfl, rfl⟩ rfl rfl rfl rfl rfl (by kernel_rfl) Try.func12 (by kernel_rfl)
    (of_decide_eq_true (by kernel_rfl)) (by unfold Func.isWrapper; first | (rw [if_pos (by decide +kernel)]; kernel_rfl) | (rw [if_neg (by decide +kernel)]; exact ⟨rfl, rfl⟩))
    (fun os started H enc _ => lifted os started H enc)
theorem proved : Rows.CoupleProductsSaid := over
#print axioms proved
end Go.Proofs.Ytldbdifdldmgfaa.coupleProducts
namespace Go.Proofs.Ytldbdifdldmgfaa
/-- The row, under a short name, for the claim. -/
theorem coupleProducts_holds : Rows.CoupleProductsSaid := coupleProducts.proved
end Go.Proofs.Ytldbdifdldmgfaa
