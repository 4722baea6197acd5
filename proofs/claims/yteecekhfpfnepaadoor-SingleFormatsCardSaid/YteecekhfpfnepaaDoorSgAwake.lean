/- One and one are two. -/
import Derived.Test.YteecekhfpfnepaaDoorSgNear
import Derived.Test.YteecekhfpfnepaaDoorPAllx4
import Derived.DataShut
namespace Go.Proofs.YteecekhfpfnepaaDoor.Sg
open Go.RowKit Go.Proofs.YteecekhfpfnepaaDoor.PAll Go.Proofs.YteecekhfpfnepaaDoorW.PrintWords Go.Proofs.YteecekhfpfnepaaDoorW.PrintLast Go.Proofs.YteecekhfpfnepaaDoorW.PrintMore
set_option linter.unusedVariables false
set_option linter.unusedSimpArgs false
theorem one_one : single_Add.f 1065353216 1065353216 = some 1073741824 := by decide +kernel
theorem three_half : NR false 3 (-1) = 1069547520 := by decide +kernel
theorem awake_some (k : Nat) (hk : 80 ≤ k) : heraldlaw03_awake.f k = some true := by
  unfold heraldlaw03_awake.f
  rw [one_one]
  simp only [Option.bind_some, if_true]
  rw [near_some 3 (-1) (by omega) (by omega) k (by omega), if_neg (by decide)]
  have e : NR (decide ((3 : Int) < 0)) (3 : Int).natAbs (-1) = 1069547520 := three_half
  rw [e]
  rfl
theorem wf_i64 {a : Int} (h : (Lit.int .i64 a).wf = true) : -9223372036854775808 ≤ a ∧ a ≤ 9223372036854775807 := (Lit.wf_int_iff _ _).1 h
theorem wf_i8 {a : Int} (h : (Lit.int .i8 a).wf = true) : -128 ≤ a ∧ a ≤ 127 := (Lit.wf_int_iff _ _).1 h
theorem wf_u32 {a : Int} (h : (Lit.int .u32 a).wf = true) : 0 ≤ a ∧ a ≤ 4294967295 := (Lit.wf_int_iff _ _).1 h
end Go.Proofs.YteecekhfpfnepaaDoor.Sg
