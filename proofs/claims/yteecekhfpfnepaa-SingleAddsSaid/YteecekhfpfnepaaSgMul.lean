/- The reference's products are the model's. -/
import Derived.Test.YteecekhfpfnepaaSgRaw
import Derived.Test.YteecekhfpfnepaaPAllx9
namespace Go.Proofs.Yteecekhfpfnepaa.Sg
open Ieee
open Go.RowKit Go.Proofs.Yteecekhfpfnepaa.PAll Go.Proofs.YteecekhfpfnepaaW.PrintWords Go.Proofs.YteecekhfpfnepaaW.PrintLast Go.Proofs.YteecekhfpfnepaaW.PrintMore
set_option linter.unusedVariables false
set_option linter.unusedSimpArgs false

theorem fin_small {a : Int} {s : Bool} {m : Nat} {e : Int} (h : Fin32 a s m e) : m < 16777216 ∧ -149 ≤ e ∧ e ≤ 104 := by
  rcases h.form with ⟨h1, h2⟩ | ⟨h1, h2, h3, h4⟩ <;> omega
theorem bne_xor (s t : Bool) : (s != t) = (s ^^ t) := by cases s <;> cases t <;> rfl
theorem mul_j2 (s t : Bool) (m n : Nat) (e f : Int) (k : Nat) (hk : 90 ≤ k) (hm : m < 16777216) (hn : n < 16777216) (he0 : -149 ≤ e) (he1 : e ≤ 104) (hf0 : -149 ≤ f) (hf1 : f ≤ 104) :
    heraldref03_Mul.j2 k s (m : Int) e t (n : Int) f false = some (NR (s ^^ t) (m * n) (e + f)) := by
  obtain ⟨k, rfl⟩ : ∃ j, k = j + 1 := ⟨k - 1, by omega⟩
  have hp : m * n ≤ 16777216 * 16777216 := Nat.mul_le_mul (by omega) (by omega)
  simp only [heraldref03_Mul.j2]
  rw [if_neg (by decide), u64_in (a := (m : Int)) (by omega) (by omega), u64_in (a := (n : Int)) (by omega) (by omega), ← Int.natCast_mul, u64_in (by omega) (by omega), wrap_in (by omega) (by omega), refnear_some _ (m * n) _ (by omega) k (by omega), bne_xor]
  rfl
theorem mul_inf (s t : Bool) (x7 x8 x11 x12 : Int) (k : Nat) : heraldref03_Mul.j2 (k + 1) s x7 x8 t x11 x12 true = some (sgn (s ^^ t) + 2139095040) := by
  simp only [heraldref03_Mul.j2]
  cases s <;> cases t <;> rfl
theorem refMul_some (a b : Int) (a0 : 0 ≤ a) (a1 : a < 4294967296) (b0 : 0 ≤ b) (b1 : b < 4294967296) (k : Nat) (hk : 100 ≤ k) : heraldref03_Mul.f k a b = some (arithV (arithR .mul a.toNat b.toNat)) := by
  obtain ⟨k, rfl⟩ : ∃ j, k = j + 2 := ⟨k - 2, by omega⟩
  have hM : arithR .mul a.toNat b.toNat = ((Ieee.single.read a.toNat).product (Ieee.single.read b.toNat)).map Ieee.single.write := rfl
  unfold heraldref03_Mul.f
  rw [raw_some a a0 a1, raw_some b b0 b1, hM]
  simp only [Option.bind_some]
  rcases raw_cases a a0 a1 with ⟨ra, s, fa, da⟩ | ⟨s, ra, da, wa⟩ | ⟨s, m, e, ra, da, fa⟩ <;> rcases raw_cases b b0 b1 with ⟨rb, t, fb, db⟩ | ⟨t, rb, db, wb⟩ | ⟨t, n, f, rb, db, fb⟩ <;> rw [ra, rb, da, db]
  · simp [heraldref03_Mul.j0, heraldref03_Mul.j1, Datum.product, arithV]
  · simp [heraldref03_Mul.j0, heraldref03_Mul.j1, Datum.product, arithV]
  · by_cases c : n = 0 <;> simp [heraldref03_Mul.j0, heraldref03_Mul.j1, Datum.product, arithV, c]
  · simp [heraldref03_Mul.j0, heraldref03_Mul.j1, Datum.product, arithV]
  · obtain ⟨k, rfl⟩ : ∃ j, k = j + 1 := ⟨k - 1, by omega⟩
    simp only [Datum.product, Option.map_some, arith_inf]
    simp [heraldref03_Mul.j0, heraldref03_Mul.j1, mul_inf]
  · obtain ⟨k, rfl⟩ : ∃ j, k = j + 1 := ⟨k - 1, by omega⟩
    by_cases c : n = 0
    · simp [heraldref03_Mul.j0, heraldref03_Mul.j1, Datum.product, arithV, c]
    · simp only [Datum.product, if_neg c, Option.map_some, arith_inf]
      simp [heraldref03_Mul.j0, heraldref03_Mul.j1, mul_inf, c]
  · by_cases c : m = 0 <;> simp [heraldref03_Mul.j0, heraldref03_Mul.j1, Datum.product, arithV, c]
  · obtain ⟨k, rfl⟩ : ∃ j, k = j + 1 := ⟨k - 1, by omega⟩
    by_cases c : m = 0
    · simp [heraldref03_Mul.j0, heraldref03_Mul.j1, Datum.product, arithV, c]
    · simp only [Datum.product, if_neg c, Option.map_some, arith_inf]
      simp [heraldref03_Mul.j0, heraldref03_Mul.j1, mul_inf, c, Bool.xor_comm]
  · obtain ⟨m1, e0, e1⟩ := fin_small fa
    obtain ⟨n1, f0, f1⟩ := fin_small fb
    have hj := mul_j2 s t m n e f k (by omega) m1 n1 e0 e1 f0 f1
    simp only [Datum.product, Option.map_some, arith_number]
    by_cases c : m = 0 <;> by_cases d : n = 0 <;> simp [heraldref03_Mul.j0, heraldref03_Mul.j1, c, d] <;> simpa [c, d] using hj
end Go.Proofs.Yteecekhfpfnepaa.Sg
