/- Rounding: half to even, in plain numbers. -/
import Ieee.Arith
namespace Go.Proofs.YteecekhfpfnepaaDoor.Sg
/-- Half to even: n over 2^d. -/
def rhe (n d : Nat) : Nat := n / 2 ^ d + (if 2 ^ d < 2 * (n % 2 ^ d) ∨ (2 ^ d = 2 * (n % 2 ^ d) ∧ n / 2 ^ d % 2 = 1) then 1 else 0)
theorem rhe_small {n d : Nat} (h : 2 * n < 2 ^ d) : rhe n d = 0 := by
  unfold rhe
  rw [Nat.div_eq_of_lt (by omega), Nat.mod_eq_of_lt (by omega), if_neg (by omega)]
theorem rhe_zero (n : Nat) : rhe n 0 = n := by
  unfold rhe
  rw [Nat.pow_zero, Nat.div_one, Nat.mod_one, if_neg (by omega)]; rfl
theorem cut_even (neg : Bool) (n d : Nat) : Ieee.Toward.even.cut neg n d = rhe n d := by
  unfold Ieee.Toward.cut
  simp only [Nat.one_shiftLeft]
  by_cases h : d ≤ n.log2 + 2
  · rw [Nat.min_eq_left h]
    unfold rhe
    congr 1
    by_cases h1 : 2 ^ d < 2 * (n % 2 ^ d)
    · simp [h1]
    · by_cases h2 : 2 ^ d = 2 * (n % 2 ^ d)
      · by_cases h3 : n / 2 ^ d % 2 = 1
        · simp [h3, ← h2]
        · simp [h1, h3]
      · simp [h1, h2]
  · rw [Nat.min_eq_right (by omega)]
    have hn : n < 2 ^ (n.log2 + 1) := Nat.lt_log2_self
    have e1 : 2 ^ (n.log2 + 2) = 2 ^ (n.log2 + 1) * 2 := Nat.pow_succ ..
    have e2 : 2 ^ (n.log2 + 2) ≤ 2 ^ d := Nat.pow_le_pow_right (by omega) (by omega)
    rw [rhe_small (by omega), Nat.div_eq_of_lt (by omega), Nat.mod_eq_of_lt (by omega)]
    have h1 : ¬ 2 ^ (n.log2 + 2) < 2 * n := by omega
    simp [h1]
/-- The rung nearest to m 2^e, infinity and all. -/
def lastP (m : Nat) (e : Int) : Int := max (e + m.log2 - 23) (-149)
def rung (m : Nat) (e : Int) : Nat := if m = 0 then 0 else min ((lastP m e + 149).toNat * 8388608 + rhe (m <<< (e - lastP m e).toNat) (lastP m e - e).toNat) 2139095040
theorem nearest_eq (neg : Bool) (m : Nat) (e : Int) : Ieee.single.nearest neg m e = Ieee.single.word neg (rung m e) := by
  unfold Ieee.Format.nearest rung
  by_cases h : m = 0
  · rw [if_pos h, if_pos h]
  · rw [if_neg h, if_neg h]
    simp only [cut_even]
    rfl
end Go.Proofs.YteecekhfpfnepaaDoor.Sg
