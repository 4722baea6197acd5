/- The reference's sums are the model's. -/
import Derived.Test.YteecekhfpfnepaaSgStick
import Derived.Test.YteecekhfpfnepaaSgCmp
import Derived.Test.YteecekhfpfnepaaSgMul
import Derived.Test.YteecekhfpfnepaaPAllx7
namespace Go.Proofs.Yteecekhfpfnepaa.Sg
open Ieee
open Go.RowKit Go.Proofs.Yteecekhfpfnepaa.PAll Go.Proofs.YteecekhfpfnepaaW.PrintWords Go.Proofs.YteecekhfpfnepaaW.PrintLast Go.Proofs.YteecekhfpfnepaaW.PrintMore
set_option linter.unusedVariables false
set_option linter.unusedSimpArgs false

/-- The model's sum of two numbers, the first of them in greater or the same units. -/
def sumV (s : Bool) (m : Nat) (e : Int) (t : Bool) (n : Nat) (f : Int) : Int := arithV (((Datum.number s m e).sum (.number t n f)).map Ieee.single.write)
theorem sumV_eq (s t : Bool) (m n d : Nat) (e f : Int) (hd : e = f + d) (hm : m ≠ 0) (hn : n ≠ 0) (hle : n ≤ m * 2 ^ d) :
    sumV s m e t n f = if s = t then NR s (m * 2 ^ d + n) f else if m * 2 ^ d = n then 0 else NR s (m * 2 ^ d - n) f := by
  unfold sumV
  simp only [Datum.sum, Option.map_some, arith_number]
  have hmn : min e f = f := by omega
  rw [hmn]
  have e1 : signed s m (e - f).toNat = if s then -((m * 2 ^ d : Nat) : Int) else ((m * 2 ^ d : Nat) : Int) := by
    unfold signed; rw [show (e - f).toNat = d by omega, Nat.shiftLeft_eq]
  have e2 : signed t n (f - f).toNat = if t then -(n : Int) else (n : Int) := by
    unfold signed; rw [show (f - f).toNat = 0 by omega, Nat.shiftLeft_zero]
  rw [e1, e2]
  obtain ⟨M, hM⟩ : ∃ M, m * 2 ^ d = M := ⟨_, rfl⟩
  rw [hM] at hle ⊢
  have hM0 : 0 < M := by omega
  clear e1 e2 hM hmn
  cases s <;> cases t
  · simp only [Bool.false_eq_true, if_false, if_true]
    rw [if_neg (by omega), show ((M : Int) + (n : Int)).natAbs = M + n by omega, show decide ((M : Int) + (n : Int) < 0) = false from decide_eq_false (by omega)]
  · simp only [Bool.false_eq_true, if_false, if_true]
    by_cases c : M = n
    · subst c
      rw [show (M : Int) + -(M : Int) = 0 by omega]
      simp [NR, sgn, rung]
    · rw [if_neg (by omega), if_neg c, show ((M : Int) + -(n : Int)).natAbs = M - n by omega, show decide ((M : Int) + -(n : Int) < 0) = false from decide_eq_false (by omega)]
  · simp only [Bool.false_eq_true, if_false, if_true]
    by_cases c : M = n
    · subst c
      rw [show -(M : Int) + (M : Int) = 0 by omega]
      simp [NR, sgn, rung]
    · rw [if_neg (by omega), if_neg c, show (-(M : Int) + (n : Int)).natAbs = M - n by omega, show decide (-(M : Int) + (n : Int) < 0) = true from decide_eq_true (by omega), if_neg (by decide)]
  · simp only [if_true]
    rw [if_neg (by omega), show (-(M : Int) + -(n : Int)).natAbs = M + n by omega, show decide (-(M : Int) + -(n : Int) < 0) = true from decide_eq_true (by omega)]
/-- The end of the reference's sum. -/
theorem add_j3 (s t : Bool) (x y M n : Nat) (e f : Int) (he0 : -149 ≤ e) (he1 : e ≤ 104) (hx : x < 1152921504606846976) (hyx : y ≤ x) (h1 : rung (x + y) (e - 33) = rung (M + n) f) (h2 : x = y ↔ M = n) (h3 : rung (x - y) (e - 33) = rung (M - n) f) (k : Nat) (hk : 90 ≤ k) :
    heraldref03_Add.j3 k s e t (x : Int) (y : Int) = some (if s = t then NR s (M + n) f else if M = n then 0 else NR s (M - n) f) := by
  obtain ⟨k, rfl⟩ : ∃ j, k = j + 1 := ⟨k - 1, by omega⟩
  simp only [heraldref03_Add.j3]
  rw [wrap_in (a := e - 33) (by omega) (by omega)]
  by_cases c : s = t
  · subst c
    rw [if_pos (by simp), if_pos rfl, ← Int.natCast_add, u64_in (by omega) (by omega), refnear_some s (x + y) _ (by omega) k (by omega)]
    simp only [Option.bind_some, NR, h1]
  · rw [if_neg (by simpa using c), if_neg c]
    by_cases c2 : x = y
    · rw [if_pos (by omega), if_pos (h2.1 c2)]
    · rw [if_neg (by omega), if_neg (fun h => c2 (h2.2 h)), show (x : Int) - (y : Int) = ((x - y : Nat) : Int) from by omega, u64_in (by omega) (by omega), refnear_some s (x - y) _ (by omega) k (by omega)]
      simp only [Option.bind_some, NR, h3]
theorem or_one (a : Nat) (ha : a < 4294967296) : bits .or .u64 (a : Int) 1 = ((if a % 2 = 1 then a else a + 1 : Nat) : Int) := by
  show IntKind.u64.wrap ((BitVec.ofInt 64 (a : Int) ||| BitVec.ofInt 64 ((1 : Nat) : Int)).toNat : Int) = _
  rw [BitVec.toNat_or, BitVec.ofInt_natCast, BitVec.ofInt_natCast, BitVec.toNat_ofNat, BitVec.toNat_ofNat, Nat.mod_eq_of_lt (by omega), Nat.mod_eq_of_lt (by omega)]
  have e : a ||| 1 = if a % 2 = 1 then a else a + 1 := by
    by_cases c : a % 2 = 1
    · rw [if_pos c]
      have := Nat.two_pow_add_eq_or_of_lt (i := 1) (b := 1) (by omega) (a / 2)
      have h2 : a = 2 ^ 1 * (a / 2) + 1 := by omega
      rw [h2, this, Nat.or_assoc, Nat.or_self]
    · rw [if_neg c]
      have := Nat.two_pow_add_eq_or_of_lt (i := 1) (b := 1) (by omega) (a / 2)
      have h2 : a = 2 ^ 1 * (a / 2) := by omega
      rw [← h2] at this
      exact this.symm
  rw [e]
  exact u64_in (by split <;> omega) (by split <;> omega)
/-- What is lost counts as one: the sum and the difference, at an odd place. -/
theorem stick_parts (m n k x y : Nat) (e f : Int) (hk : 1 ≤ k) (hx : x = m * 8589934592) (hm : m ≠ 0) (hn : n < 16777216) (hy : y = if n / 2 ^ k % 2 = 1 then n / 2 ^ k else n / 2 ^ k + 1) (hrem : n % 2 ^ k ≠ 0) (he : e - 33 = f + k) :
    rung (x + y) (e - 33) = rung (m * 2 ^ (33 + k) + n) f ∧ rung (x - y) (e - 33) = rung (m * 2 ^ (33 + k) - n) f ∧ y ≤ 16777216 := by
  have hp := pow_pos' k
  have hM : m * 2 ^ (33 + k) = x * 2 ^ k := by rw [Nat.pow_add, ← Nat.mul_assoc, hx]
  have hdm := Nat.div_add_mod n (2 ^ k)
  have hmod : n % 2 ^ k < 2 ^ k := Nat.mod_lt _ hp
  have hq : n / 2 ^ k ≤ n := Nat.div_le_self _ _
  rw [hM, he]
  obtain ⟨P, hP⟩ : ∃ P, 2 ^ k = P := ⟨_, rfl⟩
  rw [hP] at hdm hmod hrem hq hy hp ⊢
  obtain ⟨q, hQ⟩ : ∃ q, n / P = q := ⟨_, rfl⟩
  obtain ⟨r, hR⟩ : ∃ r, n % P = r := ⟨_, rfl⟩
  rw [hQ] at hdm hq hy
  rw [hR] at hdm hmod hrem
  have hxe : x % 2 = 0 := by omega
  have hxb : 8589934592 ≤ x := by omega
  have hyo : y % 2 = 1 := by rw [hy]; split <;> omega
  have hyb : y ≤ 16777216 := by rw [hy]; split <;> omega
  have hyr : y = q ∨ y = q + 1 := by rw [hy]; split <;> omega
  obtain ⟨xP, hxP⟩ : ∃ xP, x * P = xP := ⟨_, rfl⟩
  obtain ⟨qP, hqP⟩ : ∃ qP, P * q = qP := ⟨_, rfl⟩
  rw [hqP] at hdm
  have hqP' : q * P = qP := by rw [Nat.mul_comm]; exact hqP
  have hle : (q + 1) * P ≤ x * P := Nat.mul_le_mul_right _ (by omega)
  have hle2 : (q + 2) * P ≤ x * P := Nat.mul_le_mul_right _ (by omega)
  rw [Nat.add_mul, hqP', hxP] at hle hle2
  rw [hxP]
  refine ⟨?_, ?_, hyb⟩
  · refine (rung_stick (x + y) (xP + n) k f (by omega) (by omega) ?_ ?_).symm
    · rw [hP]
      rcases hyr with h | h
      · rw [h, show x + q - 1 = x + (q - 1) by omega, Nat.add_mul, hxP, Nat.sub_mul, hqP']; omega
      · rw [h, show x + (q + 1) - 1 = x + q by omega, Nat.add_mul, hxP, hqP']; omega
    · rw [hP]
      rcases hyr with h | h
      · rw [h, Nat.add_mul, Nat.add_mul, hxP, hqP']; omega
      · rw [h, Nat.add_mul, Nat.add_mul, Nat.add_mul, hxP, hqP']; omega
  · refine (rung_stick (x - y) (xP - n) k f (by omega) (by omega) ?_ ?_).symm
    · rw [hP, Nat.sub_sub, Nat.sub_mul, hxP]
      rcases hyr with h | h
      · rw [h, Nat.add_mul, hqP']; omega
      · rw [h, Nat.add_mul, Nat.add_mul, hqP']; omega
    · rw [hP]
      rcases hyr with h | h
      · rw [h, Nat.add_mul, Nat.sub_mul, hxP, hqP']; omega
      · rw [h, Nat.add_mul, Nat.sub_mul, hxP, Nat.add_mul, hqP']; omega
theorem shl33 (m : Nat) (hm : m < 16777216) : IntKind.u64.wrap (IntKind.u64.wrap (m : Int) * 8589934592) = ((m * 8589934592 : Nat) : Int) := by
  rw [u64_in (a := (m : Int)) (by omega) (by omega), u64_in (by omega) (by omega)]; omega
theorem rung_down (M n m' n' t : Nat) (e f : Int) (h1 : m' = M * 2 ^ t) (h2 : n' = n * 2 ^ t) (he : e - 33 = f - t) : rung (m' + n') (e - 33) = rung (M + n) f ∧ rung (m' - n') (e - 33) = rung (M - n) f := by
  rw [h1, h2, he, ← Nat.add_mul, ← Nat.sub_mul]
  exact ⟨rung_scale _ _ _, rung_scale _ _ _⟩
/-- The reference's sum of two numbers that are not 0, the first of them not the lesser. -/
theorem add_j2 (s t : Bool) (m n d : Nat) (e f : Int) (hd : e = f + d) (hm : m ≠ 0) (hn : n ≠ 0) (hm1 : m < 16777216) (hn1 : n < 16777216) (he1 : e ≤ 104) (hf0 : -149 ≤ f) (hle : n ≤ m * 2 ^ d) (k : Nat) (hk : 100 ≤ k) :
    heraldref03_Add.j2 k s (m : Int) e t (n : Int) f = some (sumV s m e t n f) := by
  obtain ⟨k, rfl⟩ : ∃ j, k = j + 1 := ⟨k - 1, by omega⟩
  rw [sumV_eq s t m n d e f hd hm hn hle]
  simp only [heraldref03_Add.j2]
  rw [wrap_in (a := e - f) (by omega) (by omega), show e - f = (d : Int) from by omega, shl33 m hm1, u64_in (a := (n : Int)) (by omega) (by omega)]
  have e33 : 2 ^ 33 = 8589934592 := by decide
  by_cases c1 : d ≤ 33
  · obtain ⟨u, hu⟩ : ∃ u, 33 = d + u := ⟨33 - d, by omega⟩
    have hpu := pow_pos' u
    have hbu : 2 ^ u ≤ 2 ^ 33 := Nat.pow_le_pow_right (by omega) (by omega)
    have hnu : n * 2 ^ u ≤ 16777216 * 8589934592 := Nat.mul_le_mul (by omega) (by omega)
    have hx : m * 8589934592 = m * 2 ^ d * 2 ^ u := by rw [← e33, hu, Nat.pow_add, Nat.mul_assoc]
    rw [if_pos (by omega), wrap_in (a := 33 - (d : Int)) (by omega) (by omega), show 33 - (d : Int) = (u : Int) from by omega, u64_in (a := (u : Int)) (by omega) (by omega), if_pos (by omega), shl_u n u (by omega) (by omega)]
    obtain ⟨r1, r2⟩ := rung_down (m * 2 ^ d) n _ _ u e f hx rfl (by omega)
    refine add_j3 s t _ _ _ _ e f (by omega) he1 (by omega) ?_ r1 ?_ r2 k (by omega)
    · rw [hx]; exact Nat.mul_le_mul_right _ hle
    · rw [hx]; exact Nat.mul_right_cancel_iff hpu
  · rw [if_neg (by omega)]
    obtain ⟨q, hq⟩ : ∃ q, d = 33 + q := ⟨d - 33, by omega⟩
    have hpq := pow_pos' q
    have hMx : m * 2 ^ d = m * 8589934592 * 2 ^ q := by rw [hq, Nat.pow_add, e33, Nat.mul_assoc]
    have hbig : n < m * 8589934592 := by omega
    have hbig2 : m * 8589934592 ≤ m * 2 ^ d := by rw [hMx]; exact Nat.le_mul_of_pos_right _ hpq
    have key : ∀ y : Nat, y = (if n % 2 ^ q = 0 then n / 2 ^ q else if n / 2 ^ q % 2 = 1 then n / 2 ^ q else n / 2 ^ q + 1) →
        heraldref03_Add.j3 k s e t ((m * 8589934592 : Nat) : Int) (y : Int) = some (if s = t then NR s (m * 2 ^ d + n) f else if m * 2 ^ d = n then 0 else NR s (m * 2 ^ d - n) f) := by
      intro y hy
      have hdm := Nat.div_add_mod n (2 ^ q)
      have hql : n / 2 ^ q ≤ n := Nat.div_le_self _ _
      by_cases c2 : n % 2 ^ q = 0
      · rw [if_pos c2] at hy
        have hn' : n = y * 2 ^ q := by rw [hy, Nat.mul_comm]; omega
        have hrs : ∀ X : Nat, rung (X * 2 ^ q) f = rung X (e - 33) := by
          intro X
          have := rung_scale X q (e - 33)
          rwa [show e - 33 - (q : Int) = f from by omega] at this
        refine add_j3 s t _ _ _ _ e f (by omega) he1 (by omega) (by omega) ?_ (by omega) ?_ k (by omega)
        · rw [hMx, show m * 8589934592 * 2 ^ q + n = (m * 8589934592 + y) * 2 ^ q by rw [Nat.add_mul]; omega]
          exact (hrs _).symm
        · rw [hMx, show m * 8589934592 * 2 ^ q - n = (m * 8589934592 - y) * 2 ^ q by rw [Nat.sub_mul]; omega]
          exact (hrs _).symm
      · rw [if_neg c2] at hy
        have hq1 : 1 ≤ q := by
          rcases Nat.eq_zero_or_pos q with h | h
          · subst h; rw [Nat.pow_zero, Nat.mod_one] at c2; omega
          · exact h
        obtain ⟨r1, r2, r3⟩ := stick_parts m n q (m * 8589934592) y e f hq1 rfl hm hn1 hy c2 (by omega)
        rw [← hq] at r1 r2
        exact add_j3 s t _ _ _ _ e f (by omega) he1 (by omega) (by omega) r1 (by omega) r2 k (by omega)
    by_cases c3 : d < 64
    · rw [if_pos (by omega), wrap_in (a := (d : Int) - 33) (by omega) (by omega), show (d : Int) - 33 = (q : Int) from by omega, u64_in (a := (q : Int)) (by omega) (by omega), if_pos (by omega), shr_u n q (by omega)]
      have hql : n / 2 ^ q ≤ n := Nat.div_le_self _ _
      have hdm := Nat.div_add_mod n (2 ^ q)
      have hml : n / 2 ^ q * 2 ^ q ≤ n := Nat.div_mul_le_self _ _
      have hcm : n / 2 ^ q * 2 ^ q = 2 ^ q * (n / 2 ^ q) := Nat.mul_comm _ _
      rw [shl_u (n / 2 ^ q) q (by omega) (by omega)]
      by_cases c4 : n % 2 ^ q = 0
      · rw [if_pos (by omega)]
        exact key _ (by rw [if_pos c4])
      · rw [if_neg (by omega), or_one _ (by omega)]
        exact key _ (by rw [if_neg c4])
    · rw [if_neg (by omega)]
      have hbq : 2 ^ 24 ≤ 2 ^ q := Nat.pow_le_pow_right (by omega) (by omega)
      have e24 : 2 ^ 24 = 16777216 := by decide
      have hz : n / 2 ^ q = 0 := Nat.div_eq_of_lt (by omega)
      have hz2 : n % 2 ^ q = n := Nat.mod_eq_of_lt (by omega)
      exact key 1 (by rw [hz, hz2, if_neg hn, if_neg (by omega)])
end Go.Proofs.Yteecekhfpfnepaa.Sg
