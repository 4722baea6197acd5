/- Which of two is less: the reference's answer is the model's. -/
import Derived.Test.YteecekhfpfnepaaSgRaw
import Derived.Test.YteecekhfpfnepaaHCompare
import Derived.Test.YteecekhfpfnepaaPAllx6
namespace Go.Proofs.Yteecekhfpfnepaa.Sg
open Ieee
open Go.RowKit Go.Proofs.Yteecekhfpfnepaa.PAll Go.Proofs.YteecekhfpfnepaaW.PrintWords Go.Proofs.YteecekhfpfnepaaW.PrintLast Go.Proofs.YteecekhfpfnepaaW.PrintMore
set_option linter.unusedVariables false
set_option linter.unusedSimpArgs false

def cmpI (x y : Int) : Int := if x < y then -1 else if x > y then 1 else 0
theorem sign_some (x y : Int) : heraldref03_sign.f x y = some (cmpI x y) := by
  unfold heraldref03_sign.f cmpI
  split
  · rfl
  · split <;> rfl
theorem cmpI_lt {x y : Int} (h : x < y) : cmpI x y = -1 := if_pos h
theorem cmpI_gt {x y : Int} (h : y < x) : cmpI x y = 1 := by unfold cmpI; rw [if_neg (by omega), if_pos h]
theorem cmpI_eq {x y : Int} (h : x = y) : cmpI x y = 0 := by unfold cmpI; rw [if_neg (by omega), if_neg (by omega)]
theorem ahead_l1 (m : Int) (e : Int) (he0 : -2000 ≤ e) (he1 : e ≤ 2000) : ∀ (d n k : Nat), n * 2 ^ d ≤ 4611686018427387904 → d ≤ 1000 → d + 1 ≤ k → heraldref03_ahead.l1 k m e (n : Int) (e + d) = some (cmpI m ((n * 2 ^ d : Nat) : Int)) := by
  intro d
  induction d with
  | zero =>
    intro n k hn hd hk
    obtain ⟨k, rfl⟩ : ∃ j, k = j + 1 := ⟨k - 1, by omega⟩
    simp only [heraldref03_ahead.l1]
    rw [if_neg (by omega), sign_some, Nat.pow_zero, Nat.mul_one]
    rfl
  | succ d ih =>
    intro n k hn hd hk
    obtain ⟨k, rfl⟩ : ∃ j, k = j + 1 := ⟨k - 1, by omega⟩
    have e1 : n * 2 ^ (d + 1) = n * 2 * 2 ^ d := by rw [Nat.pow_succ, Nat.mul_comm (2 ^ d) 2, Nat.mul_assoc]
    rw [e1] at hn ⊢
    have h2 : n * 2 ≤ n * 2 * 2 ^ d := Nat.le_mul_of_pos_right _ (pow_pos' d)
    simp only [heraldref03_ahead.l1]
    rw [if_pos (by omega), wrap_in (a := (n : Int) * 2) (by omega) (by omega), wrap_in (by omega) (by omega), show (n : Int) * 2 = ((n * 2 : Nat) : Int) from by omega, show e + ((d + 1 : Nat) : Int) - 1 = e + (d : Int) from by omega]
    exact ih (n * 2) k hn (by omega) (by omega)
theorem ahead_l0 (n : Nat) (f : Int) (hn : n ≤ 4611686018427387904) (hf0 : -2000 ≤ f) (hf1 : f ≤ 2000) : ∀ (d m k : Nat), m * 2 ^ d ≤ 4611686018427387904 → d ≤ 1000 → d + 2 ≤ k → heraldref03_ahead.l0 k (m : Int) (f + d) (n : Int) f = some (cmpI ((m * 2 ^ d : Nat) : Int) (n : Int)) := by
  intro d
  induction d with
  | zero =>
    intro m k hm hd hk
    obtain ⟨k, rfl⟩ : ∃ j, k = j + 1 := ⟨k - 1, by omega⟩
    simp only [heraldref03_ahead.l0]
    rw [if_neg (by omega), Nat.pow_zero, Nat.mul_one]
    have := ahead_l1 (m : Int) (f + ((0 : Nat) : Int)) (by omega) (by omega) 0 n k (by rw [Nat.pow_zero]; omega) (by omega) (by omega)
    rw [Nat.pow_zero, Nat.mul_one, show f + ((0 : Nat) : Int) + ((0 : Nat) : Int) = f from by omega] at this
    exact this
  | succ d ih =>
    intro m k hm hd hk
    obtain ⟨k, rfl⟩ : ∃ j, k = j + 1 := ⟨k - 1, by omega⟩
    have e1 : m * 2 ^ (d + 1) = m * 2 * 2 ^ d := by rw [Nat.pow_succ, Nat.mul_comm (2 ^ d) 2, Nat.mul_assoc]
    rw [e1] at hm ⊢
    have h2 : m * 2 ≤ m * 2 * 2 ^ d := Nat.le_mul_of_pos_right _ (pow_pos' d)
    simp only [heraldref03_ahead.l0]
    rw [if_pos (by omega), wrap_in (a := (m : Int) * 2) (by omega) (by omega), wrap_in (by omega) (by omega), show (m : Int) * 2 = ((m * 2 : Nat) : Int) from by omega, show f + ((d + 1 : Nat) : Int) - 1 = f + (d : Int) from by omega]
    exact ih (m * 2) k hm (by omega) (by omega)
/-- The size of a number in units of 2 to a place below. -/
def sz (m : Nat) (e base : Int) : Nat := m <<< (e - base).toNat
theorem sz_lt {m n : Nat} {e f base : Int} (hm : m ≠ 0) (hn : n ≠ 0) (he : base ≤ e) (hf : base ≤ f) (h : (m.log2 : Int) + e < (n.log2 : Int) + f) : sz m e base < sz n f base := by
  obtain ⟨_, h1⟩ := log_bounds m hm
  obtain ⟨h2, _⟩ := log_bounds n hn
  unfold sz
  rw [Nat.shiftLeft_eq, Nat.shiftLeft_eq]
  have g1 : m * 2 ^ (e - base).toNat < 2 ^ (m.log2 + 1) * 2 ^ (e - base).toNat := Nat.mul_lt_mul_of_pos_right h1 (pow_pos' _)
  have g2 : 2 ^ n.log2 * 2 ^ (f - base).toNat ≤ n * 2 ^ (f - base).toNat := Nat.mul_le_mul_right _ h2
  rw [← Nat.pow_add] at g1 g2
  have g3 : 2 ^ (m.log2 + 1 + (e - base).toNat) ≤ 2 ^ (n.log2 + (f - base).toNat) := Nat.pow_le_pow_right (by omega) (by omega)
  omega
theorem ahead_some (m n : Nat) (e f : Int) (hm : m < 16777216) (hn : n < 16777216) (he0 : -149 ≤ e) (he1 : e ≤ 1000) (hf0 : -149 ≤ f) (hf1 : f ≤ 1000) (k : Nat) (hk : 110 ≤ k) :
    heraldref03_ahead.f k (m : Int) e (n : Int) f = some (cmpI (sz m e (min e f) : Int) (sz n f (min e f) : Int)) := by
  obtain ⟨k, rfl⟩ : ∃ j, k = j + 1 := ⟨k - 1, by omega⟩
  have p1 := pow_pos' (e - min e f).toNat
  have p2 := pow_pos' (f - min e f).toNat
  unfold heraldref03_ahead.f
  by_cases c1 : m = 0
  · subst c1
    rw [if_pos (by rfl)]
    simp only [heraldref03_ahead.j0]
    rw [if_pos trivial, sign_some]
    simp only [Option.bind_some, Option.some.injEq]
    unfold sz cmpI
    rw [Nat.zero_shiftLeft, Nat.shiftLeft_eq]
    by_cases c2 : n = 0
    · subst c2; rw [Nat.zero_mul]
    · have : 0 < n * 2 ^ (f - min e f).toNat := Nat.mul_pos (by omega) p2
      rw [if_pos (by omega), if_pos (by omega)]
  · rw [if_neg (by omega)]
    by_cases c2 : n = 0
    · subst c2
      simp only [heraldref03_ahead.j0]
      rw [if_pos (by rfl), sign_some]
      simp only [Option.bind_some, Option.some.injEq]
      unfold sz
      rw [Nat.zero_shiftLeft, Nat.shiftLeft_eq]
      have : 0 < m * 2 ^ (e - min e f).toNat := Nat.mul_pos (by omega) p1
      rw [cmpI_gt (by omega), cmpI_gt (by omega)]
    · have l1 := log_lt m c1 (by omega)
      have l2 := log_lt n c2 (by omega)
      have b1 := log_bounds m c1
      have b2 := log_bounds n c2
      have hl1 : m.log2 < 24 := (Nat.log2_lt c1).2 (by omega)
      have hl2 : n.log2 < 24 := (Nat.log2_lt c2).2 (by omega)
      simp only [heraldref03_ahead.j0]
      rw [if_neg (by simp; omega), u64_in (by omega) (by omega), u64_in (by omega) (by omega), length_some m k (by omega) (by omega), length_some n k (by omega) (by omega), lenI_log m c1, lenI_log n c2]
      simp only [Option.bind_some]
      rw [wrap_in (a := (m.log2 : Int) + 1 + e) (by omega) (by omega), wrap_in (a := (n.log2 : Int) + 1 + f) (by omega) (by omega)]
      by_cases c3 : (m.log2 : Int) + 1 + e = (n.log2 : Int) + 1 + f
      · rw [if_pos c3]
        by_cases c4 : f ≤ e
        · obtain ⟨d, hd⟩ : ∃ d : Nat, e = f + d := ⟨(e - f).toNat, by omega⟩
          have hmn : min e f = f := by omega
          have hb : m * 2 ^ d ≤ 4611686018427387904 := by
            have g1 : m * 2 ^ d < 2 ^ (m.log2 + 1) * 2 ^ d := Nat.mul_lt_mul_of_pos_right b1.2 (pow_pos' _)
            rw [← Nat.pow_add] at g1
            have g3 : 2 ^ (m.log2 + 1 + d) ≤ 2 ^ 24 := Nat.pow_le_pow_right (by omega) (by omega)
            have g4 : 2 ^ 24 = 16777216 := by decide
            omega
          have := ahead_l0 n f (by omega) (by omega) (by omega) d m k hb (by omega) (by omega)
          rw [hmn]
          unfold sz
          rw [show (f - f).toNat = 0 by omega, Nat.shiftLeft_zero, show (e - f).toNat = d by omega, Nat.shiftLeft_eq]
          rw [hd]
          exact this
        · obtain ⟨d, hd⟩ : ∃ d : Nat, f = e + d := ⟨(f - e).toNat, by omega⟩
          have hmn : min e f = e := by omega
          have hb : n * 2 ^ d ≤ 4611686018427387904 := by
            have g1 : n * 2 ^ d < 2 ^ (n.log2 + 1) * 2 ^ d := Nat.mul_lt_mul_of_pos_right b2.2 (pow_pos' _)
            rw [← Nat.pow_add] at g1
            have g3 : 2 ^ (n.log2 + 1 + d) ≤ 2 ^ 24 := Nat.pow_le_pow_right (by omega) (by omega)
            have g4 : 2 ^ 24 = 16777216 := by decide
            omega
          obtain ⟨k, rfl⟩ : ∃ j, k = j + 1 := ⟨k - 1, by omega⟩
          have := ahead_l1 (m : Int) e (by omega) (by omega) d n k hb (by omega) (by omega)
          simp only [heraldref03_ahead.l0]
          rw [if_neg (by omega), hmn]
          unfold sz
          rw [show (e - e).toNat = 0 by omega, Nat.shiftLeft_zero, show (f - e).toNat = d by omega, Nat.shiftLeft_eq]
          rw [hd]
          exact this
      · rw [if_neg c3, sign_some]
        simp only [Option.bind_some, Option.some.injEq]
        by_cases c4 : (m.log2 : Int) + 1 + e < (n.log2 : Int) + 1 + f
        · have := sz_lt (base := min e f) c1 c2 (by omega) (by omega) (show (m.log2 : Int) + e < (n.log2 : Int) + f by omega)
          rw [cmpI_lt c4, cmpI_lt (by omega)]
        · have := sz_lt (base := min e f) c2 c1 (by omega) (by omega) (show (n.log2 : Int) + f < (m.log2 : Int) + e by omega)
          rw [cmpI_gt (by omega), cmpI_gt (by omega)]
end Go.Proofs.Yteecekhfpfnepaa.Sg
