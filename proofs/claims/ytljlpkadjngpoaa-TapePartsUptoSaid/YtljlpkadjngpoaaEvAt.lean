/- A draw of the document's reference, bit by bit, is the program's. -/
import Derived.Test.YtljlpkadjngpoaaTpHigh
import Derived.Test.YtljlpkadjngpoaaPAllx6
namespace Go.Proofs.Ytljlpkadjngpoaa.Math
open Go.RowKit Go.Proofs.Ytljlpkadjngpoaa.PAll Go.Proofs.YtljlpkadjngpoaaW.PrintWords Go.Proofs.YtljlpkadjngpoaaW.PrintLast Go.Proofs.YtljlpkadjngpoaaW.PrintMore
set_option linter.unusedVariables false
set_option linter.unusedSimpArgs false

theorem wrap_in {a : Int} (h0 : -9223372036854775808 ≤ a) (h1 : a ≤ 9223372036854775807) : wrap64 a = a := by unfold wrap64; omega
def bitV (s : ByteArray) (i : Int) : Int := bt s (i / 8) / 2 ^ (7 - i % 8).toNat % 2
/-- The number of some bits, the first one the greatest. -/
def atV (s : ByteArray) (p : Int) : Nat → Int
  | 0 => 0
  | n + 1 => 2 * atV s p n + bitV s (p + n)
theorem bitV_range (s : ByteArray) (i : Int) : 0 ≤ bitV s i ∧ bitV s i ≤ 1 := by unfold bitV; omega
theorem atV_range (s : ByteArray) (p : Int) (n : Nat) : 0 ≤ atV s p n ∧ atV s p n < 2 ^ n := by
  induction n with
  | zero => exact ⟨Int.le_refl _, by rw [atV, Int.pow_zero]; omega⟩
  | succ n ih =>
    obtain ⟨h0, h1⟩ := ih
    obtain ⟨b0, b1⟩ := bitV_range s (p + n)
    have e : (2 : Int) ^ (n + 1) = 2 ^ n * 2 := Int.pow_succ _ _
    rw [atV, e]
    generalize (2 : Int) ^ n = z at *
    omega
theorem bit_loop (i : Int) (h0 : 0 ≤ i) : ∀ (d : Nat) (b : Int) (j : Int) (k : Nat), (d : Int) = 7 - i % 8 - j → 0 ≤ j → 0 ≤ b → b ≤ 255 → d < k → heraldref23_bit.l0 k i b j = some (b / 2 ^ d % 2) := by
  intro d
  induction d with
  | zero =>
    intro b j k hd hj hb hb2 hk
    obtain ⟨k, rfl⟩ : ∃ m, k = m + 1 := ⟨k - 1, by omega⟩
    simp only [heraldref23_bit.l0]
    rw [Int.tmod_eq_emod_of_nonneg h0, wrap_in (by omega) (by omega), if_neg (by omega), Int.tmod_eq_emod_of_nonneg hb, Int.pow_zero, Int.ediv_one]
  | succ d ih =>
    intro b j k hd hj hb hb2 hk
    obtain ⟨k, rfl⟩ : ∃ m, k = m + 1 := ⟨k - 1, by omega⟩
    simp only [heraldref23_bit.l0]
    rw [Int.tmod_eq_emod_of_nonneg h0, wrap_in (a := 7 - i % 8) (by omega) (by omega), if_pos (by omega), Int.tdiv_eq_ediv_of_nonneg hb, wrap_in (by omega) (by omega), wrap_in (by omega) (by omega), ih (b / 2) (j + 1) k (by omega) (by omega) (by omega) (by omega) (by omega)]
    rw [show (2 : Int) ^ (d + 1) = 2 * 2 ^ d from by rw [Int.pow_succ, Int.mul_comm], Int.ediv_ediv_of_nonneg (by omega)]
theorem bit_some (s : ByteArray) (i : Int) (h0 : 0 ≤ i) (h1 : i / 8 < (s.size : Int)) (hi : i ≤ 9223372036854775807) (k : Nat) (hk : 10 < k) : heraldref23_bit.f k s i = some (bitV s i) := by
  obtain ⟨b0, b1⟩ := bt_range s (i / 8)
  unfold heraldref23_bit.f
  rw [Int.tdiv_eq_ediv_of_nonneg h0, wrap_in (a := i / 8) (by omega) (by omega), if_pos (by omega), if_pos h1, wrap_in (by omega) (by omega), bit_loop i h0 (7 - i % 8).toNat _ 0 k (by omega) (by omega) b0 b1 (by omega)]
  rfl
theorem at_loop (b : Int) (s : ByteArray) (i : Int) (hb : IsBits b) (h0 : 0 ≤ i) (h1 : i * b + b ≤ 8 * (s.size : Int)) (hs : (s.size : Int) ≤ 281474976710656) : ∀ (d : Nat) (j : Nat) (k : Nat), (d : Int) = b - j → d + 20 < k →
    heraldref23_At.l0 k b s i (atV s (i * b) j) (j : Int) = some (atV s (i * b) b.toNat) := by
  have hbb : 1 ≤ b ∧ b ≤ 32 := by unfold IsBits at hb; omega
  have hib : 0 ≤ i * b := Int.mul_nonneg h0 (by omega)
  intro d
  induction d with
  | zero =>
    intro j k hd hk
    obtain ⟨k, rfl⟩ : ∃ m, k = m + 1 := ⟨k - 1, by omega⟩
    simp only [heraldref23_At.l0]
    rw [if_neg (by omega), show b.toNat = j from by omega]
  | succ d ih =>
    intro j k hd hk
    obtain ⟨k, rfl⟩ : ∃ m, k = m + 1 := ⟨k - 1, by omega⟩
    obtain ⟨a0, a1⟩ := atV_range s (i * b) j
    obtain ⟨c0, c1⟩ := bitV_range s (i * b + j)
    have hp : (2 : Int) ^ j ≤ 2 ^ 32 := by
      have := Nat.pow_le_pow_right (show 0 < 2 by omega) (show j ≤ 32 by omega)
      exact_mod_cast this
    have hp2 : (2 : Int) ^ 32 = 4294967296 := by decide
    simp only [heraldref23_At.l0]
    rw [if_pos (by omega), wrap_in (a := i * b) (by omega) (by omega), wrap_in (a := i * b + (j : Int)) (by omega) (by omega), bit_some s _ (by omega) (by omega) (by omega) k (by omega)]
    simp only [Option.bind_some]
    rw [wrap_in (a := 2 * atV s (i * b) j) (by omega) (by omega), wrap_in (by omega) (by omega), wrap_in (by omega) (by omega)]
    exact ih (j + 1) k (by omega) (by omega)
/-- Some bits, and some more. -/
theorem atV_add (s : ByteArray) (p : Int) (a : Nat) : ∀ c : Nat, atV s p (a + c) = atV s p a * 2 ^ c + atV s (p + a) c
  | 0 => by simp [atV]
  | c + 1 => by
    have e : (2 : Int) ^ (c + 1) = 2 ^ c * 2 := Int.pow_succ _ _
    rw [← Nat.add_assoc, atV, atV_add s p a c, atV, e, show p + ((a + c : Nat) : Int) = p + a + c from by omega, ← Int.mul_assoc]
    generalize atV s p a * 2 ^ c = z
    omega
theorem byte_at (s : ByteArray) (q : Int) : atV s (8 * q) 8 = bt s q := by
  obtain ⟨b0, b1⟩ := bt_range s q
  have e : ∀ j : Nat, j < 8 → bitV s (8 * q + j) = bt s q / 2 ^ (7 - j) % 2 := by
    intro j hj
    unfold bitV
    rw [show (8 * q + (j : Int)) / 8 = q from by omega, show (7 - (8 * q + (j : Int)) % 8).toNat = 7 - j from by omega]
  simp only [atV, e 0 (by omega), e 1 (by omega), e 2 (by omega), e 3 (by omega), e 4 (by omega), e 5 (by omega), e 6 (by omega), e 7 (by omega)]
  generalize bt s q = b at *
  simp only [show (2 : Int) ^ (7 - 0) = 128 from rfl, show (2 : Int) ^ (7 - 1) = 64 from rfl, show (2 : Int) ^ (7 - 2) = 32 from rfl, show (2 : Int) ^ (7 - 3) = 16 from rfl, show (2 : Int) ^ (7 - 4) = 8 from rfl, show (2 : Int) ^ (7 - 5) = 4 from rfl, show (2 : Int) ^ (7 - 6) = 2 from rfl, show (2 : Int) ^ (7 - 7) = 1 from rfl]
  omega
theorem high_at (s : ByteArray) (q : Int) : ∀ m : Nat, atV s (8 * q) (8 * m) = highV s q m
  | 0 => rfl
  | m + 1 => by
    rw [show 8 * (m + 1) = 8 * m + 8 from by omega, atV_add, high_at s q m, show 8 * q + ((8 * m : Nat) : Int) = 8 * (q + m) from by omega, byte_at]
    rfl
theorem low_at (s : ByteArray) (n : Nat) (i : Int) (hn : n = 1 ∨ n = 2 ∨ n = 4) : atV s (i * n) n = lowV n s (i * n) := by
  obtain ⟨b0, b1⟩ := bt_range s (i * n / 8)
  have e : ∀ j : Nat, (i * n) % 8 + j < 8 → bitV s (i * n + j) = bt s (i * n / 8) / 2 ^ (7 - (i * n) % 8 - j).toNat % 2 := by
    intro j hj
    unfold bitV
    rw [show (i * n + (j : Int)) / 8 = i * n / 8 from by omega, show (7 - (i * n + (j : Int)) % 8) = 7 - (i * n) % 8 - j from by omega]
  unfold lowV
  rcases hn with rfl | rfl | rfl
  · simp only [atV]
    rw [e 0 (by omega)]
    rw [show (8 - ((1 : Nat) : Int) - i * ((1 : Nat) : Int) % 8) = 7 - i * ((1 : Nat) : Int) % 8 - ((0 : Nat) : Int) from by omega]
    omega
  · simp only [atV]
    rw [e 0 (by omega), e 1 (by omega)]
    generalize bt s (i * ((2 : Nat) : Int) / 8) = b at *
    rcases (show (i * ((2 : Nat) : Int)) % 8 = 0 ∨ (i * ((2 : Nat) : Int)) % 8 = 2 ∨ (i * ((2 : Nat) : Int)) % 8 = 4 ∨ (i * ((2 : Nat) : Int)) % 8 = 6 by omega) with h | h | h | h <;> rw [h]
    · show 2 * (2 * 0 + b / 128 % 2) + b / 64 % 2 = b / 64 % 4
      omega
    · show 2 * (2 * 0 + b / 32 % 2) + b / 16 % 2 = b / 16 % 4
      omega
    · show 2 * (2 * 0 + b / 8 % 2) + b / 4 % 2 = b / 4 % 4
      omega
    · show 2 * (2 * 0 + b / 2 % 2) + b / 1 % 2 = b / 1 % 4
      omega
  · simp only [atV]
    rw [e 0 (by omega), e 1 (by omega), e 2 (by omega), e 3 (by omega)]
    generalize bt s (i * ((4 : Nat) : Int) / 8) = b at *
    rcases (show (i * ((4 : Nat) : Int)) % 8 = 0 ∨ (i * ((4 : Nat) : Int)) % 8 = 4 by omega) with h | h <;> rw [h]
    · show 2 * (2 * (2 * (2 * 0 + b / 128 % 2) + b / 64 % 2) + b / 32 % 2) + b / 16 % 2 = b / 16 % 16
      omega
    · show 2 * (2 * (2 * (2 * 0 + b / 8 % 2) + b / 4 % 2) + b / 2 % 2) + b / 1 % 2 = b / 1 % 16
      omega
theorem drawV_at (b : Int) (s : ByteArray) (i : Int) (hb : IsBits b) : atV s (i * b) b.toNat = drawV b s i := by
  unfold drawV
  rcases hb with rfl | rfl | rfl | rfl | rfl | rfl
  · exact low_at s 1 i (.inl rfl)
  · exact low_at s 2 i (.inr (.inl rfl))
  · exact low_at s 4 i (.inr (.inr rfl))
  · have := high_at s (i * 1) 1
    rw [show 8 * (i * 1) = i * 8 from by omega] at this
    exact this
  · have := high_at s (i * 2) 2
    rw [show 8 * (i * 2) = i * 16 from by omega] at this
    exact this
  · have := high_at s (i * 4) 4
    rw [show 8 * (i * 4) = i * 32 from by omega] at this
    exact this
/-- A draw of the reference. -/
theorem at_some (b : Int) (s : ByteArray) (i : Int) (hb : IsBits b) (h0 : 0 ≤ i) (h1 : i * b + b ≤ 8 * (s.size : Int)) (hs : (s.size : Int) ≤ 281474976710656) (k : Nat) (hk : 60 < k) : heraldref23_At.f k b s i = some (drawV b s i) := by
  unfold heraldref23_At.f
  have hbb : 1 ≤ b ∧ b ≤ 32 := by unfold IsBits at hb; omega
  have := at_loop b s i hb h0 h1 hs b.toNat 0 k (by omega) (by omega)
  rw [drawV_at b s i hb] at this
  exact this
theorem draw_fits {b i : Int} {n : Int} (hb : IsBits b) (h0 : 0 ≤ i) (h1 : i < 8 * n / b) : i * b + b ≤ 8 * n := by
  unfold IsBits at hb
  rcases hb with rfl | rfl | rfl | rfl | rfl | rfl <;> omega
theorem drawV_range (b : Int) (s : ByteArray) (i : Int) (hb : IsBits b) : 0 ≤ drawV b s i ∧ drawV b s i < 4294967296 := by
  rw [← drawV_at b s i hb]
  obtain ⟨h0, h1⟩ := atV_range s (i * b) b.toNat
  have hp : (2 : Int) ^ b.toNat ≤ 2 ^ 32 := by
    have := Nat.pow_le_pow_right (show 0 < 2 by omega) (show b.toNat ≤ 32 by unfold IsBits at hb; omega)
    exact_mod_cast this
  have hp2 : (2 : Int) ^ 32 = 4294967296 := by decide
  omega
end Go.Proofs.Ytljlpkadjngpoaa.Math
