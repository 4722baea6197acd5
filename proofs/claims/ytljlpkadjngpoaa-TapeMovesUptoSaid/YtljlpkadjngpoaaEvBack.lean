/- What was made is drawn. -/
import Derived.Test.YtljlpkadjngpoaaEvMade
namespace Go.Proofs.Ytljlpkadjngpoaa.Math
open Go.RowKit Go.Proofs.Ytljlpkadjngpoaa.PAll Go.Proofs.YtljlpkadjngpoaaW.PrintWords Go.Proofs.YtljlpkadjngpoaaW.PrintLast Go.Proofs.YtljlpkadjngpoaaW.PrintMore
set_option linter.unusedVariables false
set_option linter.unusedSimpArgs false

theorem num_take (R : Int) (l : List Int) (hR : 0 < R) (hF : ∀ x ∈ l, 0 ≤ x ∧ x < R) : ∀ (e m : Nat), m + e = l.length → ∃ q, num R l = num R (l.take m) * R ^ e + q ∧ 0 ≤ q ∧ q < R ^ e := by
  intro e
  induction e with
  | zero =>
    intro m hm
    obtain rfl : m = l.length := by omega
    exact ⟨0, by rw [List.take_length, Int.pow_zero]; omega, Int.le_refl _, by rw [Int.pow_zero]; omega⟩
  | succ e ih =>
    intro m hm
    obtain ⟨q, hq, q0, q1⟩ := ih (m + 1) (by omega)
    have hlt : m < l.length := by omega
    have p1 : (0 : Int) ≤ (m : Int) := Int.natCast_nonneg _
    have p2 : (m : Int) < (l.length : Int) := Int.ofNat_lt.mpr hlt
    obtain ⟨x0, x1⟩ := hF _ (rd_mem l m p1 p2)
    rw [take_snoc l m hlt, num_snoc] at hq
    have hs : R ^ (e + 1) = R ^ e * R := Int.pow_succ _ _
    have hR' : 0 < R ^ e := Int.pow_pos hR
    obtain ⟨x, hx⟩ : ∃ x, rd l (m : Int) = x := ⟨_, rfl⟩
    rw [hx] at hq x0 x1
    refine ⟨x * R ^ e + q, ?_, ?_, ?_⟩
    · rw [hq, hs, Int.add_mul, Int.mul_assoc (num R (l.take m)), Int.mul_comm R (R ^ e)]; omega
    · have := Int.mul_nonneg x0 (Int.le_of_lt hR'); omega
    · have : (x + 1) * R ^ e ≤ R * R ^ e := Int.mul_le_mul_of_nonneg_right (by omega) (Int.le_of_lt hR')
      rw [Int.add_mul] at this
      rw [hs, Int.mul_comm (R ^ e) R]
      omega
theorem bt_str (out : List Int) (t : ByteArray) (hb : ∀ x ∈ out, 0 ≤ x ∧ x < 256) (j : Nat) (hj : j < out.length) : bt (strOfNums out ++ t) (j : Int) = rd out (j : Int) := by
  have hsz : (strOfNums out).size = out.length := strOfNums_size out
  obtain ⟨x0, x1⟩ := hb _ (rd_mem out j (Int.natCast_nonneg _) (Int.ofNat_lt.mpr hj))
  unfold bt
  rw [dif_pos (show ((j : Int)).toNat < (strOfNums out ++ t).size by rw [Int.toNat_natCast, ByteArray.size_append, hsz]; omega)]
  have e : (strOfNums out ++ t)[((j : Int)).toNat]'(by rw [Int.toNat_natCast, ByteArray.size_append, hsz]; omega) = (strOfNums out)[j]'(by omega) := by
    simp only [Int.toNat_natCast]
    exact ByteArray.getElem_append_left (by omega)
  rw [e]
  have e2 : (strOfNums out)[j]'(by omega) = UInt8.ofNat (rd out (j : Int)).toNat := by
    show (strOfNums out).data[j]'_ = _
    simp [strOfNums, rd, List.getD_eq_getElem?_getD, hj]
  rw [e2, UInt8.toNat_ofNat']
  omega
theorem high_num (out : List Int) (t : ByteArray) (hb : ∀ x ∈ out, 0 ≤ x ∧ x < 256) : ∀ m : Nat, m ≤ out.length → highV (strOfNums out ++ t) 0 m = num 256 (out.take m)
  | 0, _ => by simp [highV, num]
  | m + 1, h => by
    rw [highV, high_num out t hb m (by omega), take_snoc out m (by omega), num_snoc, Int.zero_add, bt_str out t hb m (by omega)]
theorem back_draw (b : Int) (l out : List Int) (room : Nat) (t : ByteArray) (hb : IsBits b) (hF : Fits b l) (hI : Inv out room (b * l.length) (num (2 ^ b.toNat) l)) (i : Nat) (hi : i < l.length) : drawV b (strOfNums out ++ t) (i : Int) = rd l (i : Int) := by
  have hbb : 1 ≤ b ∧ b ≤ 32 := by unfold IsBits at hb; omega
  obtain ⟨n, hn⟩ : ∃ n, b.toNat = n := ⟨_, rfl⟩
  have hbn : b = (n : Int) := by omega
  rw [← drawV_at b _ _ hb]
  unfold Fits at hF
  have hlen := hI.len
  have hnum := hI.numb
  rw [hn] at hF hnum
  obtain ⟨e, he⟩ : ∃ e, i + 1 + e = l.length := ⟨l.length - (i + 1), by omega⟩
  obtain ⟨q, hq, q0, q1⟩ := num_take (2 ^ n) l (pow_pos' n) hF e (i + 1) he
  rw [take_snoc l i hi, num_snoc] at hq
  obtain ⟨x0, x1⟩ := hF _ (rd_mem l i (Int.natCast_nonneg _) (Int.ofNat_lt.mpr hi))
  rw [hn, show ((i : Int) * b) = ((i * n : Nat) : Int) from by rw [hbn]; simp]
  have hT : 8 * out.length = i * n + n + (n * e + room) := by
    have h1 : ((8 * out.length : Nat) : Int) = ((i * n + n + (n * e + room) : Nat) : Int) := by
      have h2 : b * (l.length : Int) = ((n * (i + 1 + e) : Nat) : Int) := by rw [hbn, ← he, ← Int.natCast_mul]
      rw [h2, Nat.mul_add, Nat.mul_add, Nat.mul_one, Nat.mul_comm n i] at hlen
      omega
    exact Int.ofNat_inj.mp h1
  have hv : atV (strOfNums out ++ t) 0 (8 * out.length) = num 256 out := by
    have := high_at (strOfNums out ++ t) 0 out.length
    rw [high_num out t hI.bytes out.length (Nat.le_refl _), List.take_length] at this
    simpa using this
  rw [hT, atV_add, atV_add, Int.zero_add, hnum, hq] at hv
  obtain ⟨r0, r1⟩ := atV_range (strOfNums out ++ t) (0 + ((i * n + n : Nat) : Int)) (n * e + room)
  obtain ⟨s0, s1⟩ := atV_range (strOfNums out ++ t) ((i * n : Nat) : Int) n
  obtain ⟨a, ha⟩ : ∃ a, atV (strOfNums out ++ t) 0 (i * n) = a := ⟨_, rfl⟩
  obtain ⟨c, hc⟩ : ∃ c, atV (strOfNums out ++ t) ((i * n : Nat) : Int) n = c := ⟨_, rfl⟩
  obtain ⟨d, hd⟩ : ∃ d, atV (strOfNums out ++ t) (0 + ((i * n + n : Nat) : Int)) (n * e + room) = d := ⟨_, rfl⟩
  obtain ⟨x, hx⟩ : ∃ x, rd l (i : Int) = x := ⟨_, rfl⟩
  obtain ⟨P, hP⟩ : ∃ P, num (2 ^ n) (l.take i) = P := ⟨_, rfl⟩
  rw [ha, hc, hd, hx, hP] at hv
  rw [hd] at r0 r1
  rw [hc] at s0 s1 ⊢
  rw [hx] at x0 x1 ⊢
  have hm : (2 : Int) ^ (n * e + room) = 2 ^ (n * e) * 2 ^ room := pow_add' _ _
  rw [← Int.pow_mul] at hv q1
  -- (a 2^n + c) 2^m + d = (P 2^n + x) 2^m + q 2^room
  have hv2 : (a * 2 ^ n + c) * 2 ^ (n * e + room) + d = (P * 2 ^ n + x) * 2 ^ (n * e + room) + q * 2 ^ room := by
    rw [hv, hm, Int.add_mul ((P * 2 ^ n + x) * _), Int.mul_assoc]
  have hq2 : q * 2 ^ room < 2 ^ (n * e + room) := by
    rw [hm]; exact Int.mul_lt_mul_of_pos_right q1 (pow_pos' room)
  have hq3 : 0 ≤ q * 2 ^ room := Int.mul_nonneg q0 (Int.le_of_lt (pow_pos' room))
  have hM := pow_pos' (n * e + room)
  have hdiv : ∀ y z : Int, 0 ≤ z → z < 2 ^ (n * e + room) → (y * 2 ^ (n * e + room) + z) / 2 ^ (n * e + room) = y := by
    intro y z z0 z1
    rw [Int.add_comm, Int.add_mul_ediv_right _ _ (by omega), Int.ediv_eq_zero_of_lt z0 z1, Int.zero_add]
  have h3 : a * 2 ^ n + c = P * 2 ^ n + x := by
    have := congrArg (· / (2 : Int) ^ (n * e + room)) hv2
    rwa [hdiv _ _ r0 r1, hdiv _ _ hq3 hq2] at this
  have h4 : (a * 2 ^ n + c) % 2 ^ n = (P * 2 ^ n + x) % 2 ^ n := by rw [h3]
  rw [Int.add_comm, Int.add_mul_emod_self_right, Int.add_comm (P * 2 ^ n), Int.add_mul_emod_self_right, Int.emod_eq_of_lt s0 s1, Int.emod_eq_of_lt x0 x1] at h4
  exact h4
theorem back_count (b : Int) (n c : Int) (room : Nat) (hb : IsBits b) (h : 8 * n = b * c + room) (hr : room ≤ 7) : c ≤ 8 * n / b ∧ 8 * n / b - c < 8 := by
  rcases hb with rfl | rfl | rfl | rfl | rfl | rfl <;> omega
theorem count_mono (b : Int) (n m : Int) (hb : IsBits b) (h : n ≤ m) : 8 * n / b ≤ 8 * m / b := by
  rcases hb with rfl | rfl | rfl | rfl | rfl | rfl <;> omega
end Go.Proofs.Ytljlpkadjngpoaa.Math
