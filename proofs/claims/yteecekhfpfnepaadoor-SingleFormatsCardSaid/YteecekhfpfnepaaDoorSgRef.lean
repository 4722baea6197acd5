/- The reference's near: the same word. -/
import Derived.Test.YteecekhfpfnepaaDoorSgNear
import Derived.Test.YteecekhfpfnepaaDoorPAllx10
namespace Go.Proofs.YteecekhfpfnepaaDoor.Sg
open Go.RowKit Go.Proofs.YteecekhfpfnepaaDoor.PAll Go.Proofs.YteecekhfpfnepaaDoorW.PrintWords Go.Proofs.YteecekhfpfnepaaDoorW.PrintLast Go.Proofs.YteecekhfpfnepaaDoorW.PrintMore
set_option linter.unusedVariables false
set_option linter.unusedSimpArgs false

theorem length_loop : ∀ (d m k : Nat) (n : Int), m < 2 ^ d → d ≤ 64 → d + 1 ≤ k → 0 ≤ n → n + d ≤ 1000 → heraldref03_length.l0 k (m : Int) n = some (n + lenI (m : Int)) := by
  intro d
  induction d with
  | zero =>
    intro m k n hm hd hk hn0 hn1
    obtain ⟨k, rfl⟩ : ∃ j, k = j + 1 := ⟨k - 1, by omega⟩
    obtain rfl : m = 0 := by simpa using hm
    simp only [heraldref03_length.l0]
    rw [if_neg (by omega)]
    simp [lenI]
  | succ d ih =>
    intro m k n hm hd hk hn0 hn1
    obtain ⟨k, rfl⟩ : ∃ j, k = j + 1 := ⟨k - 1, by omega⟩
    simp only [heraldref03_length.l0]
    by_cases h0 : m = 0
    · subst h0
      rw [if_neg (by omega)]
      simp [lenI]
    · have h64 : 2 ^ (d + 1) ≤ 2 ^ 64 := Nat.pow_le_pow_right (by omega) hd
      have e64 : 2 ^ 64 = 18446744073709551616 := by decide
      have hh : m / 2 < 2 ^ d := by rw [Nat.pow_succ] at hm; omega
      rw [if_pos (by omega), Int.tdiv_eq_ediv_of_nonneg (by omega), u64_in (by omega) (by omega), wrap_in (by omega) (by omega), show (m : Int) / 2 = ((m / 2 : Nat) : Int) from by omega, ih (m / 2) k (n + 1) hh (by omega) (by omega) (by omega) (by omega)]
      have e1 : (2 : Int) ^ 1 = 2 := rfl
      have : lenI (m : Int) = 1 + lenI ((m : Int) / 2) := by
        by_cases h1 : m = 1
        · subst h1; decide
        · have := lenI_div (m : Int) 1 (by rw [e1]; omega)
          rw [e1] at this
          exact this
      rw [show (m : Int) / 2 = ((m / 2 : Nat) : Int) from by omega] at this
      exact congrArg some (by omega)
theorem length_some (m k : Nat) (hm : m < 18446744073709551616) (hk : 70 ≤ k) : heraldref03_length.f k (m : Int) = some (lenI (m : Int)) := by
  unfold heraldref03_length.f
  rw [length_loop 64 m k 0 hm (by omega) (by omega) (by omega) (by omega), Int.zero_add]
theorem ref_j4 (neg : Bool) (last : Int) (q k : Nat) (h1 : -149 ≤ last) (h2 : last ≤ 1000) (hq : q < 16777216) : heraldref03_near.j4 (k + 1) (sgn neg) last (q : Int) = some (fin (sgn neg) last q) := by
  have hs : sgn neg = 0 ∨ sgn neg = 2147483648 := by cases neg <;> simp [sgn]
  simp only [heraldref03_near.j4]
  unfold fin
  rw [wrap_in (by omega) (by omega)]
  by_cases c1 : q < 8388608
  · rw [if_pos (by omega), if_pos c1]
    congr 1
    omega
  · rw [if_neg (by omega), if_neg c1]
    by_cases c2 : last + 150 ≥ 255
    · rw [if_pos c2, if_pos c2]
      congr 1
      omega
    · rw [if_neg c2, if_neg c2, u64_in (by omega) (by omega)]
      congr 1
      omega
theorem ref_j3 (neg : Bool) (m : Nat) (e : Int) (h0 : m ≠ 0) (hm : m < 18446744073709551616) (he : e ≤ 400) (k : Nat) (hk : 2 ≤ k) : heraldref03_near.j3 k (sgn neg) (lastP m e) ((keptQ m e (lastP m e) : Nat) : Int) = some (NR neg m e) := by
  obtain ⟨k, rfl⟩ : ∃ j, k = j + 2 := ⟨k - 2, by omega⟩
  obtain ⟨h1, h2, h3⟩ := kept_ok m e h0
  have hl := log_lt m h0 hm
  have hlp : lastP m e = max (e + m.log2 - 23) (-149) := rfl
  simp only [heraldref03_near.j3]
  rw [← fin_eq neg m e h0]
  by_cases c3 : keptQ m e (lastP m e) = 16777216
  · rw [if_pos (by omega), if_pos c3, wrap_in (by omega) (by omega), c3, show IntKind.u64.wrap (Int.tdiv ((16777216 : Nat) : Int) 2) = ((8388608 : Nat) : Int) from by decide, ref_j4 neg _ _ k (by omega) (by omega) (by omega)]
  · rw [if_neg (by omega), if_neg c3, ref_j4 neg _ _ k (by omega) (by omega) (by omega)]
theorem ref_j2 (neg : Bool) (m : Nat) (e : Int) (h0 : m ≠ 0) (hm : m < 18446744073709551616) (he0 : -400 ≤ e) (he : e ≤ 400) (k : Nat) (hk : 3 ≤ k) : heraldref03_near.j2 k (m : Int) e (sgn neg) (lastP m e) = some (NR neg m e) := by
  obtain ⟨k, rfl⟩ : ∃ j, k = j + 1 := ⟨k - 1, by omega⟩
  have hj := ref_j3 neg m e h0 hm he k (by omega)
  have hl := log_lt m h0 hm
  have hb := (log_bounds m h0).2
  have hlp : lastP m e = max (e + m.log2 - 23) (-149) := rfl
  unfold keptQ at hj
  obtain ⟨L, hL⟩ : ∃ L, lastP m e = L := ⟨_, rfl⟩
  rw [hL] at hj hlp ⊢
  clear hL
  simp only [heraldref03_near.j2]
  rw [wrap_in (a := L - e) (by omega) (by omega)]
  by_cases hs : L ≤ e
  · obtain ⟨t, ht⟩ : ∃ t, (e - L).toNat = t := ⟨_, rfl⟩
    have h4 : m.log2 + 1 + t ≤ 24 := by omega
    have h3 : m * 2 ^ t < 2 ^ (m.log2 + 1) * 2 ^ t := Nat.mul_lt_mul_of_pos_right hb (pow_pos' t)
    rw [← Nat.pow_add] at h3
    have h5 : 2 ^ (m.log2 + 1 + t) ≤ 2 ^ 24 := Nat.pow_le_pow_right (by omega) h4
    have h6 : 2 ^ 24 = 16777216 := by decide
    rw [show (L - e).toNat = 0 by omega, rhe_zero, ht, Nat.shiftLeft_eq] at hj
    rw [if_pos (by omega), wrap_in (a := -(L - e)) (by omega) (by omega), show -(L - e) = (t : Int) from by omega, u64_in (by omega) (by omega), if_pos (by omega), shl_u m t (by omega) (by omega)]
    exact hj
  · obtain ⟨s, hs'⟩ : ∃ s, (L - e).toNat = s := ⟨_, rfl⟩
    have hse : L - e = (s : Int) := by omega
    rw [show (e - L).toNat = 0 by omega, Nat.shiftLeft_zero, hs'] at hj
    rw [hse, if_neg (by omega)]
    by_cases h64 : s ≤ 64
    · rw [if_pos (by omega), wrap_in (a := (s : Int) - 1) (by omega) (by omega), show (s : Int) - 1 = ((s - 1 : Nat) : Int) from by omega, u64_in (a := ((s - 1 : Nat) : Int)) (by omega) (by omega), shl_one (s - 1) (by omega)]
      have hph := pow_half s (by omega)
      have hp1 := pow_pos' (s - 1)
      by_cases h63 : s < 64
      · obtain ⟨hr1, hr2⟩ := rhe_lt m s hm (by omega)
        have hdm := Nat.div_add_mod m (2 ^ s)
        have hmul : m / 2 ^ s * 2 ^ s ≤ m := Nat.div_mul_le_self _ _
        have hmod : m % 2 ^ s < 2 ^ s := Nat.mod_lt _ (pow_pos' s)
        rw [if_pos (by omega), u64_in (a := (s : Int)) (by omega) (by omega), if_pos (by omega), if_pos (by omega), shr_u m s (by omega), shl_u _ s (by omega) (by omega)]
        unfold rhe at hj
        rw [Nat.mul_comm] at hdm
        obtain ⟨q, hq⟩ : ∃ q, m / 2 ^ s = q := ⟨_, rfl⟩
        obtain ⟨qs, hqs⟩ : ∃ qs, q * 2 ^ s = qs := ⟨_, rfl⟩
        obtain ⟨rr, hrr⟩ : ∃ rr, m % 2 ^ s = rr := ⟨_, rfl⟩
        obtain ⟨hh, hhh⟩ : ∃ hh, 2 ^ (s - 1) = hh := ⟨_, rfl⟩
        rw [hq] at hr2 hj hdm hmul ⊢
        rw [hqs] at hdm hmul ⊢
        rw [hrr] at hmod hj hdm
        rw [hhh] at hph hp1 ⊢
        rw [hph] at hmod hj
        rw [u64_in (a := (m : Int) - (qs : Int)) (by omega) (by omega), show (m : Int) - (qs : Int) = (rr : Int) from by omega, u64_in (a := (q : Int) + 1) (by omega) (by omega), Int.tmod_eq_emod_of_nonneg (by omega)]
        by_cases c1 : rr > hh
        · rw [if_pos (by omega)]
          rw [if_pos (.inl (by omega))] at hj
          exact hj
        · rw [if_neg (by omega)]
          by_cases c2 : rr = hh
          · rw [if_pos (by omega)]
            by_cases c3 : q % 2 = 1
            · rw [if_pos (by omega)]
              rw [if_pos (.inr ⟨by omega, c3⟩)] at hj
              exact hj
            · rw [if_neg (by omega)]
              rw [if_neg (by omega)] at hj
              exact hj
          · rw [if_neg (by omega)]
            rw [if_neg (by omega)] at hj
            exact hj
      · obtain rfl : s = 64 := by omega
        rw [if_neg (by omega)]
        have e1 : 2 ^ (64 - 1) = 9223372036854775808 := by decide
        have e2 : 2 ^ 64 = 18446744073709551616 := by decide
        have er : rhe m 64 = if 9223372036854775808 < m then 1 else 0 := by
          unfold rhe
          rw [e2, Nat.div_eq_of_lt hm, Nat.mod_eq_of_lt hm]
          by_cases c1 : 9223372036854775808 < m
          · rw [if_pos (.inl (by omega)), if_pos c1]
          · rw [if_neg (by omega), if_neg c1]
        rw [er] at hj
        rw [e1, if_pos (by omega)]
        by_cases c1 : 9223372036854775808 < m
        · rw [if_pos (by omega)]
          rw [if_pos c1] at hj
          exact hj
        · rw [if_neg (by omega)]
          rw [if_neg c1] at hj
          split
          · rw [if_neg (by decide)]; exact hj
          · exact hj
    · rw [if_neg (by omega)]
      rw [rhe_small (by
        have : 2 ^ 65 ≤ 2 ^ s := Nat.pow_le_pow_right (by omega) (by omega)
        have e2 : 2 ^ 65 = 36893488147419103232 := by decide
        omega)] at hj
      exact hj
theorem refnear_some (neg : Bool) (m : Nat) (e : Int) (hm : m < 18446744073709551616) (k : Nat) (hk : 80 ≤ k) : heraldref03_near.f k neg (m : Int) e = some (NR neg m e) := by
  have hf : heraldref03_near.f k neg (m : Int) e = heraldref03_near.j0 k (m : Int) e (sgn neg) := by
    unfold heraldref03_near.f; cases neg <;> rfl
  rw [hf]
  obtain ⟨k, rfl⟩ : ∃ j, k = j + 2 := ⟨k - 2, by omega⟩
  simp only [heraldref03_near.j0]
  by_cases h0 : m = 0
  · subst h0
    rw [if_pos (by rfl)]
    simp only [heraldref03_near.j1]
    rw [if_pos trivial, NR]
    simp [rung]
  · rw [if_neg (by omega)]
    simp only [heraldref03_near.j1]
    by_cases c1 : e < -400
    · rw [if_pos (by simp [c1]), NR, rung_small m e hm (by omega)]; simp
    · rw [if_neg (by simp; omega)]
      by_cases c2 : e > 400
      · have hs : sgn neg = 0 ∨ sgn neg = 2147483648 := by cases neg <;> simp [sgn]
        rw [if_pos c2, NR, rung_big m e h0 (by omega)]
        congr 1
        omega
      · have hl := log_lt m h0 hm
        have hlp : lastP m e = max (e + m.log2 - 23) (-149) := rfl
        rw [if_neg c2, length_some m k hm (by omega), lenI_log m h0]
        simp only [Option.bind_some]
        rw [wrap_in (a := e + _) (by omega) (by omega), wrap_in (by omega) (by omega)]
        have hj := ref_j2 neg m e h0 hm (by omega) (by omega) k (by omega)
        split
        · rw [show lastP m e = -149 from by omega] at hj; exact hj
        · rw [show lastP m e = e + ((m.log2 : Int) + 1) - 24 from by omega] at hj; exact hj
end Go.Proofs.YteecekhfpfnepaaDoor.Sg
