/- Rounding does not turn by scale, nor where what is lost counts as one. -/
import Derived.Test.YteecekhfpfnepaaDoorSgNear
namespace Go.Proofs.YteecekhfpfnepaaDoor.Sg
set_option linter.unusedVariables false
set_option linter.unusedSimpArgs false

theorem rhe_exact (a s : Nat) : rhe (a * 2 ^ s) s = a := by
  have hp := pow_pos' s
  unfold rhe
  rw [Nat.mul_div_cancel _ hp, Nat.mul_mod_left, if_neg (by omega)]
  rfl
theorem rhe_scale (m D t : Nat) : rhe (m * 2 ^ t) (D + t) = rhe m D := by
  have hp := pow_pos' t
  unfold rhe
  rw [Nat.pow_add, Nat.mul_div_mul_right _ _ hp, Nat.mul_mod_mul_right]
  have h1 : (2 ^ D * 2 ^ t < 2 * (m % 2 ^ D * 2 ^ t)) ↔ (2 ^ D < 2 * (m % 2 ^ D)) := by
    rw [← Nat.mul_assoc]
    exact Nat.mul_lt_mul_right hp
  have h2 : (2 ^ D * 2 ^ t = 2 * (m % 2 ^ D * 2 ^ t)) ↔ (2 ^ D = 2 * (m % 2 ^ D)) := by
    rw [← Nat.mul_assoc]
    exact Nat.mul_right_cancel_iff hp
  simp only [h1, h2]
theorem log2_scale (m t : Nat) (hm : m ≠ 0) : (m * 2 ^ t).log2 = m.log2 + t := by
  have hp := pow_pos' t
  obtain ⟨h1, h2⟩ := log_bounds m hm
  rw [Nat.log2_eq_iff (Nat.mul_ne_zero hm (by omega))]
  constructor
  · rw [Nat.pow_add]; exact Nat.mul_le_mul_right _ h1
  · rw [show m.log2 + t + 1 = (m.log2 + 1) + t by omega, Nat.pow_add]; exact Nat.mul_lt_mul_of_pos_right h2 hp
theorem rung_scale (m t : Nat) (e : Int) : rung (m * 2 ^ t) (e - t) = rung m e := by
  by_cases hm : m = 0
  · subst hm; simp [rung]
  have hp := pow_pos' t
  rw [rung_eq m e hm, rung_eq _ _ (Nat.mul_ne_zero hm (by omega))]
  have hL : lastP (m * 2 ^ t) (e - t) = lastP m e := by
    unfold lastP
    rw [log2_scale m t hm]
    congr 1
    omega
  rw [hL]
  obtain ⟨L, hl⟩ : ∃ L, lastP m e = L := ⟨_, rfl⟩
  rw [hl]
  have hk : keptQ (m * 2 ^ t) (e - t) L = keptQ m e L := by
    unfold keptQ
    by_cases c1 : L ≤ e - t
    · rw [show (L - (e - t)).toNat = 0 by omega, show (L - e).toNat = 0 by omega, rhe_zero, rhe_zero, Nat.shiftLeft_eq, Nat.shiftLeft_eq, Nat.mul_assoc, ← Nat.pow_add]
      congr 2
      omega
    · rw [show (e - t - L).toNat = 0 by omega, Nat.shiftLeft_zero]
      by_cases c2 : L ≤ e
      · rw [show (L - e).toNat = 0 by omega, rhe_zero, Nat.shiftLeft_eq]
        obtain ⟨s, hs⟩ : ∃ s, (L - (e - t)).toNat = s := ⟨_, rfl⟩
        rw [hs, show t = (e - L).toNat + s by omega, Nat.pow_add, ← Nat.mul_assoc, rhe_exact]
      · rw [show (e - L).toNat = 0 by omega, Nat.shiftLeft_zero, show (L - (e - t)).toNat = (L - e).toNat + t by omega, rhe_scale]
  rw [hk]
/-- Where something is lost below, an odd last digit tells of it as well. -/
theorem rhe_stick (X M D k : Nat) (hX : X % 2 = 1) (hD : 2 ≤ D) (h1 : (X - 1) * 2 ^ k < M) (h2 : M < (X + 1) * 2 ^ k) : rhe M (D + k) = rhe X D := by
  have hp := pow_pos' k
  have hD2 : 2 ^ D = 2 * 2 ^ (D - 1) := pow_half D (by omega)
  have hD3 : 2 ^ (D - 1) = 2 * 2 ^ (D - 1 - 1) := pow_half (D - 1) (by omega)
  obtain ⟨H, hH⟩ : ∃ H, 2 ^ (D - 1) = H := ⟨_, rfl⟩
  obtain ⟨P, hP⟩ : ∃ P, 2 ^ k = P := ⟨_, rfl⟩
  have hHp : 0 < H := by rw [← hH]; exact pow_pos' _
  rw [hH] at hD2 hD3
  rw [hP] at h1 h2 hp
  have hdm := Nat.div_add_mod X (2 * H)
  have hmod : X % (2 * H) < 2 * H := Nat.mod_lt _ (by omega)
  unfold rhe
  rw [Nat.pow_add, hD2, hP]
  obtain ⟨Q, hQ⟩ : ∃ Q, X / (2 * H) = Q := ⟨_, rfl⟩
  obtain ⟨R, hR⟩ : ∃ R, X % (2 * H) = R := ⟨_, rfl⟩
  rw [hQ, hR] at hdm ⊢
  rw [hR] at hmod
  have hHe : H % 2 = 0 := by omega
  -- the rest is odd
  have hRo : R % 2 = 1 := by
    have e1 : 2 * H * Q = 2 * (H * Q) := Nat.mul_assoc _ _ _
    omega
  obtain ⟨T, hT⟩ : ∃ T, H * P = T := ⟨_, rfl⟩
  obtain ⟨RP, hRP⟩ : ∃ RP, R * P = RP := ⟨_, rfl⟩
  have eT : 2 * H * P = 2 * T := by rw [Nat.mul_assoc, hT]
  have eX : X * P = Q * (2 * T) + RP := by rw [← hdm, Nat.add_mul, hRP, ← eT, Nat.mul_comm (2 * H) Q, Nat.mul_assoc]
  have g1 : (X - 1) * P = X * P - P := by rw [Nat.sub_mul, Nat.one_mul]
  have g2 : (X + 1) * P = X * P + P := by rw [Nat.add_mul, Nat.one_mul]
  have gXP : P ≤ X * P := Nat.le_mul_of_pos_left _ (by omega)
  rw [g1] at h1
  rw [g2] at h2
  have r1 : P ≤ RP := by rw [← hRP]; exact Nat.le_mul_of_pos_left _ (by omega)
  have r2 : RP + P ≤ 2 * T := by
    rw [← hRP, ← eT]
    have : (R + 1) * P ≤ 2 * H * P := Nat.mul_le_mul_right _ (by omega)
    rw [Nat.add_mul, Nat.one_mul] at this
    exact this
  obtain ⟨QT, hQT⟩ : ∃ QT, Q * (2 * T) = QT := ⟨_, rfl⟩
  rw [hQT] at eX
  have hTp : 0 < 2 * T := by omega
  obtain ⟨r, hr⟩ : ∃ r, M = r + QT := ⟨M - QT, by omega⟩
  have hr1 : r < 2 * T := by omega
  have hMd : M / (2 * T) = Q := by rw [hr, ← hQT, Nat.add_mul_div_right _ _ hTp, Nat.div_eq_of_lt hr1, Nat.zero_add]
  have hMm : M % (2 * T) = r := by rw [hr, ← hQT, Nat.add_mul_mod_self_right, Nat.mod_eq_of_lt hr1]
  rw [eT, hMd, hMm]
  congr 1
  by_cases c : H < R
  · have : T + P ≤ RP := by
      rw [← hRP, ← hT]
      have : (H + 1) * P ≤ R * P := Nat.mul_le_mul_right _ (by omega)
      rw [Nat.add_mul, Nat.one_mul] at this
      exact this
    rw [if_pos (.inl (by omega)), if_pos (.inl (by omega))]
  · have hne : R ≠ H := by omega
    have : RP + P ≤ T := by
      rw [← hRP, ← hT]
      have : (R + 1) * P ≤ H * P := Nat.mul_le_mul_right _ (by omega)
      rw [Nat.add_mul, Nat.one_mul] at this
      exact this
    rw [if_neg (by omega), if_neg (by omega)]
theorem rung_stick (X M k : Nat) (q : Int) (hX : X % 2 = 1) (hb : 134217728 ≤ X) (h1 : (X - 1) * 2 ^ k < M) (h2 : M < (X + 1) * 2 ^ k) : rung M q = rung X (q + k) := by
  have hp := pow_pos' k
  have hX0 : X ≠ 0 := by omega
  obtain ⟨b1, b2⟩ := log_bounds X hX0
  have hM0 : M ≠ 0 := by omega
  have hL27 : 27 ≤ X.log2 := by
    have : ¬ X.log2 < 27 := fun h => by
      have := (Nat.log2_lt hX0).1 h
      have e : 2 ^ 27 = 134217728 := by decide
      omega
    omega
  have ev : 2 ^ X.log2 % 2 = 0 := by rw [pow_half _ (by omega)]; omega
  have ev2 : 2 ^ (X.log2 + 1) % 2 = 0 := by rw [pow_half _ (by omega)]; omega
  have hlog : M.log2 = X.log2 + k := by
    rw [Nat.log2_eq_iff hM0]
    have g1 : 2 ^ X.log2 * 2 ^ k ≤ (X - 1) * 2 ^ k := Nat.mul_le_mul_right _ (by omega)
    have g2 : (X + 1) * 2 ^ k ≤ 2 ^ (X.log2 + 1) * 2 ^ k := Nat.mul_le_mul_right _ (by omega)
    rw [← Nat.pow_add] at g1 g2
    rw [show X.log2 + k + 1 = X.log2 + 1 + k by omega]
    omega
  rw [rung_eq M q hM0, rung_eq X _ hX0]
  have hl : lastP M q = lastP X (q + k) := by
    unfold lastP; rw [hlog]; congr 1; omega
  have hlp : lastP X (q + k) = max (q + k + X.log2 - 23) (-149) := rfl
  rw [hl]
  obtain ⟨L, hL⟩ : ∃ L, lastP X (q + k) = L := ⟨_, rfl⟩
  rw [hL] at hlp ⊢
  have hk : keptQ M q L = keptQ X (q + k) L := by
    unfold keptQ
    obtain ⟨D, hD⟩ : ∃ D, (L - (q + k)).toNat = D := ⟨_, rfl⟩
    rw [show (q - L).toNat = 0 by omega, show (q + k - L).toNat = 0 by omega, Nat.shiftLeft_zero, Nat.shiftLeft_zero, hD, show (L - q).toNat = D + k by omega]
    exact rhe_stick X M D k hX (by omega) h1 h2
  rw [hk]
end Go.Proofs.YteecekhfpfnepaaDoor.Sg
