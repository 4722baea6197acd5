/- Rounding is untouched by scale; halves and brains, of the program and of the reference. -/
import Derived.Test.YteecekhfpfnepaaDoorSgNear
import Derived.Test.YteecekhfpfnepaaDoorSgParts
import Derived.Test.YteecekhfpfnepaaDoorSgRef
import Derived.Test.YteecekhfpfnepaaDoorPAllx6
import Derived.Test.YteecekhfpfnepaaDoorPAllx8
import Derived.Test.YteecekhfpfnepaaDoorPAllx9
import Derived.Test.YteecekhfpfnepaaDoorPAllx12
import Derived.Test.YteecekhfpfnepaaDoorPAllx14
import Derived.Test.YteecekhfpfnepaaDoorPAllx11
import Derived.Test.YteecekhfpfnepaaDoorPAllx13
import Derived.Test.YteecekhfpfnepaaDoorPAllx15
namespace Go.Proofs.YteecekhfpfnepaaDoor.Sg
set_option linter.unusedVariables false
set_option linter.unusedSimpArgs false

theorem rhe_exact (a s : Nat) : rhe (a * 2 ^ s) s = a := by
  have hp := pow_pos' s
  unfold rhe
  rw [Nat.mul_div_cancel _ hp, Nat.mul_mod_left, if_neg (by omega)]
  rfl
theorem rhe_scale (m D t : Nat) : rhe (m * 2 ^ t) (D + t) = rhe m D := by
  have hp := pow_pos' t
  unfold rhe
  rw [Nat.pow_add, Nat.mul_div_mul_right _ _ hp, Nat.mul_mod_mul_right]
  have h1 : (2 ^ D * 2 ^ t < 2 * (m % 2 ^ D * 2 ^ t)) ↔ (2 ^ D < 2 * (m % 2 ^ D)) := by
    rw [← Nat.mul_assoc]
    exact Nat.mul_lt_mul_right hp
  have h2 : (2 ^ D * 2 ^ t = 2 * (m % 2 ^ D * 2 ^ t)) ↔ (2 ^ D = 2 * (m % 2 ^ D)) := by
    rw [← Nat.mul_assoc]
    exact Nat.mul_right_cancel_iff hp
  simp only [h1, h2]
theorem log2_scale (m t : Nat) (hm : m ≠ 0) : (m * 2 ^ t).log2 = m.log2 + t := by
  have hp := pow_pos' t
  obtain ⟨h1, h2⟩ := log_bounds m hm
  rw [Nat.log2_eq_iff (Nat.mul_ne_zero hm (by omega))]
  constructor
  · rw [Nat.pow_add]; exact Nat.mul_le_mul_right _ h1
  · rw [show m.log2 + t + 1 = (m.log2 + 1) + t by omega, Nat.pow_add]; exact Nat.mul_lt_mul_of_pos_right h2 hp
theorem rung_scale (m t : Nat) (e : Int) : rung (m * 2 ^ t) (e - t) = rung m e := by
  by_cases hm : m = 0
  · subst hm; simp [rung]
  have hp := pow_pos' t
  rw [rung_eq m e hm, rung_eq _ _ (Nat.mul_ne_zero hm (by omega))]
  have hL : lastP (m * 2 ^ t) (e - t) = lastP m e := by
    unfold lastP
    rw [log2_scale m t hm]
    congr 1
    omega
  rw [hL]
  obtain ⟨L, hl⟩ : ∃ L, lastP m e = L := ⟨_, rfl⟩
  rw [hl]
  have hk : keptQ (m * 2 ^ t) (e - t) L = keptQ m e L := by
    unfold keptQ
    by_cases c1 : L ≤ e - t
    · rw [show (L - (e - t)).toNat = 0 by omega, show (L - e).toNat = 0 by omega, rhe_zero, rhe_zero, Nat.shiftLeft_eq, Nat.shiftLeft_eq, Nat.mul_assoc, ← Nat.pow_add]
      congr 2
      omega
    · rw [show (e - t - L).toNat = 0 by omega, Nat.shiftLeft_zero]
      by_cases c2 : L ≤ e
      · rw [show (L - e).toNat = 0 by omega, rhe_zero, Nat.shiftLeft_eq]
        obtain ⟨s, hs⟩ : ∃ s, (L - (e - t)).toNat = s := ⟨_, rfl⟩
        rw [hs, show t = (e - L).toNat + s by omega, Nat.pow_add, ← Nat.mul_assoc, rhe_exact]
      · rw [show (e - L).toNat = 0 by omega, Nat.shiftLeft_zero, show (L - (e - t)).toNat = (L - e).toNat + t by omega, rhe_scale]
  rw [hk]
/-- Where something is lost below, an odd last digit tells of it as well. -/
theorem rhe_stick (X M D k : Nat) (hX : X % 2 = 1) (hD : 2 ≤ D) (h1 : (X - 1) * 2 ^ k < M) (h2 : M < (X + 1) * 2 ^ k) : rhe M (D + k) = rhe X D := by
  have hp := pow_pos' k
  have hD2 : 2 ^ D = 2 * 2 ^ (D - 1) := pow_half D (by omega)
  have hD3 : 2 ^ (D - 1) = 2 * 2 ^ (D - 1 - 1) := pow_half (D - 1) (by omega)
  obtain ⟨H, hH⟩ : ∃ H, 2 ^ (D - 1) = H := ⟨_, rfl⟩
  obtain ⟨P, hP⟩ : ∃ P, 2 ^ k = P := ⟨_, rfl⟩
  have hHp : 0 < H := by rw [← hH]; exact pow_pos' _
  rw [hH] at hD2 hD3
  rw [hP] at h1 h2 hp
  have hdm := Nat.div_add_mod X (2 * H)
  have hmod : X % (2 * H) < 2 * H := Nat.mod_lt _ (by omega)
  unfold rhe
  rw [Nat.pow_add, hD2, hP]
  obtain ⟨Q, hQ⟩ : ∃ Q, X / (2 * H) = Q := ⟨_, rfl⟩
  obtain ⟨R, hR⟩ : ∃ R, X % (2 * H) = R := ⟨_, rfl⟩
  rw [hQ, hR] at hdm ⊢
  rw [hR] at hmod
  have hHe : H % 2 = 0 := by omega
  -- the rest is odd
  have hRo : R % 2 = 1 := by
    have e1 : 2 * H * Q = 2 * (H * Q) := Nat.mul_assoc _ _ _
    omega
  obtain ⟨T, hT⟩ : ∃ T, H * P = T := ⟨_, rfl⟩
  obtain ⟨RP, hRP⟩ : ∃ RP, R * P = RP := ⟨_, rfl⟩
  have eT : 2 * H * P = 2 * T := by rw [Nat.mul_assoc, hT]
  have eX : X * P = Q * (2 * T) + RP := by rw [← hdm, Nat.add_mul, hRP, ← eT, Nat.mul_comm (2 * H) Q, Nat.mul_assoc]
  have g1 : (X - 1) * P = X * P - P := by rw [Nat.sub_mul, Nat.one_mul]
  have g2 : (X + 1) * P = X * P + P := by rw [Nat.add_mul, Nat.one_mul]
  have gXP : P ≤ X * P := Nat.le_mul_of_pos_left _ (by omega)
  rw [g1] at h1
  rw [g2] at h2
  have r1 : P ≤ RP := by rw [← hRP]; exact Nat.le_mul_of_pos_left _ (by omega)
  have r2 : RP + P ≤ 2 * T := by
    rw [← hRP, ← eT]
    have : (R + 1) * P ≤ 2 * H * P := Nat.mul_le_mul_right _ (by omega)
    rw [Nat.add_mul, Nat.one_mul] at this
    exact this
  obtain ⟨QT, hQT⟩ : ∃ QT, Q * (2 * T) = QT := ⟨_, rfl⟩
  rw [hQT] at eX
  have hTp : 0 < 2 * T := by omega
  obtain ⟨r, hr⟩ : ∃ r, M = r + QT := ⟨M - QT, by omega⟩
  have hr1 : r < 2 * T := by omega
  have hMd : M / (2 * T) = Q := by rw [hr, ← hQT, Nat.add_mul_div_right _ _ hTp, Nat.div_eq_of_lt hr1, Nat.zero_add]
  have hMm : M % (2 * T) = r := by rw [hr, ← hQT, Nat.add_mul_mod_self_right, Nat.mod_eq_of_lt hr1]
  rw [eT, hMd, hMm]
  congr 1
  by_cases c : H < R
  · have : T + P ≤ RP := by
      rw [← hRP, ← hT]
      have : (H + 1) * P ≤ R * P := Nat.mul_le_mul_right _ (by omega)
      rw [Nat.add_mul, Nat.one_mul] at this
      exact this
    rw [if_pos (.inl (by omega)), if_pos (.inl (by omega))]
  · have hne : R ≠ H := by omega
    have : RP + P ≤ T := by
      rw [← hRP, ← hT]
      have : (R + 1) * P ≤ H * P := Nat.mul_le_mul_right _ (by omega)
      rw [Nat.add_mul, Nat.one_mul] at this
      exact this
    rw [if_neg (by omega), if_neg (by omega)]
theorem rung_stick (X M k : Nat) (q : Int) (hX : X % 2 = 1) (hb : 134217728 ≤ X) (h1 : (X - 1) * 2 ^ k < M) (h2 : M < (X + 1) * 2 ^ k) : rung M q = rung X (q + k) := by
  have hp := pow_pos' k
  have hX0 : X ≠ 0 := by omega
  obtain ⟨b1, b2⟩ := log_bounds X hX0
  have hM0 : M ≠ 0 := by omega
  have hL27 : 27 ≤ X.log2 := by
    have : ¬ X.log2 < 27 := fun h => by
      have := (Nat.log2_lt hX0).1 h
      have e : 2 ^ 27 = 134217728 := by decide
      omega
    omega
  have ev : 2 ^ X.log2 % 2 = 0 := by rw [pow_half _ (by omega)]; omega
  have ev2 : 2 ^ (X.log2 + 1) % 2 = 0 := by rw [pow_half _ (by omega)]; omega
  have hlog : M.log2 = X.log2 + k := by
    rw [Nat.log2_eq_iff hM0]
    have g1 : 2 ^ X.log2 * 2 ^ k ≤ (X - 1) * 2 ^ k := Nat.mul_le_mul_right _ (by omega)
    have g2 : (X + 1) * 2 ^ k ≤ 2 ^ (X.log2 + 1) * 2 ^ k := Nat.mul_le_mul_right _ (by omega)
    rw [← Nat.pow_add] at g1 g2
    rw [show X.log2 + k + 1 = X.log2 + 1 + k by omega]
    omega
  rw [rung_eq M q hM0, rung_eq X _ hX0]
  have hl : lastP M q = lastP X (q + k) := by
    unfold lastP; rw [hlog]; congr 1; omega
  have hlp : lastP X (q + k) = max (q + k + X.log2 - 23) (-149) := rfl
  rw [hl]
  obtain ⟨L, hL⟩ : ∃ L, lastP X (q + k) = L := ⟨_, rfl⟩
  rw [hL] at hlp ⊢
  have hk : keptQ M q L = keptQ X (q + k) L := by
    unfold keptQ
    obtain ⟨D, hD⟩ : ∃ D, (L - (q + k)).toNat = D := ⟨_, rfl⟩
    rw [show (q - L).toNat = 0 by omega, show (q + k - L).toNat = 0 by omega, Nat.shiftLeft_zero, Nat.shiftLeft_zero, hD, show (L - q).toNat = D + k by omega]
    exact rhe_stick X M D k hX (by omega) h1 h2
  rw [hk]
end Go.Proofs.YteecekhfpfnepaaDoor.Sg
namespace Go.Proofs.YteecekhfpfnepaaDoor.Sg
open Go.RowKit Go.Proofs.YteecekhfpfnepaaDoor.PAll Go.Proofs.YteecekhfpfnepaaDoorW.PrintWords Go.Proofs.YteecekhfpfnepaaDoorW.PrintLast Go.Proofs.YteecekhfpfnepaaDoorW.PrintMore
set_option linter.unusedVariables false
set_option linter.unusedSimpArgs false

/-- The last place that a half keeps. -/
def lastH (m : Nat) (e : Int) : Int := max (e + m.log2 - 10) (-24)
def keptH (m : Nat) (e : Int) : Nat := keptQ m e (lastH m e)
theorem keptQ_scale (m t : Nat) (e L : Int) : keptQ (m * 2 ^ t) (e - t) L = keptQ m e L := by
  unfold keptQ
  by_cases c1 : L ≤ e - t
  · rw [show (L - (e - t)).toNat = 0 by omega, show (L - e).toNat = 0 by omega, rhe_zero, rhe_zero, Nat.shiftLeft_eq, Nat.shiftLeft_eq, Nat.mul_assoc, ← Nat.pow_add]
    congr 2
    omega
  · rw [show (e - t - L).toNat = 0 by omega, Nat.shiftLeft_zero]
    by_cases c2 : L ≤ e
    · rw [show (L - e).toNat = 0 by omega, rhe_zero, Nat.shiftLeft_eq]
      obtain ⟨s, hs⟩ : ∃ s, (L - (e - t)).toNat = s := ⟨_, rfl⟩
      rw [hs, show t = (e - L).toNat + s by omega, Nat.pow_add, ← Nat.mul_assoc, rhe_exact]
    · rw [show (e - L).toNat = 0 by omega, Nat.shiftLeft_zero, show (L - (e - t)).toNat = (L - e).toNat + t by omega, rhe_scale]
theorem lastH_scale (m t : Nat) (e : Int) (hm : m ≠ 0) : lastH (m * 2 ^ t) (e - t) = lastH m e := by
  unfold lastH
  rw [log2_scale m t hm]
  congr 1
  omega
theorem keptH_up (m : Nat) (e : Int) (hm : m ≠ 0) : keptH m e ≤ 2048 := by
  obtain ⟨h1, h2⟩ := log_bounds m hm
  have hl : e + (m.log2 : Int) - 10 ≤ lastH m e := by unfold lastH; omega
  unfold keptH keptQ
  obtain ⟨L, hL⟩ : ∃ L, lastH m e = L := ⟨_, rfl⟩
  rw [hL] at hl ⊢
  have h5 : 2 ^ 11 = 2048 := by decide
  by_cases hs : L ≤ e
  · rw [show (L - e).toNat = 0 by omega, rhe_zero, Nat.shiftLeft_eq]
    obtain ⟨t, ht⟩ : ∃ t, (e - L).toNat = t := ⟨_, rfl⟩
    rw [ht]
    have h3 : m * 2 ^ t < 2 ^ (m.log2 + 1) * 2 ^ t := Nat.mul_lt_mul_of_pos_right h2 (pow_pos' t)
    rw [← Nat.pow_add] at h3
    have h4 : 2 ^ (m.log2 + 1 + t) ≤ 2 ^ 11 := Nat.pow_le_pow_right (by omega) (by omega)
    omega
  · rw [show (e - L).toNat = 0 by omega, Nat.shiftLeft_zero]
    obtain ⟨s, hs'⟩ : ∃ s, (L - e).toNat = s := ⟨_, rfl⟩
    rw [hs']
    have h3 : 2 ^ (m.log2 + 1) ≤ 2 ^ (11 + s) := Nat.pow_le_pow_right (by omega) (by omega)
    have h4 : m / 2 ^ s < 2 ^ 11 := by
      apply Nat.div_lt_of_lt_mul
      rw [← Nat.pow_add, Nat.add_comm s 11]
      omega
    have h6 := (rhe_le m s).2
    omega
/-- The word of a half: a sign, the place, the kept digits. -/
def finH (s last : Int) (q : Nat) : Int := if q < 1024 then s + q else if last + 25 ≥ 31 then s + 31744 else s + (last + 25) * 1024 + (q - 1024)
def halfV (s : Int) (m : Nat) (e : Int) : Int := if keptH m e = 2048 then finH s (lastH m e + 1) 1024 else finH s (lastH m e) (keptH m e)
theorem halfV_scale (s : Int) (m t : Nat) (e : Int) (hm : m ≠ 0) : halfV s (m * 2 ^ t) (e - t) = halfV s m e := by
  unfold halfV keptH
  rw [lastH_scale m t e hm, keptQ_scale]
def sgnH (neg : Bool) : Int := if neg then 32768 else 0
theorem or16 (a c : Nat) (ha : a < 65536) (hc : c < 65536) : bits .or .u16 (a : Int) (c : Int) = ((a ||| c : Nat) : Int) := by
  show IntKind.u16.wrap ((BitVec.ofInt 16 (a : Int) ||| BitVec.ofInt 16 (c : Int)).toNat : Int) = _
  rw [BitVec.toNat_or, BitVec.ofInt_natCast, BitVec.ofInt_natCast, BitVec.toNat_ofNat, BitVec.toNat_ofNat, Nat.mod_eq_of_lt (by omega), Nat.mod_eq_of_lt (by omega)]
  have h : a ||| c < 2 ^ 16 := Nat.or_lt_two_pow (by omega) (by omega)
  show ((a ||| c : Nat) : Int) % 65536 = _
  omega
def sgnHN (neg : Bool) : Nat := if neg then 32768 else 0
theorem sgnH_cast (neg : Bool) : sgnH neg = (sgnHN neg : Int) := by cases neg <;> rfl
theorem or_u16 (neg : Bool) (x : Nat) (hx : x < 32768) : bits .or .u16 (sgnH neg) (x : Int) = sgnH neg + (x : Int) := by
  rw [sgnH_cast]
  cases neg
  · rw [show sgnHN false = 0 from rfl, or16 _ _ (by omega) (by omega), Nat.zero_or]; omega
  · have e := Nat.two_pow_add_eq_or_of_lt (i := 15) (b := x) (by omega) 1
    rw [show sgnHN true = 32768 from rfl, or16 _ _ (by omega) (by omega), show (32768 : Nat) = 2 ^ 15 * 1 from by decide, ← e]; omega
theorem or2_u16 (neg : Bool) (x y : Nat) (hx : x < 32) (hy : y < 1024) : bits .or .u16 (bits .or .u16 (sgnH neg) ((x * 1024 : Nat) : Int)) (y : Int) = sgnH neg + ((x * 1024 + y : Nat) : Int) := by
  rw [or_u16 neg _ (by omega)]
  obtain ⟨g, hg, hg2⟩ : ∃ g : Nat, sgnH neg = ((g * 1024 : Nat) : Int) ∧ g ≤ 32 := by
    cases neg
    · exact ⟨0, rfl, by omega⟩
    · exact ⟨32, rfl, by omega⟩
  rw [hg]
  have e := Nat.two_pow_add_eq_or_of_lt (i := 10) (b := y) (by omega) (g + x)
  rw [show ((g * 1024 : Nat) : Int) + ((x * 1024 : Nat) : Int) = ((2 ^ 10 * (g + x) : Nat) : Int) from by rw [show 2 ^ 10 = 1024 from by decide]; omega, or16 _ _ (by rw [show 2 ^ 10 = 1024 from by decide]; omega) (by omega), ← e, show 2 ^ 10 = 1024 from by decide]
  omega
theorem u16_in {a : Int} (h0 : 0 ≤ a) (h1 : a < 65536) : IntKind.u16.wrap a = a := by show a % 65536 = a; omega
theorem half_j1 (neg : Bool) (m : Nat) (last : Int) (q k : Nat) (h0 : m ≠ 0) (hm : m < 16777216) (h1 : -24 ≤ last) (h2 : last ≤ 1000) (hq : q < 2048) : single_Half.j1 (k + 1) (sgnH neg) (m : Int) last (q : Int) = some (finH (sgnH neg) last q) := by
  simp only [single_Half.j1]
  unfold finH
  rw [if_neg (by omega), wrap_in (by omega) (by omega)]
  by_cases c1 : q < 1024
  · rw [if_pos (by omega), if_pos c1, u16_in (by omega) (by omega), or_u16 neg q (by omega)]
  · rw [if_neg (by omega), if_neg c1]
    by_cases c2 : last + 25 ≥ 31
    · rw [if_pos c2, if_pos c2, show (31744 : Int) = ((31744 : Nat) : Int) from rfl, or_u16 neg _ (by omega)]
    · rw [if_neg c2, if_neg c2]
      obtain ⟨x, hx⟩ : ∃ x : Nat, last + 25 = (x : Int) := ⟨(last + 25).toNat, by omega⟩
      rw [hx, u16_in (a := (x : Int)) (by omega) (by omega), u16_in (a := (x : Int) * 1024) (by omega) (by omega), u64_in (by omega) (by omega), u16_in (by omega) (by omega), show (x : Int) * 1024 = ((x * 1024 : Nat) : Int) from by omega, show (q : Int) - 1024 = ((q - 1024 : Nat) : Int) from by omega, or2_u16 neg x (q - 1024) (by omega) (by omega)]
      congr 1
      omega
theorem down_keptH (m : Nat) (e : Int) (h0 : m ≠ 0) (hm : m < 16777216) (he0 : -300 ≤ e) (he1 : e ≤ 200) : single_down.f (m : Int) (lastH m e - e) = some ((keptH m e : Nat) : Int) := by
  have hl : m.log2 < 24 := (Nat.log2_lt h0).2 (by omega)
  have hb := (log_bounds m h0).2
  unfold keptH keptQ
  have hlp : lastH m e = max (e + m.log2 - 10) (-24) := rfl
  by_cases hs : lastH m e ≤ e
  · obtain ⟨t, ht⟩ : ∃ t, (e - lastH m e).toNat = t := ⟨_, rfl⟩
    have h4 : m.log2 + 1 + t ≤ 11 := by omega
    have h3 : m * 2 ^ t < 2 ^ (m.log2 + 1) * 2 ^ t := Nat.mul_lt_mul_of_pos_right hb (pow_pos' t)
    rw [← Nat.pow_add] at h3
    have h5 : 2 ^ (m.log2 + 1 + t) ≤ 2 ^ 11 := Nat.pow_le_pow_right (by omega) h4
    have h6 : 2 ^ 11 = 2048 := by decide
    rw [down_up m t (by omega) (by omega) _ (by omega), show (lastH m e - e).toNat = 0 by omega, rhe_zero, ht, Nat.shiftLeft_eq]
  · obtain ⟨s, hs'⟩ : ∃ s, (lastH m e - e).toNat = s := ⟨_, rfl⟩
    rw [show lastH m e - e = (s : Int) from by omega, down_down m s (by omega) (by omega) (by omega), show (e - lastH m e).toNat = 0 by omega, Nat.shiftLeft_zero, Int.toNat_natCast]
theorem half_j0 (neg x2 : Bool) (m : Nat) (e : Int) (h0 : m ≠ 0) (hm : m < 16777216) (he0 : -149 ≤ e) (he1 : e ≤ 150) (k : Nat) (hk : 2 ≤ k) : single_Half.j0 k (sgnH neg) 0 x2 (m : Int) e = some (halfV (sgnH neg) m e) := by
  obtain ⟨k, rfl⟩ : ∃ j, k = j + 2 := ⟨k - 2, by omega⟩
  have hl : m.log2 < 24 := (Nat.log2_lt h0).2 (by omega)
  have hq := keptH_up m e h0
  have hlast : mx (-24) (wrap64 (wrap64 (e + (((m.log2 : Nat) : Int) + 1)) - 11)) = lastH m e := by
    rw [wrap_in (a := e + _) (by omega) (by omega), wrap_in (by omega) (by omega)]
    unfold mx lastH
    split <;> omega
  have hlp : lastH m e = max (e + m.log2 - 10) (-24) := rfl
  simp only [single_Half.j0]
  rw [if_neg (by decide), if_neg (by decide), u64_in (by omega) (by omega)]
  unfold bits_Len64.f
  rw [if_pos ⟨by omega, by omega⟩, lenI_log m h0]
  simp only [Option.bind_some]
  rw [hlast, wrap_in (a := lastH m e - e) (by omega) (by omega), down_keptH m e h0 hm (by omega) (by omega)]
  simp only [Option.bind_some]
  unfold halfV
  by_cases c3 : keptH m e = 2048
  · rw [if_pos (by omega), if_pos c3, wrap_in (by omega) (by omega), show (1024 : Int) = ((1024 : Nat) : Int) from rfl, half_j1 neg m _ _ k h0 hm (by omega) (by omega) (by omega)]
  · rw [if_neg (by omega), if_neg c3, half_j1 neg m _ _ k h0 hm (by omega) (by omega) (by omega)]
end Go.Proofs.YteecekhfpfnepaaDoor.Sg
namespace Go.Proofs.YteecekhfpfnepaaDoor.Sg
open Go.RowKit Go.Proofs.YteecekhfpfnepaaDoor.PAll Go.Proofs.YteecekhfpfnepaaDoorW.PrintWords Go.Proofs.YteecekhfpfnepaaDoorW.PrintLast Go.Proofs.YteecekhfpfnepaaDoorW.PrintMore
set_option linter.unusedVariables false
set_option linter.unusedSimpArgs false

theorem sgn_cases (s : Bool) : (s = false ∧ sgn s = 0 ∧ sgnH s = 0) ∨ (s = true ∧ sgn s = 2147483648 ∧ sgnH s = 32768) := by
  cases s
  · exact .inl ⟨rfl, rfl, rfl⟩
  · exact .inr ⟨rfl, rfl, rfl⟩
/-- The bits of a normal number, read. -/
theorem raw_of (s : Bool) (m : Nat) (e : Int) (h1 : 8388608 ≤ m) (h2 : m < 16777216) (he : -149 ≤ e) (he2 : e ≤ 104) : rawV (sgn s + (rung m e : Int)) = (0, s, (m : Int), e) := by
  rw [rung_norm m e h1 h2 he he2]
  unfold rawV
  rcases sgn_cases s with ⟨rfl, hs, _⟩ | ⟨rfl, hs, _⟩
  · rw [hs, if_neg (by omega), if_neg (by omega), decide_eq_false (by omega)]
    refine congrArg _ (congrArg _ ?_)
    exact Prod.ext (by show _ = (m : Int); omega) (by show _ = e; omega)
  · rw [hs, if_neg (by omega), if_neg (by omega), decide_eq_true (by omega)]
    refine congrArg _ (congrArg _ ?_)
    exact Prod.ext (by show _ = (m : Int); omega) (by show _ = e; omega)
/-- What Half tells of a number that is not 0, whatever the power that it is told with. -/
theorem half_num (s : Bool) (m : Nat) (e : Int) (a : Int) (ha0 : 0 ≤ a) (ha1 : a < 4294967296) (hr : rawV a = (0, s, (m : Int), e)) (hm : m ≠ 0) (hm1 : m < 16777216) (he : -149 ≤ e) (he2 : e ≤ 104) (k : Nat) (hk : 2 ≤ k) :
    single_Half.f k a = some (halfV (sgnH s) m e) := by
  obtain ⟨q, hq⟩ := tz_spec m hm (by omega)
  have ht := tz_lt m hm (by omega)
  have hdiv : m / 2 ^ tz m = 2 * q + 1 := by
    have hp := pow_pos' (tz m)
    obtain ⟨T, hT⟩ : ∃ T, 2 ^ tz m = T := ⟨_, rfl⟩
    rw [hT] at hq hp ⊢
    rw [hq, Nat.mul_div_cancel_left _ hp]
  have hql : 2 * q + 1 ≤ m := by rw [← hdiv]; exact Nat.div_le_self _ _
  have ht24 : tz m < 24 := by
    have hp1 : 2 ^ tz m ≤ m := by
      have : 2 ^ tz m * 1 ≤ 2 ^ tz m * (2 * q + 1) := Nat.mul_le_mul_left _ (by omega)
      omega
    have : 2 ^ tz m < 2 ^ 24 := by
      have e24 : 2 ^ 24 = 16777216 := by decide
      omega
    exact (Nat.pow_lt_pow_iff_right (by omega)).1 this
  have hP : partsV a = (0, s, ((2 * q + 1 : Nat) : Int), e + (tz m : Int)) := by rw [partsV_of hr, if_neg (by omega), Int.toNat_natCast, hdiv]
  have hv : halfV (sgnH s) m e = halfV (sgnH s) (2 * q + 1) (e + (tz m : Int)) := by
    have := halfV_scale (sgnH s) (2 * q + 1) (tz m) (e + (tz m : Int)) (by omega)
    rw [Nat.mul_comm, ← hq, show e + (tz m : Int) - (tz m : Int) = e from by omega] at this
    exact this
  rw [hv]
  unfold single_Half.f
  rw [parts_some a ha0 ha1, hP]
  simp only [Option.bind_some]
  cases s
  · rw [if_neg (by decide)]
    exact half_j0 false false (2 * q + 1) _ (by omega) (by omega) (by omega) (by omega) k hk
  · rw [if_pos rfl]
    exact half_j0 true true (2 * q + 1) _ (by omega) (by omega) (by omega) (by omega) k hk
theorem half_zero (s : Bool) (e a : Int) (ha0 : 0 ≤ a) (ha1 : a < 4294967296) (hr : rawV a = (0, s, 0, e)) (k : Nat) (hk : 2 ≤ k) : single_Half.f k a = some (sgnH s) := by
  obtain ⟨k, rfl⟩ : ∃ j, k = j + 2 := ⟨k - 2, by omega⟩
  have hP : partsV a = (0, s, 0, 0) := by rw [partsV_of hr, if_pos rfl]
  have hl : bits_Len64.f 0 = some 0 := by unfold bits_Len64.f lenI; rfl
  have hx : mx (-24) (wrap64 (wrap64 (0 + 0) - 11)) = -11 := by decide +kernel
  have hd : single_down.f 0 (-11) = some 0 := by decide +kernel
  have hj : ∀ x4 x2, single_Half.j0 (k + 2) x4 0 x2 0 0 = some x4 := by
    intro x4 x2
    simp only [single_Half.j0]
    rw [if_neg (by decide), if_neg (by decide), show IntKind.u64.wrap 0 = 0 from rfl, hl]
    simp only [Option.bind_some]
    rw [hx, show wrap64 (-11 - 0) = -11 from by decide +kernel, hd]
    simp only [Option.bind_some]
    rw [if_neg (by decide)]
    simp only [single_Half.j1]
    rw [if_pos trivial]
  unfold single_Half.f
  rw [parts_some a ha0 ha1, hP]
  simp only [Option.bind_some]
  cases s
  · rw [if_neg (by decide), hj]; rfl
  · rw [if_pos rfl, hj]; rfl
theorem half_inf (s : Bool) (a : Int) (ha0 : 0 ≤ a) (ha1 : a < 4294967296) (hr : rawV a = (1, s, 0, 0)) (k : Nat) (hk : 2 ≤ k) : single_Half.f k a = some (sgnH s + 31744) := by
  obtain ⟨k, rfl⟩ : ∃ j, k = j + 2 := ⟨k - 2, by omega⟩
  have hP : partsV a = (1, s, 0, 0) := by rw [partsV_of hr, if_pos rfl]
  have hj : ∀ x2, single_Half.j0 (k + 2) (sgnH s) 1 x2 0 0 = some (sgnH s + 31744) := by
    intro x2
    simp only [single_Half.j0]
    rw [if_neg (by decide), if_pos trivial, show (31744 : Int) = ((31744 : Nat) : Int) from rfl, or_u16 s _ (by omega)]
  unfold single_Half.f
  rw [parts_some a ha0 ha1, hP]
  simp only [Option.bind_some]
  cases s
  · rw [if_neg (by decide)]; exact hj _
  · rw [if_pos rfl]; exact hj _
theorem half_nan (a : Int) (ha0 : 0 ≤ a) (ha1 : a < 4294967296) (hr : rawV a = (2, false, 0, 0)) (k : Nat) (hk : 2 ≤ k) : single_Half.f k a = some 32256 := by
  obtain ⟨k, rfl⟩ : ∃ j, k = j + 2 := ⟨k - 2, by omega⟩
  have hP : partsV a = (2, false, 0, 0) := by rw [partsV_of hr, if_pos rfl]
  unfold single_Half.f
  rw [parts_some a ha0 ha1, hP]
  simp only [Option.bind_some]
  rw [if_neg (by decide)]
  simp only [single_Half.j0]
  rw [if_pos trivial]
/-- A half's numbers, as Half rounds them: exact. -/
theorem halfV_sub (s : Bool) (m : Nat) (h0 : m ≠ 0) (h : m < 1024) : halfV (sgnH s) m (-24) = sgnH s + (m : Int) := by
  have h1 : m.log2 < 10 := (Nat.log2_lt h0).2 (by omega)
  have e1 : lastH m (-24) = -24 := by unfold lastH; omega
  have e2 : keptH m (-24) = m := by unfold keptH keptQ; rw [e1]; simp only [Int.sub_self, Int.toNat_zero, Nat.shiftLeft_zero, rhe_zero]
  unfold halfV
  rw [e2, if_neg (by omega)]
  unfold finH
  rw [if_pos h]
theorem halfV_norm (s : Bool) (m : Nat) (e : Int) (h : 1024 ≤ m) (h2 : m < 2048) (he : -24 ≤ e) (he2 : e ≤ 5) : halfV (sgnH s) m e = sgnH s + (e + 25) * 1024 + (m - 1024) := by
  have h1 : m.log2 = 10 := (Nat.log2_eq_iff (by omega)).2 ⟨by omega, by omega⟩
  have e1 : lastH m e = e := by unfold lastH; omega
  have e2 : keptH m e = m := by unfold keptH keptQ; rw [e1]; simp only [Int.sub_self, Int.toNat_zero, Nat.shiftLeft_zero, rhe_zero]
  unfold halfV
  rw [e2, if_neg (by omega), e1]
  unfold finH
  rw [if_neg (by omega), if_neg (by omega)]
theorem and16 (a c : Nat) (ha : a < 65536) (hc : c < 65536) : bits .and .u16 (a : Int) (c : Int) = ((a &&& c : Nat) : Int) := by
  show IntKind.u16.wrap ((BitVec.ofInt 16 (a : Int) &&& BitVec.ofInt 16 (c : Int)).toNat : Int) = _
  rw [BitVec.toNat_and, BitVec.ofInt_natCast, BitVec.ofInt_natCast, BitVec.toNat_ofNat, BitVec.toNat_ofNat, Nat.mod_eq_of_lt (by omega), Nat.mod_eq_of_lt (by omega)]
  have h : a &&& c ≤ a := Nat.and_le_left
  show ((a &&& c : Nat) : Int) % 65536 = _
  omega
theorem mask5 (a : Nat) (ha : a < 65536) : bits .and .u16 (a : Int) 31 = ((a % 32 : Nat) : Int) := by
  rw [show (31 : Int) = ((2 ^ 5 - 1 : Nat) : Int) from by decide, and16 _ _ ha (by decide), Nat.and_two_pow_sub_one_eq_mod, show 2 ^ 5 = 32 from by decide]
theorem mask10 (a : Nat) (ha : a < 65536) : bits .and .u16 (a : Int) 1023 = ((a % 1024 : Nat) : Int) := by
  rw [show (1023 : Int) = ((2 ^ 10 - 1 : Nat) : Int) from by decide, and16 _ _ ha (by decide), Nat.and_two_pow_sub_one_eq_mod, show 2 ^ 10 = 1024 from by decide]
/-- A half as a single: what FromHalf tells. -/
def fromV (s : Bool) (E F : Nat) : Int := if E = 31 then (if F = 0 then sgn s + 2139095040 else 2143289344) else if E = 0 then NR s F (-24) else NR s (1024 + F) ((E : Int) - 25)
theorem or_near (s : Bool) (m : Nat) (e : Int) : bits .or .u32 (sgn s) (NR false m e) = NR s m e := by
  have h := rung_le m e
  have : NR false m e = (rung m e : Int) := by unfold NR sgn; simp
  rw [this, or_u32 s _ (by omega)]
  rfl
theorem from_some (n : Nat) (hn : n < 65536) (s : Bool) (E F : Nat) (hE : n / 1024 % 32 = E) (hF : n % 1024 = F) (hs : decide (32768 ≤ n) = s) (k : Nat) (hk : 5 ≤ k) : single_FromHalf.f k (n : Int) = some (fromV s E F) := by
  obtain ⟨k, rfl⟩ : ∃ j, k = j + 1 := ⟨k - 1, by omega⟩
  have h1 : wrap64 (bits .and .u16 ((n : Int) / 1024) 31) = (E : Int) := by
    rw [show (n : Int) / 1024 = ((n / 1024 : Nat) : Int) from by omega, mask5 _ (by omega), hE, wrap_in (by omega) (by omega)]
  have h2 : wrap64 (bits .and .u16 (n : Int) 1023) = (F : Int) := by rw [mask10 _ hn, hF, wrap_in (by omega) (by omega)]
  have h3 : ((((n : Int) / 32768) % 4294967296) * 2147483648) % 4294967296 = sgn s := by
    rw [← hs]
    by_cases c : 32768 ≤ n
    · rw [decide_eq_true c]; show _ = (2147483648 : Int); omega
    · rw [decide_eq_false c]; show _ = (0 : Int); omega
  have hE1 : E < 32 := by omega
  have hF1 : F < 1024 := by omega
  unfold single_FromHalf.f fromV
  rw [h1, h2, h3]
  simp only [single_FromHalf.j0]
  by_cases c1 : E = 31
  · rw [if_pos (by omega), if_pos c1]
    by_cases c2 : F = 0
    · subst c2
      rw [if_pos rfl, show ((((0 : Nat) : Int)) != 0) = false from rfl, if_neg (by decide), if_pos (by omega), show (2139095040 : Int) = ((2139095040 : Nat) : Int) from rfl, or_u32 s _ (by omega)]
    · have : ((F : Int) != 0) = true := by rw [bne_iff_ne]; omega
      rw [if_neg c2, this, if_pos rfl]
  · rw [if_neg (by omega), if_neg c1, if_neg (by decide), if_neg (by omega)]
    by_cases c2 : E = 0
    · rw [if_pos (by omega), if_pos c2, near_some (F : Int) (-24) (by omega) (by omega) k (by omega)]
      simp only [Option.bind_some]
      by_cases c3 : F = 0
      · subst c3
        rw [if_pos (by rfl)]
        have := or_near s 0 (-24)
        have e0 : NR false 0 (-24) = 0 := by unfold NR; simp [rung, sgn]
        rw [e0] at this
        rw [this]
      · rw [if_neg (by omega), decide_eq_false (by omega), Int.natAbs_natCast, or_near]
    · rw [if_neg (by omega), if_neg c2, wrap_in (a := 1024 + (F : Int)) (by omega) (by omega), wrap_in (a := (E : Int) - 25) (by omega) (by omega), near_some (1024 + (F : Int)) _ (by omega) (by omega) k (by omega)]
      simp only [Option.bind_some]
      rw [if_neg (by omega), decide_eq_false (by omega), show (1024 + (F : Int)).natAbs = 1024 + F from by omega, or_near]
/-- There and back. -/
theorem there_back (s : Bool) (E F : Nat) (hE : E < 32) (hF : F < 1024) (k : Nat) (hk : 5 ≤ k) : single_Half.f k (fromV s E F) = some (if E = 31 ∧ F ≠ 0 then 32256 else sgnH s + (E : Int) * 1024 + F) := by
  unfold fromV
  rcases sgn_cases s with ⟨hs0, hs, hsh⟩ | ⟨hs0, hs, hsh⟩
  all_goals
    by_cases c1 : E = 31
    · rw [if_pos c1]
      by_cases c2 : F = 0
      · rw [if_pos c2, if_neg (by omega), half_inf s _ (by omega) (by omega) (by
          unfold rawV
          rw [hs]
          simp [hs0]) k (by omega)]
        congr 1
        omega
      · rw [if_neg c2, if_pos ⟨c1, c2⟩, half_nan 2143289344 (by omega) (by omega) (by unfold rawV; decide) k (by omega)]
    · rw [if_neg c1, if_neg (show ¬ (E = 31 ∧ F ≠ 0) from fun h => c1 h.1)]
      by_cases c2 : E = 0
      · rw [if_pos c2]
        by_cases c3 : F = 0
        · subst c3
          rw [half_zero s (-149) (NR s 0 (-24)) (by unfold NR; simp [rung]; omega) (by unfold NR; simp [rung]; omega) (by
            unfold NR rawV
            rw [hs]
            simp [rung, hs0]) k (by omega)]
          congr 1
          omega
        · have hl : F.log2 < 10 := (Nat.log2_lt c3).2 (by omega)
          obtain ⟨b1, b2⟩ := log_bounds F c3
          obtain ⟨t, ht⟩ : ∃ t, F.log2 + t = 23 := ⟨23 - F.log2, by omega⟩
          have e23 : 2 ^ 23 = 8388608 := by decide
          have e24 : 2 ^ 24 = 16777216 := by decide
          have g1 : 2 ^ F.log2 * 2 ^ t ≤ F * 2 ^ t := Nat.mul_le_mul_right _ b1
          have g2 : F * 2 ^ t < 2 ^ (F.log2 + 1) * 2 ^ t := Nat.mul_lt_mul_of_pos_right b2 (pow_pos' t)
          rw [← Nat.pow_add, ht] at g1
          rw [← Nat.pow_add, show F.log2 + 1 + t = 24 by omega] at g2
          have hr := raw_of s (F * 2 ^ t) (-24 - t) (by omega) (by omega) (by omega) (by omega)
          rw [rung_scale] at hr
          have hrl := rung_le F (-24)
          rw [half_num s (F * 2 ^ t) (-24 - t) (NR s F (-24)) (by unfold NR; omega) (by unfold NR; omega) hr (by omega) (by omega) (by omega) (by omega) k (by omega), halfV_scale _ _ _ _ c3, halfV_sub s F c3 hF]
          congr 1
          omega
      · rw [if_neg c2]
        have e13 : 2 ^ 13 = 8192 := by decide
        have hr := raw_of s ((1024 + F) * 2 ^ 13) ((E : Int) - 25 - (13 : Nat)) (by rw [e13]; omega) (by rw [e13]; omega) (by omega) (by omega)
        rw [rung_scale] at hr
        have hrl := rung_le (1024 + F) ((E : Int) - 25)
        rw [half_num s ((1024 + F) * 2 ^ 13) ((E : Int) - 25 - (13 : Nat)) (NR s (1024 + F) ((E : Int) - 25)) (by unfold NR; omega) (by unfold NR; omega) hr (by rw [e13]; omega) (by rw [e13]; omega) (by omega) (by omega) k (by omega), halfV_scale _ _ _ _ (by omega), halfV_norm s (1024 + F) _ (by omega) (by omega) (by omega) (by omega)]
        congr 1
        omega
end Go.Proofs.YteecekhfpfnepaaDoor.Sg
namespace Go.Proofs.YteecekhfpfnepaaDoor.Sg
open Go.RowKit Go.Proofs.YteecekhfpfnepaaDoor.PAll Go.Proofs.YteecekhfpfnepaaDoorW.PrintWords Go.Proofs.YteecekhfpfnepaaDoorW.PrintLast Go.Proofs.YteecekhfpfnepaaDoorW.PrintMore
set_option linter.unusedVariables false
set_option linter.unusedSimpArgs false

theorem shl_i (m t : Nat) (ht : t ≤ 64) (h : m * 2 ^ t < 9223372036854775808) : shl .i64 (m : Int) (t : Int) = ((m * 2 ^ t : Nat) : Int) := by
  unfold shl
  rw [show min (t : Int).toNat IntKind.i64.bits = t from by show min (t : Int).toNat 64 = t; omega, ← cast_pow, ← Int.natCast_mul, IntKind.wrap_i64]
  obtain ⟨z, hz⟩ : ∃ z, m * 2 ^ t = z := ⟨_, rfl⟩
  rw [hz] at h ⊢
  omega
theorem shr_i (m t : Nat) (ht : t ≤ 64) : shr .i64 (m : Int) (t : Int) = ((m / 2 ^ t : Nat) : Int) := by
  unfold shr
  rw [show min (t : Int).toNat IntKind.i64.bits = t from by show min (t : Int).toNat 64 = t; omega, ← cast_pow, ← Int.natCast_ediv]
theorem shl_oneI (s : Nat) (hs : s ≤ 62) : shl .i64 1 (s : Int) = ((2 ^ s : Nat) : Int) := by
  have hp : 2 ^ s ≤ 2 ^ 62 := Nat.pow_le_pow_right (by omega) hs
  have e : 2 ^ 62 = 4611686018427387904 := by decide
  rw [show (1 : Int) = ((1 : Nat) : Int) from rfl, shl_i 1 s (by omega) (by omega), Nat.one_mul]
/-- cut, at a place. -/
theorem cut_j0 (m : Nat) (e L : Int) (hm : m < 16777216) (he0 : -149 ≤ e) (he1 : e ≤ 104) (hL0 : -200 ≤ L) (hL1 : L ≤ 300) (hup : e - L ≤ 11) (k : Nat) : heraldref03_cut.j0 (k + 1) (m : Int) e L = some (((keptQ m e L : Nat) : Int), L) := by
  simp only [heraldref03_cut.j0]
  unfold keptQ
  by_cases hs : L ≤ e
  · obtain ⟨t, ht⟩ : ∃ t, (e - L).toNat = t := ⟨_, rfl⟩
    have h2 : 2 ^ t ≤ 2 ^ 11 := Nat.pow_le_pow_right (by omega) (by omega)
    have h3 : m * 2 ^ t ≤ 16777216 * 2048 := Nat.mul_le_mul (by omega) h2
    rw [if_pos hs, wrap_in (a := e - L) (by omega) (by omega), show e - L = (t : Int) from by omega, u64_in (a := (t : Int)) (by omega) (by omega), if_pos (by omega), shl_i m t (by omega) (by omega), show (L - e).toNat = 0 by omega, rhe_zero, Int.toNat_natCast, Nat.shiftLeft_eq]
  · obtain ⟨s, hs'⟩ : ∃ s, (L - e).toNat = s := ⟨_, rfl⟩
    have hse : L - e = (s : Int) := by omega
    rw [if_neg hs, wrap_in (a := L - e) (by omega) (by omega), hse, show (e - L).toNat = 0 by omega, Nat.shiftLeft_zero, Int.toNat_natCast]
    by_cases h60 : s > 60
    · have : 2 ^ 61 ≤ 2 ^ s := Nat.pow_le_pow_right (by omega) (by omega)
      have e2 : 2 ^ 61 = 2305843009213693952 := by decide
      rw [if_pos (by omega), rhe_small (by omega)]
      rfl
    · have hmul : m / 2 ^ s * 2 ^ s ≤ m := Nat.div_mul_le_self _ _
      have hph := pow_half s (by omega)
      have hp1 := pow_pos' (s - 1)
      rw [if_neg (by omega), u64_in (a := (s : Int)) (by omega) (by omega), if_pos (by omega), wrap_in (a := (s : Int) - 1) (by omega) (by omega), show (s : Int) - 1 = ((s - 1 : Nat) : Int) from by omega, u64_in (a := ((s - 1 : Nat) : Int)) (by omega) (by omega), if_pos (by omega), shr_i m s (by omega), shl_i _ s (by omega) (by omega), shl_oneI (s - 1) (by omega)]
      have hdm := Nat.div_add_mod m (2 ^ s)
      have hmod : m % 2 ^ s < 2 ^ s := Nat.mod_lt _ (pow_pos' s)
      have hql : m / 2 ^ s ≤ m := Nat.div_le_self _ _
      unfold rhe
      rw [Nat.mul_comm] at hdm
      obtain ⟨q, hq⟩ : ∃ q, m / 2 ^ s = q := ⟨_, rfl⟩
      obtain ⟨qs, hqs⟩ : ∃ qs, q * 2 ^ s = qs := ⟨_, rfl⟩
      obtain ⟨rr, hrr⟩ : ∃ rr, m % 2 ^ s = rr := ⟨_, rfl⟩
      obtain ⟨hh, hhh⟩ : ∃ hh, 2 ^ (s - 1) = hh := ⟨_, rfl⟩
      rw [hq] at hdm hmul hql ⊢
      rw [hqs] at hdm hmul ⊢
      rw [hrr] at hmod hdm ⊢
      rw [hhh] at hph hp1 ⊢
      rw [hph] at hmod ⊢
      rw [wrap_in (a := (m : Int) - (qs : Int)) (by omega) (by omega), show (m : Int) - (qs : Int) = (rr : Int) from by omega, wrap_in (a := (q : Int) + 1) (by omega) (by omega), Int.tmod_eq_emod_of_nonneg (by omega)]
      by_cases c1 : rr > hh
      · rw [if_pos (by omega), if_pos (.inl (by omega))]; rfl
      · rw [if_neg (by omega)]
        by_cases c2 : rr = hh
        · rw [if_pos (by omega)]
          by_cases c3 : q % 2 = 1
          · rw [if_pos (by omega), if_pos (.inr ⟨by omega, c3⟩)]; rfl
          · rw [if_neg (by omega), if_neg (by omega)]; rfl
        · rw [if_neg (by omega), if_neg (by omega)]; rfl
theorem cut_some (m : Nat) (e : Int) (h0 : m ≠ 0) (hm : m < 16777216) (he0 : -149 ≤ e) (he1 : e ≤ 104) (k : Nat) (hk : 80 ≤ k) : heraldref03_cut.f k (m : Int) e 11 (-24) = some (((keptH m e : Nat) : Int), lastH m e) := by
  obtain ⟨k, rfl⟩ : ∃ j, k = j + 1 := ⟨k - 1, by omega⟩
  have hl : m.log2 < 24 := (Nat.log2_lt h0).2 (by omega)
  have hlp : lastH m e = max (e + m.log2 - 10) (-24) := rfl
  have hc := cut_j0 m e (lastH m e) hm he0 he1 (by omega) (by omega) (by omega) k
  unfold heraldref03_cut.f
  rw [u64_in (by omega) (by omega), length_some m (k + 1) (by omega) (by omega), lenI_log m h0]
  simp only [Option.bind_some]
  rw [wrap_in (a := e + _) (by omega) (by omega), wrap_in (by omega) (by omega)]
  split
  · rw [show lastH m e = -24 from by omega] at hc; rw [hc]; unfold keptH; rw [show lastH m e = -24 from by omega]
  · rw [show e + ((m.log2 : Int) + 1) - 11 = lastH m e from by omega, hc]; rfl
theorem cut_zero (e : Int) (he0 : -149 ≤ e) (he1 : e ≤ 104) (k : Nat) (hk : 80 ≤ k) : ∃ L, heraldref03_cut.f k 0 e 11 (-24) = some (0, L) := by
  obtain ⟨k, rfl⟩ : ∃ j, k = j + 1 := ⟨k - 1, by omega⟩
  have hq : ∀ L, keptQ 0 e L = 0 := by
    intro L; unfold keptQ
    rw [Nat.zero_shiftLeft]
    exact rhe_small (by have := pow_pos' (L - e).toNat; omega)
  unfold heraldref03_cut.f
  have hlen := length_some 0 (k + 1) (by omega) (by omega)
  have l0 : lenI ((0 : Nat) : Int) = 0 := rfl
  rw [l0] at hlen
  rw [show IntKind.u64.wrap 0 = ((0 : Nat) : Int) from rfl, hlen]
  simp only [Option.bind_some]
  rw [wrap_in (a := e + 0) (by omega) (by omega), wrap_in (by omega) (by omega)]
  split
  · have := cut_j0 0 e (-24) (by omega) he0 he1 (by omega) (by omega) (by omega) k
    rw [hq] at this
    exact ⟨_, this⟩
  · have := cut_j0 0 e (e + 0 - 11) (by omega) he0 he1 (by omega) (by omega) (by omega) k
    rw [hq] at this
    exact ⟨_, this⟩
theorem refhalf_j1 (neg : Bool) (last : Int) (q k : Nat) (h1 : -24 ≤ last) (h2 : last ≤ 1000) (hq : q < 2048) : heraldref03_Half.j1 (k + 1) (sgnH neg) (q : Int) last = some (finH (sgnH neg) last q) := by
  have hs : sgnH neg = 0 ∨ sgnH neg = 32768 := by cases neg <;> simp [sgnH]
  simp only [heraldref03_Half.j1]
  unfold finH
  by_cases c1 : q < 1024
  · rw [if_pos (by omega), if_pos c1, u16_in (a := (q : Int)) (by omega) (by omega), u16_in (by omega) (by omega)]
  · rw [if_neg (by omega), if_neg c1]
    by_cases c2 : last + 25 ≥ 31
    · rw [if_pos (by omega), if_pos c2, u16_in (by omega) (by omega)]
    · rw [if_neg (by omega), if_neg c2, wrap_in (a := last + 25) (by omega) (by omega), u16_in (a := last + 25) (by omega) (by omega), u16_in (a := (last + 25) * 1024) (by omega) (by omega), u16_in (a := sgnH neg + (last + 25) * 1024) (by omega) (by omega), wrap_in (a := (q : Int) - 1024) (by omega) (by omega), u16_in (a := (q : Int) - 1024) (by omega) (by omega), u16_in (by omega) (by omega)]
theorem refhalf_j0 (neg : Bool) (m : Nat) (e : Int) (hm : m < 16777216) (he0 : -149 ≤ e) (he1 : e ≤ 104) (k : Nat) (hk : 90 ≤ k) : heraldref03_Half.j0 k 0 (m : Int) e (sgnH neg) = some (if m = 0 then sgnH neg else halfV (sgnH neg) m e) := by
  obtain ⟨k, rfl⟩ : ∃ j, k = j + 2 := ⟨k - 2, by omega⟩
  have hs : sgnH neg = 0 ∨ sgnH neg = 32768 := by cases neg <;> simp [sgnH]
  simp only [heraldref03_Half.j0]
  rw [if_neg (by decide), if_neg (by decide)]
  by_cases h0 : m = 0
  · subst h0
    obtain ⟨L, hL⟩ := cut_zero e he0 he1 (k + 1) (by omega)
    rw [show ((0 : Nat) : Int) = 0 from rfl, hL]
    simp only [Option.bind_some]
    rw [if_neg (by decide)]
    simp only [heraldref03_Half.j1]
    rw [if_pos (by decide), show IntKind.u16.wrap 0 = 0 from rfl, Int.add_zero, u16_in (by omega) (by omega), if_pos trivial]
  · have hl : m.log2 < 24 := (Nat.log2_lt h0).2 (by omega)
    have hlp : lastH m e = max (e + m.log2 - 10) (-24) := rfl
    have hq := keptH_up m e h0
    rw [cut_some m e h0 hm he0 he1 (k + 1) (by omega), if_neg h0]
    simp only [Option.bind_some]
    unfold halfV
    by_cases c3 : keptH m e = 2048
    · rw [if_pos (by omega), if_pos c3, wrap_in (by omega) (by omega), show (1024 : Int) = ((1024 : Nat) : Int) from rfl, refhalf_j1 neg _ _ k (by omega) (by omega) (by omega)]
    · rw [if_neg (by omega), if_neg c3, refhalf_j1 neg _ _ k (by omega) (by omega) (by omega)]
/-- The two Halves are one. -/
theorem halves_same (a : Int) (h0 : 0 ≤ a) (h1 : a < 4294967296) (k : Nat) (hk : 100 ≤ k) : ∃ v, single_Half.f k a = some v ∧ heraldref03_Half.f k a = some v := by
  rcases raw_cases a h0 h1 with ⟨ra, _⟩ | ⟨s, ra, _⟩ | ⟨s, m, e, ra, _, fa⟩
  · refine ⟨32256, half_nan a h0 h1 ra k (by omega), ?_⟩
    obtain ⟨k, rfl⟩ : ∃ j, k = j + 1 := ⟨k - 1, by omega⟩
    unfold heraldref03_Half.f
    rw [raw_some a h0 h1, ra]
    simp [heraldref03_Half.j0]
  · refine ⟨_, half_inf s a h0 h1 ra k (by omega), ?_⟩
    obtain ⟨k, rfl⟩ : ∃ j, k = j + 1 := ⟨k - 1, by omega⟩
    unfold heraldref03_Half.f
    rw [raw_some a h0 h1, ra]
    cases s
    · simp only [Option.bind_some, heraldref03_Half.j0]; rfl
    · simp only [Option.bind_some, heraldref03_Half.j0]; rfl
  · have hb : m < 16777216 ∧ -149 ≤ e ∧ e ≤ 104 := by rcases fa.form with ⟨g1, g2⟩ | ⟨g1, g2, g3, g4⟩ <;> omega
    have hj := fun neg => refhalf_j0 neg m e hb.1 hb.2.1 hb.2.2 k (by omega)
    refine ⟨if m = 0 then sgnH s else halfV (sgnH s) m e, ?_, ?_⟩
    · by_cases c : m = 0
      · subst c
        rw [if_pos rfl]
        exact half_zero s e a h0 h1 ra k (by omega)
      · rw [if_neg c]
        exact half_num s m e a h0 h1 ra c hb.1 hb.2.1 hb.2.2 k (by omega)
    · unfold heraldref03_Half.f
      rw [raw_some a h0 h1, ra]
      simp only [Option.bind_some]
      cases s
      · rw [if_neg (by decide)]; exact hj false
      · rw [if_pos rfl]; exact hj true
theorem from_same (n : Nat) (hn : n < 65536) (k : Nat) (hk : 100 ≤ k) : ∃ v, single_FromHalf.f k (n : Int) = some v ∧ heraldref03_FromHalf.f k (n : Int) = some v := by
  obtain ⟨E, hE⟩ : ∃ E, n / 1024 % 32 = E := ⟨_, rfl⟩
  obtain ⟨F, hF⟩ : ∃ F, n % 1024 = F := ⟨_, rfl⟩
  obtain ⟨s, hs⟩ : ∃ s, decide (32768 ≤ n) = s := ⟨_, rfl⟩
  refine ⟨_, from_some n hn s E F hE hF hs k (by omega), ?_⟩
  have ed : decide ((32768 : Int) ≤ (n : Int)) = s := by
    rw [← hs]
    by_cases c : 32768 ≤ n
    · rw [decide_eq_true c, decide_eq_true (by omega)]
    · rw [decide_eq_false c, decide_eq_false (by omega)]
  unfold heraldref03_FromHalf.f fromV
  rw [if_pos ⟨by omega, by omega⟩, ed, show (n : Int) / 1024 % 32 = (E : Int) from by omega, show (n : Int) % 1024 = (F : Int) from by omega]
  have hE1 : E < 32 := by omega
  have hF1 : F < 1024 := by omega
  by_cases c1 : E = 31
  · rw [if_pos (by omega), if_pos c1]
    by_cases c2 : F = 0
    · rw [if_neg (by omega), if_pos c2]
      by_cases c3 : 32768 ≤ n
      · rw [if_pos (by omega)]
        rw [decide_eq_true c3] at hs
        subst hs; rfl
      · rw [if_neg (by omega)]
        rw [decide_eq_false c3] at hs
        subst hs; rfl
    · rw [if_pos (by omega), if_neg c2]
  · rw [if_neg (by omega), if_neg c1]
    by_cases c2 : E = 0
    · rw [if_pos (by omega), if_pos c2, refnear_some s F _ (by omega) k (by omega)]
    · rw [if_neg (by omega), if_neg c2, show 1024 + (F : Int) = ((1024 + F : Nat) : Int) from by omega, refnear_some s (1024 + F) _ (by omega) k (by omega)]
theorem parts_kind (a : Int) : (partsV a).1 = (rawV a).1 := by
  unfold partsV
  split
  split <;> simp_all
theorem brain_same (a : Int) (h0 : 0 ≤ a) (h1 : a < 4294967296) : ∃ v, single_Brain.f a = some v ∧ heraldref03_Brain.f a = some v := by
  unfold single_Brain.f heraldref03_Brain.f
  rw [parts_some a h0 h1, raw_some a h0 h1]
  simp only [Option.bind_some, parts_kind]
  by_cases c : (rawV a).1 = 2
  · rw [if_pos c, if_pos c]; exact ⟨_, rfl, rfl⟩
  · rw [if_neg c, if_neg c]
    have hlim : a % 2147483648 ≤ 2139095040 := by
      rcases raw_cases a h0 h1 with ⟨ra, _⟩ | ⟨s, ra, _, hw⟩ | ⟨s, m, e, ra, _, fa⟩
      · rw [ra] at c; exact absurd rfl c
      · rcases sgn_cases s with ⟨_, hs, _⟩ | ⟨_, hs, _⟩ <;> rw [hs] at hw <;> omega
      · have hw := fa.word
        have hl := rung_le m e
        rcases sgn_cases s with ⟨_, hs, _⟩ | ⟨_, hs, _⟩ <;> rw [hs] at hw <;> omega
    have hlim2 : a + 32768 < 4294967296 := by omega
    obtain ⟨q, hq⟩ : ∃ q : Nat, a / 65536 = (q : Int) := ⟨(a / 65536).toNat, by omega⟩
    have hq1 : q < 65536 := by omega
    have hand : bits .and .u32 (a / 65536) 1 = ((q % 2 : Nat) : Int) := by
      rw [hq, show (1 : Int) = ((1 : Nat) : Int) from rfl, and32 _ _ (by omega) (by omega), Nat.and_one_is_mod]
    obtain ⟨b, hb⟩ : ∃ b, q % 2 = b := ⟨_, rfl⟩
    have hb1 : b ≤ 1 := by omega
    rw [hand, Int.tmod_eq_emod_of_nonneg h0, Int.tdiv_eq_ediv_of_nonneg h0, hq, hb]
    have e1 : (a + 32767) % 4294967296 = a + 32767 := Int.emod_eq_of_lt (by omega) (by omega)
    have e2 : (a + 32767 + (b : Int)) % 4294967296 = a + 32767 + (b : Int) := Int.emod_eq_of_lt (by omega) (by omega)
    have e3 : (q : Int) % 4294967296 = (q : Int) := Int.emod_eq_of_lt (by omega) (by omega)
    rw [e1, e2, e3]
    refine ⟨_, rfl, ?_⟩
    by_cases c1 : a % 65536 > 32768
    · rw [if_pos c1, show ((q : Int) + 1) % 4294967296 = (q : Int) + 1 from Int.emod_eq_of_lt (by omega) (by omega), u16_in (by omega) (by omega)]
      exact congrArg some (by omega)
    · rw [if_neg c1]
      by_cases c2 : a % 65536 = 32768
      · rw [if_pos c2]
        by_cases c3 : (q : Int) % 2 = 1
        · rw [if_pos c3, show ((q : Int) + 1) % 4294967296 = (q : Int) + 1 from Int.emod_eq_of_lt (by omega) (by omega), u16_in (by omega) (by omega)]
          exact congrArg some (by omega)
        · rw [if_neg c3, u16_in (by omega) (by omega)]
          exact congrArg some (by omega)
      · rw [if_neg c2, u16_in (by omega) (by omega)]
        exact congrArg some (by omega)
theorem frombrain_same (a : Int) (h0 : 0 ≤ a) (h1 : a < 65536) : ∃ v, single_FromBrain.f a = some v ∧ heraldref03_FromBrain.f a = some v := by
  unfold single_FromBrain.f heraldref03_FromBrain.f
  obtain ⟨x, hx⟩ : ∃ x, a % 4294967296 * 65536 % 4294967296 = x := ⟨_, rfl⟩
  have hx0 : 0 ≤ x := by omega
  have hx1 : x < 4294967296 := by omega
  rw [hx, parts_some x hx0 hx1, raw_some x hx0 hx1]
  simp only [Option.bind_some, parts_kind]
  by_cases c : (rawV x).1 = 2
  · rw [if_pos c]; exact ⟨_, rfl, rfl⟩
  · rw [if_neg c]; exact ⟨_, rfl, rfl⟩
end Go.Proofs.YteecekhfpfnepaaDoor.Sg
