/- Halves: the program's and the reference's rounding to 11 binary digits. -/
import Derived.Test.YteecekhfpfnepaaDoorSgParts
import Derived.Test.YteecekhfpfnepaaDoorSgRef
import Derived.Test.YteecekhfpfnepaaDoorSgStick
import Derived.Test.YteecekhfpfnepaaDoorPAllx6
import Derived.Test.YteecekhfpfnepaaDoorPAllx8
namespace Go.Proofs.YteecekhfpfnepaaDoor.Sg
open Go.RowKit Go.Proofs.YteecekhfpfnepaaDoor.PAll Go.Proofs.YteecekhfpfnepaaDoorW.PrintWords Go.Proofs.YteecekhfpfnepaaDoorW.PrintLast Go.Proofs.YteecekhfpfnepaaDoorW.PrintMore
set_option linter.unusedVariables false
set_option linter.unusedSimpArgs false

/-- The last place that a half keeps. -/
def lastH (m : Nat) (e : Int) : Int := max (e + m.log2 - 10) (-24)
def keptH (m : Nat) (e : Int) : Nat := keptQ m e (lastH m e)
theorem keptQ_scale (m t : Nat) (e L : Int) : keptQ (m * 2 ^ t) (e - t) L = keptQ m e L := by
  unfold keptQ
  by_cases c1 : L ≤ e - t
  · rw [show (L - (e - t)).toNat = 0 by omega, show (L - e).toNat = 0 by omega, rhe_zero, rhe_zero, Nat.shiftLeft_eq, Nat.shiftLeft_eq, Nat.mul_assoc, ← Nat.pow_add]
    congr 2
    omega
  · rw [show (e - t - L).toNat = 0 by omega, Nat.shiftLeft_zero]
    by_cases c2 : L ≤ e
    · rw [show (L - e).toNat = 0 by omega, rhe_zero, Nat.shiftLeft_eq]
      obtain ⟨s, hs⟩ : ∃ s, (L - (e - t)).toNat = s := ⟨_, rfl⟩
      rw [hs, show t = (e - L).toNat + s by omega, Nat.pow_add, ← Nat.mul_assoc, rhe_exact]
    · rw [show (e - L).toNat = 0 by omega, Nat.shiftLeft_zero, show (L - (e - t)).toNat = (L - e).toNat + t by omega, rhe_scale]
theorem lastH_scale (m t : Nat) (e : Int) (hm : m ≠ 0) : lastH (m * 2 ^ t) (e - t) = lastH m e := by
  unfold lastH
  rw [log2_scale m t hm]
  congr 1
  omega
theorem keptH_up (m : Nat) (e : Int) (hm : m ≠ 0) : keptH m e ≤ 2048 := by
  obtain ⟨h1, h2⟩ := log_bounds m hm
  have hl : e + (m.log2 : Int) - 10 ≤ lastH m e := by unfold lastH; omega
  unfold keptH keptQ
  obtain ⟨L, hL⟩ : ∃ L, lastH m e = L := ⟨_, rfl⟩
  rw [hL] at hl ⊢
  have h5 : 2 ^ 11 = 2048 := by decide
  by_cases hs : L ≤ e
  · rw [show (L - e).toNat = 0 by omega, rhe_zero, Nat.shiftLeft_eq]
    obtain ⟨t, ht⟩ : ∃ t, (e - L).toNat = t := ⟨_, rfl⟩
    rw [ht]
    have h3 : m * 2 ^ t < 2 ^ (m.log2 + 1) * 2 ^ t := Nat.mul_lt_mul_of_pos_right h2 (pow_pos' t)
    rw [← Nat.pow_add] at h3
    have h4 : 2 ^ (m.log2 + 1 + t) ≤ 2 ^ 11 := Nat.pow_le_pow_right (by omega) (by omega)
    omega
  · rw [show (e - L).toNat = 0 by omega, Nat.shiftLeft_zero]
    obtain ⟨s, hs'⟩ : ∃ s, (L - e).toNat = s := ⟨_, rfl⟩
    rw [hs']
    have h3 : 2 ^ (m.log2 + 1) ≤ 2 ^ (11 + s) := Nat.pow_le_pow_right (by omega) (by omega)
    have h4 : m / 2 ^ s < 2 ^ 11 := by
      apply Nat.div_lt_of_lt_mul
      rw [← Nat.pow_add, Nat.add_comm s 11]
      omega
    have h6 := (rhe_le m s).2
    omega
/-- The word of a half: a sign, the place, the kept digits. -/
def finH (s last : Int) (q : Nat) : Int := if q < 1024 then s + q else if last + 25 ≥ 31 then s + 31744 else s + (last + 25) * 1024 + (q - 1024)
def halfV (s : Int) (m : Nat) (e : Int) : Int := if keptH m e = 2048 then finH s (lastH m e + 1) 1024 else finH s (lastH m e) (keptH m e)
theorem halfV_scale (s : Int) (m t : Nat) (e : Int) (hm : m ≠ 0) : halfV s (m * 2 ^ t) (e - t) = halfV s m e := by
  unfold halfV keptH
  rw [lastH_scale m t e hm, keptQ_scale]
def sgnH (neg : Bool) : Int := if neg then 32768 else 0
theorem or16 (a c : Nat) (ha : a < 65536) (hc : c < 65536) : bits .or .u16 (a : Int) (c : Int) = ((a ||| c : Nat) : Int) := by
  show IntKind.u16.wrap ((BitVec.ofInt 16 (a : Int) ||| BitVec.ofInt 16 (c : Int)).toNat : Int) = _
  rw [BitVec.toNat_or, BitVec.ofInt_natCast, BitVec.ofInt_natCast, BitVec.toNat_ofNat, BitVec.toNat_ofNat, Nat.mod_eq_of_lt (by omega), Nat.mod_eq_of_lt (by omega)]
  have h : a ||| c < 2 ^ 16 := Nat.or_lt_two_pow (by omega) (by omega)
  show ((a ||| c : Nat) : Int) % 65536 = _
  omega
def sgnHN (neg : Bool) : Nat := if neg then 32768 else 0
theorem sgnH_cast (neg : Bool) : sgnH neg = (sgnHN neg : Int) := by cases neg <;> rfl
theorem or_u16 (neg : Bool) (x : Nat) (hx : x < 32768) : bits .or .u16 (sgnH neg) (x : Int) = sgnH neg + (x : Int) := by
  rw [sgnH_cast]
  cases neg
  · rw [show sgnHN false = 0 from rfl, or16 _ _ (by omega) (by omega), Nat.zero_or]; omega
  · have e := Nat.two_pow_add_eq_or_of_lt (i := 15) (b := x) (by omega) 1
    rw [show sgnHN true = 32768 from rfl, or16 _ _ (by omega) (by omega), show (32768 : Nat) = 2 ^ 15 * 1 from by decide, ← e]; omega
theorem or2_u16 (neg : Bool) (x y : Nat) (hx : x < 32) (hy : y < 1024) : bits .or .u16 (bits .or .u16 (sgnH neg) ((x * 1024 : Nat) : Int)) (y : Int) = sgnH neg + ((x * 1024 + y : Nat) : Int) := by
  rw [or_u16 neg _ (by omega)]
  obtain ⟨g, hg, hg2⟩ : ∃ g : Nat, sgnH neg = ((g * 1024 : Nat) : Int) ∧ g ≤ 32 := by
    cases neg
    · exact ⟨0, rfl, by omega⟩
    · exact ⟨32, rfl, by omega⟩
  rw [hg]
  have e := Nat.two_pow_add_eq_or_of_lt (i := 10) (b := y) (by omega) (g + x)
  rw [show ((g * 1024 : Nat) : Int) + ((x * 1024 : Nat) : Int) = ((2 ^ 10 * (g + x) : Nat) : Int) from by rw [show 2 ^ 10 = 1024 from by decide]; omega, or16 _ _ (by rw [show 2 ^ 10 = 1024 from by decide]; omega) (by omega), ← e, show 2 ^ 10 = 1024 from by decide]
  omega
theorem u16_in {a : Int} (h0 : 0 ≤ a) (h1 : a < 65536) : IntKind.u16.wrap a = a := by show a % 65536 = a; omega
theorem half_j1 (neg : Bool) (m : Nat) (last : Int) (q k : Nat) (h0 : m ≠ 0) (hm : m < 16777216) (h1 : -24 ≤ last) (h2 : last ≤ 1000) (hq : q < 2048) : single_Half.j1 (k + 1) (sgnH neg) (m : Int) last (q : Int) = some (finH (sgnH neg) last q) := by
  simp only [single_Half.j1]
  unfold finH
  rw [if_neg (by omega), wrap_in (by omega) (by omega)]
  by_cases c1 : q < 1024
  · rw [if_pos (by omega), if_pos c1, u16_in (by omega) (by omega), or_u16 neg q (by omega)]
  · rw [if_neg (by omega), if_neg c1]
    by_cases c2 : last + 25 ≥ 31
    · rw [if_pos c2, if_pos c2, show (31744 : Int) = ((31744 : Nat) : Int) from rfl, or_u16 neg _ (by omega)]
    · rw [if_neg c2, if_neg c2]
      obtain ⟨x, hx⟩ : ∃ x : Nat, last + 25 = (x : Int) := ⟨(last + 25).toNat, by omega⟩
      rw [hx, u16_in (a := (x : Int)) (by omega) (by omega), u16_in (a := (x : Int) * 1024) (by omega) (by omega), u64_in (by omega) (by omega), u16_in (by omega) (by omega), show (x : Int) * 1024 = ((x * 1024 : Nat) : Int) from by omega, show (q : Int) - 1024 = ((q - 1024 : Nat) : Int) from by omega, or2_u16 neg x (q - 1024) (by omega) (by omega)]
      congr 1
      omega
theorem down_keptH (m : Nat) (e : Int) (h0 : m ≠ 0) (hm : m < 16777216) (he0 : -300 ≤ e) (he1 : e ≤ 200) : single_down.f (m : Int) (lastH m e - e) = some ((keptH m e : Nat) : Int) := by
  have hl : m.log2 < 24 := (Nat.log2_lt h0).2 (by omega)
  have hb := (log_bounds m h0).2
  unfold keptH keptQ
  have hlp : lastH m e = max (e + m.log2 - 10) (-24) := rfl
  by_cases hs : lastH m e ≤ e
  · obtain ⟨t, ht⟩ : ∃ t, (e - lastH m e).toNat = t := ⟨_, rfl⟩
    have h4 : m.log2 + 1 + t ≤ 11 := by omega
    have h3 : m * 2 ^ t < 2 ^ (m.log2 + 1) * 2 ^ t := Nat.mul_lt_mul_of_pos_right hb (pow_pos' t)
    rw [← Nat.pow_add] at h3
    have h5 : 2 ^ (m.log2 + 1 + t) ≤ 2 ^ 11 := Nat.pow_le_pow_right (by omega) h4
    have h6 : 2 ^ 11 = 2048 := by decide
    rw [down_up m t (by omega) (by omega) _ (by omega), show (lastH m e - e).toNat = 0 by omega, rhe_zero, ht, Nat.shiftLeft_eq]
  · obtain ⟨s, hs'⟩ : ∃ s, (lastH m e - e).toNat = s := ⟨_, rfl⟩
    rw [show lastH m e - e = (s : Int) from by omega, down_down m s (by omega) (by omega) (by omega), show (e - lastH m e).toNat = 0 by omega, Nat.shiftLeft_zero, Int.toNat_natCast]
theorem half_j0 (neg x2 : Bool) (m : Nat) (e : Int) (h0 : m ≠ 0) (hm : m < 16777216) (he0 : -149 ≤ e) (he1 : e ≤ 150) (k : Nat) (hk : 2 ≤ k) : single_Half.j0 k (sgnH neg) 0 x2 (m : Int) e = some (halfV (sgnH neg) m e) := by
  obtain ⟨k, rfl⟩ : ∃ j, k = j + 2 := ⟨k - 2, by omega⟩
  have hl : m.log2 < 24 := (Nat.log2_lt h0).2 (by omega)
  have hq := keptH_up m e h0
  have hlast : mx (-24) (wrap64 (wrap64 (e + (((m.log2 : Nat) : Int) + 1)) - 11)) = lastH m e := by
    rw [wrap_in (a := e + _) (by omega) (by omega), wrap_in (by omega) (by omega)]
    unfold mx lastH
    split <;> omega
  have hlp : lastH m e = max (e + m.log2 - 10) (-24) := rfl
  simp only [single_Half.j0]
  rw [if_neg (by decide), if_neg (by decide), u64_in (by omega) (by omega)]
  unfold bits_Len64.f
  rw [if_pos ⟨by omega, by omega⟩, lenI_log m h0]
  simp only [Option.bind_some]
  rw [hlast, wrap_in (a := lastH m e - e) (by omega) (by omega), down_keptH m e h0 hm (by omega) (by omega)]
  simp only [Option.bind_some]
  unfold halfV
  by_cases c3 : keptH m e = 2048
  · rw [if_pos (by omega), if_pos c3, wrap_in (by omega) (by omega), show (1024 : Int) = ((1024 : Nat) : Int) from rfl, half_j1 neg m _ _ k h0 hm (by omega) (by omega) (by omega)]
  · rw [if_neg (by omega), if_neg c3, half_j1 neg m _ _ k h0 hm (by omega) (by omega) (by omega)]
end Go.Proofs.YteecekhfpfnepaaDoor.Sg
