/- The single nearest to a number: what the program's Near and the reference's near tell. -/
import Derived.Test.YteecekhfpfnepaaDoorPAllx3
import Derived.Test.YteecekhfpfnepaaDoorSgA
namespace Go.Proofs.YteecekhfpfnepaaDoor.Sg
open Go.RowKit Go.Proofs.YteecekhfpfnepaaDoor.PAll Go.Proofs.YteecekhfpfnepaaDoorW.PrintWords Go.Proofs.YteecekhfpfnepaaDoorW.PrintLast Go.Proofs.YteecekhfpfnepaaDoorW.PrintMore
set_option linter.unusedVariables false
set_option linter.unusedSimpArgs false

theorem wrap_in {a : Int} (h0 : -9223372036854775808 ≤ a) (h1 : a ≤ 9223372036854775807) : wrap64 a = a := by unfold wrap64; omega
theorem u64_eq (a : Int) : IntKind.u64.wrap a = a % 18446744073709551616 := rfl
theorem u64_in {a : Int} (h0 : 0 ≤ a) (h1 : a < 18446744073709551616) : IntKind.u64.wrap a = a := by rw [u64_eq]; omega
theorem pow_pos' (n : Nat) : 0 < 2 ^ n := Nat.two_pow_pos n
theorem cast_pow (n : Nat) : ((2 ^ n : Nat) : Int) = 2 ^ n := by push_cast; rfl
theorem pow63 (n : Nat) (h : n ≤ 63) : 2 ^ n ≤ 9223372036854775808 := by
  have := Nat.pow_le_pow_right (show 0 < 2 by omega) h
  exact this
theorem shl_u (m t : Nat) (ht : t ≤ 64) (h : m * 2 ^ t < 18446744073709551616) : shl .u64 (m : Int) (t : Int) = ((m * 2 ^ t : Nat) : Int) := by
  unfold shl
  rw [show min (t : Int).toNat IntKind.u64.bits = t from by show min (t : Int).toNat 64 = t; omega, ← cast_pow, ← Int.natCast_mul, u64_in (by omega) (by omega)]
theorem shr_u (m t : Nat) (ht : t ≤ 64) : shr .u64 (m : Int) (t : Int) = ((m / 2 ^ t : Nat) : Int) := by
  unfold shr
  rw [show min (t : Int).toNat IntKind.u64.bits = t from by show min (t : Int).toNat 64 = t; omega, ← cast_pow, ← Int.natCast_ediv]
theorem and_u (a c : Nat) (ha : a < 18446744073709551616) (hc : c < 18446744073709551616) : bits .and .u64 (a : Int) (c : Int) = ((a &&& c : Nat) : Int) := by
  show IntKind.u64.wrap ((BitVec.ofInt 64 (a : Int) &&& BitVec.ofInt 64 (c : Int)).toNat : Int) = _
  rw [BitVec.toNat_and, BitVec.ofInt_natCast, BitVec.ofInt_natCast, BitVec.toNat_ofNat, BitVec.toNat_ofNat, Nat.mod_eq_of_lt (by omega), Nat.mod_eq_of_lt (by omega)]
  have : a &&& c ≤ a := Nat.and_le_left
  exact u64_in (by omega) (by omega)
theorem mask_u (m s : Nat) (hm : m < 18446744073709551616) (hs : s ≤ 63) : bits .and .u64 (m : Int) (IntKind.u64.wrap (shl .u64 1 (s : Int) - 1)) = ((m % 2 ^ s : Nat) : Int) := by
  have hp := pow63 s hs
  have hp1 := pow_pos' s
  rw [show (1 : Int) = ((1 : Nat) : Int) from rfl, shl_u 1 s (by omega) (by omega), Nat.one_mul, show ((2 ^ s : Nat) : Int) - ((1 : Nat) : Int) = ((2 ^ s - 1 : Nat) : Int) from by omega, u64_in (by omega) (by omega), and_u _ _ hm (by omega), Nat.and_two_pow_sub_one_eq_mod]
theorem odd_u (m : Nat) (hm : m < 18446744073709551616) : bits .and .u64 (m : Int) 1 = ((m % 2 : Nat) : Int) := by
  rw [show (1 : Int) = ((1 : Nat) : Int) from rfl, and_u _ _ hm (by omega), Nat.and_one_is_mod]
theorem shl_one (s : Nat) (hs : s ≤ 63) : shl .u64 1 (s : Int) = ((2 ^ s : Nat) : Int) := by
  have hp := pow63 s hs
  rw [show (1 : Int) = ((1 : Nat) : Int) from rfl, shl_u 1 s (by omega) (by omega), Nat.one_mul]
theorem pow_half (s : Nat) (h : 1 ≤ s) : 2 ^ s = 2 * 2 ^ (s - 1) := by
  obtain ⟨t, rfl⟩ : ∃ t, s = t + 1 := ⟨s - 1, by omega⟩
  rw [Nat.pow_succ, Nat.mul_comm]; rfl
theorem rhe_lt (m s : Nat) (hm : m < 18446744073709551616) (hs : 1 ≤ s) : rhe m s ≤ 9223372036854775808 ∧ m / 2 ^ s < 9223372036854775808 := by
  have h1 : 2 ≤ 2 ^ s := by rw [pow_half s hs]; have := pow_pos' (s - 1); omega
  have h2 : m / 2 ^ s ≤ m / 2 := Nat.div_le_div_left h1 (by omega)
  unfold rhe
  split <;> omega
/-- What down tells. -/
theorem down_up (m : Nat) (t : Nat) (ht : t ≤ 64) (h : m * 2 ^ t < 18446744073709551616) (s : Int) (hs : s = -(t : Int)) : single_down.f (m : Int) s = some ((m * 2 ^ t : Nat) : Int) := by
  subst hs
  unfold single_down.f
  rw [if_pos (by omega), wrap_in (by omega) (by omega), if_pos (by omega), Int.neg_neg, shl_u m t ht h]
theorem down_down (m s : Nat) (hm : m < 18446744073709551616) (hs : 1 ≤ s) (hs2 : (s : Int) ≤ 9223372036854775807) : single_down.f (m : Int) (s : Int) = some ((rhe m s : Nat) : Int) := by
  unfold single_down.f
  rw [if_neg (by omega)]
  by_cases h64 : s > 64
  · rw [if_pos (by omega), rhe_small]
    · rfl
    · have : 2 ^ 65 ≤ 2 ^ s := Nat.pow_le_pow_right (by omega) (by omega)
      have e : 2 ^ 65 = 36893488147419103232 := by decide
      omega
  rw [if_neg (by omega), wrap_in (by omega) (by omega), if_pos (by omega), show (s : Int) - 1 = ((s - 1 : Nat) : Int) from by omega, shl_one (s - 1) (by omega)]
  have hph := pow_half s hs
  have hp1 := pow_pos' (s - 1)
  by_cases h63 : s < 64
  · rw [if_pos (by omega), if_pos (by omega), mask_u m s hm (by omega), shr_u m s (by omega)]
    obtain ⟨hr1, hr2⟩ := rhe_lt m s hm hs
    have hmod : m % 2 ^ s < 2 ^ s := Nat.mod_lt _ (pow_pos' s)
    unfold rhe
    obtain ⟨q, hq⟩ : ∃ q, m / 2 ^ s = q := ⟨_, rfl⟩
    obtain ⟨rr, hrr⟩ : ∃ rr, m % 2 ^ s = rr := ⟨_, rfl⟩
    obtain ⟨hh, hhh⟩ : ∃ hh, 2 ^ (s - 1) = hh := ⟨_, rfl⟩
    rw [hq] at hr2 ⊢
    rw [hrr] at hmod ⊢
    rw [hhh] at hph hp1 ⊢
    rw [hph] at hmod ⊢
    rw [odd_u q (by omega), u64_in (by omega) (by omega)]
    by_cases c1 : rr > hh
    · rw [if_pos (by omega), if_pos (.inl (by omega))]; rfl
    · rw [if_neg (by omega)]
      by_cases c2 : rr = hh
      · rw [if_pos (by omega)]
        by_cases c3 : q % 2 = 1
        · rw [if_pos (by omega), if_pos (.inr ⟨by omega, c3⟩)]; rfl
        · rw [if_neg (by omega), if_neg (by omega)]; rfl
      · rw [if_neg (by omega), if_neg (by omega)]; rfl
  · obtain rfl : s = 64 := by omega
    rw [if_neg (by omega)]
    have e1 : 2 ^ (64 - 1) = 9223372036854775808 := by decide
    have e2 : 2 ^ 64 = 18446744073709551616 := by decide
    have er : rhe m 64 = if 9223372036854775808 < m then 1 else 0 := by
      unfold rhe
      rw [e2, Nat.div_eq_of_lt hm, Nat.mod_eq_of_lt hm]
      by_cases c1 : 9223372036854775808 < m
      · rw [if_pos (.inl (by omega)), if_pos c1]
      · rw [if_neg (by omega), if_neg c1]
    rw [e1, er]
    by_cases c1 : 9223372036854775808 < m
    · rw [if_pos (by omega), if_pos c1]; rfl
    · rw [if_neg (by omega), if_neg c1]
      split
      · rw [if_neg (by decide)]; rfl
      · rfl

/-- The kept digits, rounded, where the last one is at a place. -/
def keptQ (m : Nat) (e last : Int) : Nat := rhe (m <<< (e - last).toNat) (last - e).toNat
theorem log_bounds (m : Nat) (hm : m ≠ 0) : 2 ^ m.log2 ≤ m ∧ m < 2 ^ (m.log2 + 1) := ⟨Nat.log2_self_le hm, Nat.lt_log2_self⟩
theorem log_lt (m : Nat) (hm : m ≠ 0) (h : m < 18446744073709551616) : m.log2 ≤ 63 := by
  have : m.log2 < 64 := (Nat.log2_lt hm).2 (by omega)
  omega
theorem rhe_le (n d : Nat) : n / 2 ^ d ≤ rhe n d ∧ rhe n d ≤ n / 2 ^ d + 1 := by unfold rhe; split <;> omega
/-- The kept digits are at most 24, and no fewer where the place is not the least. -/
theorem kept_up (m : Nat) (e last : Int) (hm : m ≠ 0) (h : e + (m.log2 : Int) - 23 ≤ last) : keptQ m e last ≤ 16777216 := by
  obtain ⟨h1, h2⟩ := log_bounds m hm
  unfold keptQ
  by_cases hs : last ≤ e
  · rw [show (last - e).toNat = 0 by omega, rhe_zero, Nat.shiftLeft_eq]
    obtain ⟨t, ht⟩ : ∃ t, (e - last).toNat = t := ⟨_, rfl⟩
    rw [ht]
    have h3 : m * 2 ^ t < 2 ^ (m.log2 + 1) * 2 ^ t := Nat.mul_lt_mul_of_pos_right h2 (pow_pos' t)
    rw [← Nat.pow_add] at h3
    have h4 : 2 ^ (m.log2 + 1 + t) ≤ 2 ^ 24 := Nat.pow_le_pow_right (by omega) (by omega)
    have h5 : 2 ^ 24 = 16777216 := by decide
    omega
  · rw [show (e - last).toNat = 0 by omega, Nat.shiftLeft_zero]
    obtain ⟨s, hs'⟩ : ∃ s, (last - e).toNat = s := ⟨_, rfl⟩
    rw [hs']
    have h3 : 2 ^ (m.log2 + 1) ≤ 2 ^ (24 + s) := Nat.pow_le_pow_right (by omega) (by omega)
    have h4 : m / 2 ^ s < 2 ^ 24 := by
      apply Nat.div_lt_of_lt_mul
      rw [← Nat.pow_add, Nat.add_comm s 24]
      omega
    have h5 : 2 ^ 24 = 16777216 := by decide
    have h6 := (rhe_le m s).2
    omega
theorem kept_low (m : Nat) (e last : Int) (hm : m ≠ 0) (h : last = e + (m.log2 : Int) - 23) : 8388608 ≤ keptQ m e last := by
  obtain ⟨h1, h2⟩ := log_bounds m hm
  unfold keptQ
  have h5 : 2 ^ 23 = 8388608 := by decide
  by_cases hs : last ≤ e
  · rw [show (last - e).toNat = 0 by omega, rhe_zero, Nat.shiftLeft_eq]
    obtain ⟨t, ht⟩ : ∃ t, (e - last).toNat = t := ⟨_, rfl⟩
    rw [ht]
    have h3 : 2 ^ m.log2 * 2 ^ t ≤ m * 2 ^ t := Nat.mul_le_mul_right _ h1
    rw [← Nat.pow_add, show m.log2 + t = 23 by omega] at h3
    omega
  · rw [show (e - last).toNat = 0 by omega, Nat.shiftLeft_zero]
    obtain ⟨s, hs'⟩ : ∃ s, (last - e).toNat = s := ⟨_, rfl⟩
    rw [hs']
    have h4 : 2 ^ 23 ≤ m / 2 ^ s := by
      rw [Nat.le_div_iff_mul_le (pow_pos' s), ← Nat.pow_add, show 23 + s = m.log2 by omega]
      exact h1
    have h6 := (rhe_le m s).1
    omega
theorem lastP_cases (m : Nat) (e : Int) : (lastP m e = e + (m.log2 : Int) - 23 ∧ -149 ≤ lastP m e) ∨ (lastP m e = -149 ∧ e + (m.log2 : Int) - 23 ≤ -149) := by
  unfold lastP; omega
/-- The rung of a number that is not 0, out of its kept digits. -/
theorem rung_eq (m : Nat) (e : Int) (hm : m ≠ 0) : rung m e = min ((lastP m e + 149).toNat * 8388608 + keptQ m e (lastP m e)) 2139095040 := by
  unfold rung keptQ
  rw [if_neg hm]
theorem kept_ok (m : Nat) (e : Int) (hm : m ≠ 0) : keptQ m e (lastP m e) ≤ 16777216 ∧ (keptQ m e (lastP m e) < 8388608 → lastP m e = -149) ∧ -149 ≤ lastP m e := by
  rcases lastP_cases m e with ⟨h1, h2⟩ | ⟨h1, h2⟩
  · exact ⟨kept_up m e _ hm (by omega), fun h => absurd (kept_low m e _ hm h1) (by omega), h2⟩
  · exact ⟨kept_up m e _ hm (by omega), fun _ => h1, by omega⟩
theorem rung_small (m : Nat) (e : Int) (hm : m < 18446744073709551616) (he : e < -300) : rung m e = 0 := by
  by_cases h0 : m = 0
  · rw [h0]; rfl
  have hl := log_lt m h0 hm
  rw [rung_eq m e h0]
  have e1 : lastP m e = -149 := by unfold lastP; omega
  rw [e1]
  unfold keptQ
  rw [show (e - -149).toNat = 0 by omega, Nat.shiftLeft_zero, rhe_small]
  · rfl
  · have : 2 ^ 65 ≤ 2 ^ (-149 - e).toNat := Nat.pow_le_pow_right (by omega) (by omega)
    have e2 : 2 ^ 65 = 36893488147419103232 := by decide
    omega
theorem rung_big (m : Nat) (e : Int) (h0 : m ≠ 0) (he : 200 < e) : rung m e = 2139095040 := by
  rw [rung_eq m e h0]
  have e1 : 177 < lastP m e := by unfold lastP; omega
  omega
/-- The word of a sign and a rung, as a number. -/
def sgn (neg : Bool) : Int := if neg then 2147483648 else 0
def NR (neg : Bool) (m : Nat) (e : Int) : Int := sgn neg + (rung m e : Int)
theorem rung_le (m : Nat) (e : Int) : rung m e ≤ 2139095040 := by
  unfold rung; split
  · omega
  · exact Nat.min_le_right _ _
theorem or32 (a c : Nat) (ha : a < 4294967296) (hc : c < 4294967296) : bits .or .u32 (a : Int) (c : Int) = ((a ||| c : Nat) : Int) := by
  show IntKind.u32.wrap ((BitVec.ofInt 32 (a : Int) ||| BitVec.ofInt 32 (c : Int)).toNat : Int) = _
  rw [BitVec.toNat_or, BitVec.ofInt_natCast, BitVec.ofInt_natCast, BitVec.toNat_ofNat, BitVec.toNat_ofNat, Nat.mod_eq_of_lt (by omega), Nat.mod_eq_of_lt (by omega)]
  have h : a ||| c < 2 ^ 32 := Nat.or_lt_two_pow (by omega) (by omega)
  show ((a ||| c : Nat) : Int) % 4294967296 = _
  omega
def sgnN (neg : Bool) : Nat := if neg then 2147483648 else 0
theorem sgn_cast (neg : Bool) : sgn neg = (sgnN neg : Int) := by cases neg <;> rfl
theorem or_u32 (neg : Bool) (x : Nat) (hx : x < 2147483648) : bits .or .u32 (sgn neg) (x : Int) = sgn neg + (x : Int) := by
  rw [sgn_cast]
  cases neg
  · rw [show sgnN false = 0 from rfl, or32 _ _ (by omega) (by omega), Nat.zero_or]; omega
  · have e := Nat.two_pow_add_eq_or_of_lt (i := 31) (b := x) (by omega) 1
    rw [show sgnN true = 2147483648 from rfl, or32 _ _ (by omega) (by omega), show (2147483648 : Nat) = 2 ^ 31 * 1 from by decide, ← e]; omega
theorem or2_u32 (neg : Bool) (x y : Nat) (hx : x < 256) (hy : y < 8388608) : bits .or .u32 (bits .or .u32 (sgn neg) ((x * 8388608 : Nat) : Int)) (y : Int) = sgn neg + ((x * 8388608 + y : Nat) : Int) := by
  rw [or_u32 neg _ (by omega), sgn_cast]
  obtain ⟨g, hg, hg2⟩ : ∃ g, sgnN neg = g * 8388608 ∧ g ≤ 256 := by
    cases neg
    · exact ⟨0, rfl, by omega⟩
    · exact ⟨256, rfl, by omega⟩
  rw [hg]
  have e := Nat.two_pow_add_eq_or_of_lt (i := 23) (b := y) (by omega) (g + x)
  rw [show ((g * 8388608 : Nat) : Int) + ((x * 8388608 : Nat) : Int) = ((2 ^ 23 * (g + x) : Nat) : Int) from by rw [show 2 ^ 23 = 8388608 from by decide]; omega, or32 _ _ (by rw [show 2 ^ 23 = 8388608 from by decide]; omega) (by omega), ← e, show 2 ^ 23 = 8388608 from by decide]
  omega
/-- What the program's Near and the reference's near do at the end: the word of a place and of kept digits. -/
def fin (s last : Int) (q : Nat) : Int := if q < 8388608 then s + q else if last + 150 ≥ 255 then s + 2139095040 else s + (last + 150) * 8388608 + (q - 8388608)
theorem fin_eq (neg : Bool) (m : Nat) (e : Int) (hm : m ≠ 0) : (if keptQ m e (lastP m e) = 16777216 then fin (sgn neg) (lastP m e + 1) 8388608 else fin (sgn neg) (lastP m e) (keptQ m e (lastP m e))) = NR neg m e := by
  obtain ⟨h1, h2, h3⟩ := kept_ok m e hm
  unfold NR fin
  rw [rung_eq m e hm]
  generalize keptQ m e (lastP m e) = q at *
  generalize lastP m e = l at *
  by_cases c : q = 16777216
  · rw [if_pos c, if_neg (by omega)]
    split <;> omega
  · rw [if_neg c]
    split
    · have := h2 (by omega); omega
    · split <;> omega
theorem lenI_log (m : Nat) (hm : m ≠ 0) : lenI (m : Int) = (m.log2 : Int) + 1 := by unfold lenI; rw [if_neg (by omega)]; rfl
/-- down at the place that Near takes. -/
theorem down_kept (m : Nat) (e : Int) (h0 : m ≠ 0) (hm : m < 18446744073709551616) (he0 : -300 ≤ e) (he1 : e ≤ 200) : single_down.f (m : Int) (lastP m e - e) = some ((keptQ m e (lastP m e) : Nat) : Int) := by
  have hl := log_lt m h0 hm
  have hb := (log_bounds m h0).2
  unfold keptQ
  have hlp : lastP m e = max (e + m.log2 - 23) (-149) := rfl
  by_cases hs : lastP m e ≤ e
  · obtain ⟨t, ht⟩ : ∃ t, (e - lastP m e).toNat = t := ⟨_, rfl⟩
    have h4 : m.log2 + 1 + t ≤ 24 := by omega
    have h3 : m * 2 ^ t < 2 ^ (m.log2 + 1) * 2 ^ t := Nat.mul_lt_mul_of_pos_right hb (pow_pos' t)
    rw [← Nat.pow_add] at h3
    have h5 : 2 ^ (m.log2 + 1 + t) ≤ 2 ^ 24 := Nat.pow_le_pow_right (by omega) h4
    have h6 : 2 ^ 24 = 16777216 := by decide
    rw [down_up m t (by omega) (by omega) _ (by omega), show (lastP m e - e).toNat = 0 by omega, rhe_zero, ht, Nat.shiftLeft_eq]
  · obtain ⟨s, hs'⟩ : ∃ s, (lastP m e - e).toNat = s := ⟨_, rfl⟩
    rw [show lastP m e - e = (s : Int) from by omega, down_down m s hm (by omega) (by omega), show (e - lastP m e).toNat = 0 by omega, Nat.shiftLeft_zero, Int.toNat_natCast]
theorem near_j1 (neg : Bool) (last : Int) (q k : Nat) (h1 : -149 ≤ last) (h2 : last ≤ 1000) (hq : q < 16777216) : single_Near.j1 (k + 1) (sgn neg) last (q : Int) = some (fin (sgn neg) last q) := by
  simp only [single_Near.j1]
  unfold fin
  rw [wrap_in (by omega) (by omega)]
  by_cases c1 : q < 8388608
  · rw [if_pos (by omega), if_pos c1, show (q : Int) % 4294967296 = (q : Int) from by omega, or_u32 neg q (by omega)]
  · rw [if_neg (by omega), if_neg c1]
    by_cases c2 : last + 150 ≥ 255
    · rw [if_pos c2, if_pos c2, show (2139095040 : Int) = ((2139095040 : Nat) : Int) from rfl, or_u32 neg _ (by omega)]
    · rw [if_neg c2, if_neg c2]
      obtain ⟨x, hx⟩ : ∃ x : Nat, last + 150 = (x : Int) := ⟨(last + 150).toNat, by omega⟩
      rw [hx, u64_in (by omega) (by omega), show ((x : Int) % 4294967296 * 8388608 % 4294967296) = ((x * 8388608 : Nat) : Int) from by omega, show ((q : Int) - 8388608) % 4294967296 = ((q - 8388608 : Nat) : Int) from by omega, or2_u32 neg x (q - 8388608) (by omega) (by omega)]
      congr 1
      omega
theorem near_j0 (neg : Bool) (m : Nat) (e : Int) (h0 : m ≠ 0) (hm : m < 18446744073709551616) (k : Nat) (hk : 2 ≤ k) : single_Near.j0 k e (sgn neg) (m : Int) = some (NR neg m e) := by
  obtain ⟨k, rfl⟩ : ∃ j, k = j + 2 := ⟨k - 2, by omega⟩
  simp only [single_Near.j0]
  by_cases c1 : e > 200
  · rw [if_pos c1, show (2139095040 : Int) = ((2139095040 : Nat) : Int) from rfl, or_u32 neg _ (by omega), NR, rung_big m e h0 c1]
  · rw [if_neg c1]
    by_cases c2 : e < -300
    · rw [if_pos c2, NR, rung_small m e hm c2]; simp
    · rw [if_neg c2]
      have hl := log_lt m h0 hm
      obtain ⟨h1, h2, h3⟩ := kept_ok m e h0
      have hlast : mx (-149) (wrap64 (wrap64 (e + (((m.log2 : Nat) : Int) + 1)) - 24)) = lastP m e := by
        rw [wrap_in (a := e + _) (by omega) (by omega), wrap_in (by omega) (by omega)]
        unfold mx lastP
        split <;> omega
      have hlp : lastP m e = max (e + m.log2 - 23) (-149) := rfl
      unfold bits_Len64.f
      rw [if_pos ⟨by omega, by omega⟩, lenI_log m h0]
      simp only [Option.bind_some]
      rw [hlast, wrap_in (a := lastP m e - e) (by omega) (by omega), down_kept m e h0 hm (by omega) (by omega)]
      simp only [Option.bind_some]
      rw [← fin_eq neg m e h0]
      by_cases c3 : keptQ m e (lastP m e) = 16777216
      · rw [if_pos (by omega), if_pos c3, wrap_in (by omega) (by omega), show (8388608 : Int) = ((8388608 : Nat) : Int) from rfl, near_j1 neg _ _ k (by omega) (by omega) (by omega)]
      · rw [if_neg (by omega), if_neg c3, near_j1 neg _ _ k (by omega) (by omega) (by omega)]
/-- Near, of any number that is not 0. -/
def magN (a : Int) : Nat := a.natAbs
theorem near_some (a e : Int) (h0 : -9223372036854775808 ≤ a) (h1 : a ≤ 9223372036854775807) (k : Nat) (hk : 2 ≤ k) : single_Near.f k a e = some (if a = 0 then 0 else NR (decide (a < 0)) a.natAbs e) := by
  unfold single_Near.f
  by_cases c0 : a = 0
  · rw [if_pos c0, if_pos c0]
  · rw [if_neg c0, if_neg c0]
    by_cases c1 : a < 0
    · rw [if_pos c1, decide_eq_true c1, show IntKind.u64.wrap (-(IntKind.u64.wrap a)) = ((a.natAbs : Nat) : Int) from by rw [u64_eq, u64_eq]; omega]
      exact near_j0 true a.natAbs e (by omega) (by omega) k hk
    · rw [if_neg c1, decide_eq_false c1, show IntKind.u64.wrap a = ((a.natAbs : Nat) : Int) from by rw [u64_eq]; omega]
      exact near_j0 false a.natAbs e (by omega) (by omega) k hk
end Go.Proofs.YteecekhfpfnepaaDoor.Sg
