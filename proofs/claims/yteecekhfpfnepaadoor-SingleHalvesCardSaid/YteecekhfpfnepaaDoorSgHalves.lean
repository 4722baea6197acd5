/- A half as a single, and back. -/
import Derived.Test.YteecekhfpfnepaaDoorSgHalf
import Derived.Test.YteecekhfpfnepaaDoorPAllx9
import Derived.Test.YteecekhfpfnepaaDoorPAllx12
import Derived.Test.YteecekhfpfnepaaDoorPAllx14
namespace Go.Proofs.YteecekhfpfnepaaDoor.Sg
open Go.RowKit Go.Proofs.YteecekhfpfnepaaDoor.PAll Go.Proofs.YteecekhfpfnepaaDoorW.PrintWords Go.Proofs.YteecekhfpfnepaaDoorW.PrintLast Go.Proofs.YteecekhfpfnepaaDoorW.PrintMore
set_option linter.unusedVariables false
set_option linter.unusedSimpArgs false

theorem sgn_cases (s : Bool) : (s = false ∧ sgn s = 0 ∧ sgnH s = 0) ∨ (s = true ∧ sgn s = 2147483648 ∧ sgnH s = 32768) := by
  cases s
  · exact .inl ⟨rfl, rfl, rfl⟩
  · exact .inr ⟨rfl, rfl, rfl⟩
/-- The bits of a normal number, read. -/
theorem raw_of (s : Bool) (m : Nat) (e : Int) (h1 : 8388608 ≤ m) (h2 : m < 16777216) (he : -149 ≤ e) (he2 : e ≤ 104) : rawV (sgn s + (rung m e : Int)) = (0, s, (m : Int), e) := by
  rw [rung_norm m e h1 h2 he he2]
  unfold rawV
  rcases sgn_cases s with ⟨rfl, hs, _⟩ | ⟨rfl, hs, _⟩
  · rw [hs, if_neg (by omega), if_neg (by omega), decide_eq_false (by omega)]
    refine congrArg _ (congrArg _ ?_)
    exact Prod.ext (by show _ = (m : Int); omega) (by show _ = e; omega)
  · rw [hs, if_neg (by omega), if_neg (by omega), decide_eq_true (by omega)]
    refine congrArg _ (congrArg _ ?_)
    exact Prod.ext (by show _ = (m : Int); omega) (by show _ = e; omega)
/-- What Half tells of a number that is not 0, whatever the power that it is told with. -/
theorem half_num (s : Bool) (m : Nat) (e : Int) (a : Int) (ha0 : 0 ≤ a) (ha1 : a < 4294967296) (hr : rawV a = (0, s, (m : Int), e)) (hm : m ≠ 0) (hm1 : m < 16777216) (he : -149 ≤ e) (he2 : e ≤ 104) (k : Nat) (hk : 2 ≤ k) :
    single_Half.f k a = some (halfV (sgnH s) m e) := by
  obtain ⟨q, hq⟩ := tz_spec m hm (by omega)
  have ht := tz_lt m hm (by omega)
  have hdiv : m / 2 ^ tz m = 2 * q + 1 := by
    have hp := pow_pos' (tz m)
    obtain ⟨T, hT⟩ : ∃ T, 2 ^ tz m = T := ⟨_, rfl⟩
    rw [hT] at hq hp ⊢
    rw [hq, Nat.mul_div_cancel_left _ hp]
  have hql : 2 * q + 1 ≤ m := by rw [← hdiv]; exact Nat.div_le_self _ _
  have ht24 : tz m < 24 := by
    have hp1 : 2 ^ tz m ≤ m := by
      have : 2 ^ tz m * 1 ≤ 2 ^ tz m * (2 * q + 1) := Nat.mul_le_mul_left _ (by omega)
      omega
    have : 2 ^ tz m < 2 ^ 24 := by
      have e24 : 2 ^ 24 = 16777216 := by decide
      omega
    exact (Nat.pow_lt_pow_iff_right (by omega)).1 this
  have hP : partsV a = (0, s, ((2 * q + 1 : Nat) : Int), e + (tz m : Int)) := by rw [partsV_of hr, if_neg (by omega), Int.toNat_natCast, hdiv]
  have hv : halfV (sgnH s) m e = halfV (sgnH s) (2 * q + 1) (e + (tz m : Int)) := by
    have := halfV_scale (sgnH s) (2 * q + 1) (tz m) (e + (tz m : Int)) (by omega)
    rw [Nat.mul_comm, ← hq, show e + (tz m : Int) - (tz m : Int) = e from by omega] at this
    exact this
  rw [hv]
  unfold single_Half.f
  rw [parts_some a ha0 ha1, hP]
  simp only [Option.bind_some]
  cases s
  · rw [if_neg (by decide)]
    exact half_j0 false false (2 * q + 1) _ (by omega) (by omega) (by omega) (by omega) k hk
  · rw [if_pos rfl]
    exact half_j0 true true (2 * q + 1) _ (by omega) (by omega) (by omega) (by omega) k hk
theorem half_zero (s : Bool) (e a : Int) (ha0 : 0 ≤ a) (ha1 : a < 4294967296) (hr : rawV a = (0, s, 0, e)) (k : Nat) (hk : 2 ≤ k) : single_Half.f k a = some (sgnH s) := by
  obtain ⟨k, rfl⟩ : ∃ j, k = j + 2 := ⟨k - 2, by omega⟩
  have hP : partsV a = (0, s, 0, 0) := by rw [partsV_of hr, if_pos rfl]
  have hl : bits_Len64.f 0 = some 0 := by unfold bits_Len64.f lenI; rfl
  have hx : mx (-24) (wrap64 (wrap64 (0 + 0) - 11)) = -11 := by decide +kernel
  have hd : single_down.f 0 (-11) = some 0 := by decide +kernel
  have hj : ∀ x4 x2, single_Half.j0 (k + 2) x4 0 x2 0 0 = some x4 := by
    intro x4 x2
    simp only [single_Half.j0]
    rw [if_neg (by decide), if_neg (by decide), show IntKind.u64.wrap 0 = 0 from rfl, hl]
    simp only [Option.bind_some]
    rw [hx, show wrap64 (-11 - 0) = -11 from by decide +kernel, hd]
    simp only [Option.bind_some]
    rw [if_neg (by decide)]
    simp only [single_Half.j1]
    rw [if_pos trivial]
  unfold single_Half.f
  rw [parts_some a ha0 ha1, hP]
  simp only [Option.bind_some]
  cases s
  · rw [if_neg (by decide), hj]; rfl
  · rw [if_pos rfl, hj]; rfl
theorem half_inf (s : Bool) (a : Int) (ha0 : 0 ≤ a) (ha1 : a < 4294967296) (hr : rawV a = (1, s, 0, 0)) (k : Nat) (hk : 2 ≤ k) : single_Half.f k a = some (sgnH s + 31744) := by
  obtain ⟨k, rfl⟩ : ∃ j, k = j + 2 := ⟨k - 2, by omega⟩
  have hP : partsV a = (1, s, 0, 0) := by rw [partsV_of hr, if_pos rfl]
  have hj : ∀ x2, single_Half.j0 (k + 2) (sgnH s) 1 x2 0 0 = some (sgnH s + 31744) := by
    intro x2
    simp only [single_Half.j0]
    rw [if_neg (by decide), if_pos trivial, show (31744 : Int) = ((31744 : Nat) : Int) from rfl, or_u16 s _ (by omega)]
  unfold single_Half.f
  rw [parts_some a ha0 ha1, hP]
  simp only [Option.bind_some]
  cases s
  · rw [if_neg (by decide)]; exact hj _
  · rw [if_pos rfl]; exact hj _
theorem half_nan (a : Int) (ha0 : 0 ≤ a) (ha1 : a < 4294967296) (hr : rawV a = (2, false, 0, 0)) (k : Nat) (hk : 2 ≤ k) : single_Half.f k a = some 32256 := by
  obtain ⟨k, rfl⟩ : ∃ j, k = j + 2 := ⟨k - 2, by omega⟩
  have hP : partsV a = (2, false, 0, 0) := by rw [partsV_of hr, if_pos rfl]
  unfold single_Half.f
  rw [parts_some a ha0 ha1, hP]
  simp only [Option.bind_some]
  rw [if_neg (by decide)]
  simp only [single_Half.j0]
  rw [if_pos trivial]
/-- A half's numbers, as Half rounds them: exact. -/
theorem halfV_sub (s : Bool) (m : Nat) (h0 : m ≠ 0) (h : m < 1024) : halfV (sgnH s) m (-24) = sgnH s + (m : Int) := by
  have h1 : m.log2 < 10 := (Nat.log2_lt h0).2 (by omega)
  have e1 : lastH m (-24) = -24 := by unfold lastH; omega
  have e2 : keptH m (-24) = m := by unfold keptH keptQ; rw [e1]; simp only [Int.sub_self, Int.toNat_zero, Nat.shiftLeft_zero, rhe_zero]
  unfold halfV
  rw [e2, if_neg (by omega)]
  unfold finH
  rw [if_pos h]
theorem halfV_norm (s : Bool) (m : Nat) (e : Int) (h : 1024 ≤ m) (h2 : m < 2048) (he : -24 ≤ e) (he2 : e ≤ 5) : halfV (sgnH s) m e = sgnH s + (e + 25) * 1024 + (m - 1024) := by
  have h1 : m.log2 = 10 := (Nat.log2_eq_iff (by omega)).2 ⟨by omega, by omega⟩
  have e1 : lastH m e = e := by unfold lastH; omega
  have e2 : keptH m e = m := by unfold keptH keptQ; rw [e1]; simp only [Int.sub_self, Int.toNat_zero, Nat.shiftLeft_zero, rhe_zero]
  unfold halfV
  rw [e2, if_neg (by omega), e1]
  unfold finH
  rw [if_neg (by omega), if_neg (by omega)]
theorem and16 (a c : Nat) (ha : a < 65536) (hc : c < 65536) : bits .and .u16 (a : Int) (c : Int) = ((a &&& c : Nat) : Int) := by
  show IntKind.u16.wrap ((BitVec.ofInt 16 (a : Int) &&& BitVec.ofInt 16 (c : Int)).toNat : Int) = _
  rw [BitVec.toNat_and, BitVec.ofInt_natCast, BitVec.ofInt_natCast, BitVec.toNat_ofNat, BitVec.toNat_ofNat, Nat.mod_eq_of_lt (by omega), Nat.mod_eq_of_lt (by omega)]
  have h : a &&& c ≤ a := Nat.and_le_left
  show ((a &&& c : Nat) : Int) % 65536 = _
  omega
theorem mask5 (a : Nat) (ha : a < 65536) : bits .and .u16 (a : Int) 31 = ((a % 32 : Nat) : Int) := by
  rw [show (31 : Int) = ((2 ^ 5 - 1 : Nat) : Int) from by decide, and16 _ _ ha (by decide), Nat.and_two_pow_sub_one_eq_mod, show 2 ^ 5 = 32 from by decide]
theorem mask10 (a : Nat) (ha : a < 65536) : bits .and .u16 (a : Int) 1023 = ((a % 1024 : Nat) : Int) := by
  rw [show (1023 : Int) = ((2 ^ 10 - 1 : Nat) : Int) from by decide, and16 _ _ ha (by decide), Nat.and_two_pow_sub_one_eq_mod, show 2 ^ 10 = 1024 from by decide]
/-- A half as a single: what FromHalf tells. -/
def fromV (s : Bool) (E F : Nat) : Int := if E = 31 then (if F = 0 then sgn s + 2139095040 else 2143289344) else if E = 0 then NR s F (-24) else NR s (1024 + F) ((E : Int) - 25)
theorem or_near (s : Bool) (m : Nat) (e : Int) : bits .or .u32 (sgn s) (NR false m e) = NR s m e := by
  have h := rung_le m e
  have : NR false m e = (rung m e : Int) := by unfold NR sgn; simp
  rw [this, or_u32 s _ (by omega)]
  rfl
theorem from_some (n : Nat) (hn : n < 65536) (s : Bool) (E F : Nat) (hE : n / 1024 % 32 = E) (hF : n % 1024 = F) (hs : decide (32768 ≤ n) = s) (k : Nat) (hk : 5 ≤ k) : single_FromHalf.f k (n : Int) = some (fromV s E F) := by
  obtain ⟨k, rfl⟩ : ∃ j, k = j + 1 := ⟨k - 1, by omega⟩
  have h1 : wrap64 (bits .and .u16 ((n : Int) / 1024) 31) = (E : Int) := by
    rw [show (n : Int) / 1024 = ((n / 1024 : Nat) : Int) from by omega, mask5 _ (by omega), hE, wrap_in (by omega) (by omega)]
  have h2 : wrap64 (bits .and .u16 (n : Int) 1023) = (F : Int) := by rw [mask10 _ hn, hF, wrap_in (by omega) (by omega)]
  have h3 : ((((n : Int) / 32768) % 4294967296) * 2147483648) % 4294967296 = sgn s := by
    rw [← hs]
    by_cases c : 32768 ≤ n
    · rw [decide_eq_true c]; show _ = (2147483648 : Int); omega
    · rw [decide_eq_false c]; show _ = (0 : Int); omega
  have hE1 : E < 32 := by omega
  have hF1 : F < 1024 := by omega
  unfold single_FromHalf.f fromV
  rw [h1, h2, h3]
  simp only [single_FromHalf.j0]
  by_cases c1 : E = 31
  · rw [if_pos (by omega), if_pos c1]
    by_cases c2 : F = 0
    · subst c2
      rw [if_pos rfl, show ((((0 : Nat) : Int)) != 0) = false from rfl, if_neg (by decide), if_pos (by omega), show (2139095040 : Int) = ((2139095040 : Nat) : Int) from rfl, or_u32 s _ (by omega)]
    · have : ((F : Int) != 0) = true := by rw [bne_iff_ne]; omega
      rw [if_neg c2, this, if_pos rfl]
  · rw [if_neg (by omega), if_neg c1, if_neg (by decide), if_neg (by omega)]
    by_cases c2 : E = 0
    · rw [if_pos (by omega), if_pos c2, near_some (F : Int) (-24) (by omega) (by omega) k (by omega)]
      simp only [Option.bind_some]
      by_cases c3 : F = 0
      · subst c3
        rw [if_pos (by rfl)]
        have := or_near s 0 (-24)
        have e0 : NR false 0 (-24) = 0 := by unfold NR; simp [rung, sgn]
        rw [e0] at this
        rw [this]
      · rw [if_neg (by omega), decide_eq_false (by omega), Int.natAbs_natCast, or_near]
    · rw [if_neg (by omega), if_neg c2, wrap_in (a := 1024 + (F : Int)) (by omega) (by omega), wrap_in (a := (E : Int) - 25) (by omega) (by omega), near_some (1024 + (F : Int)) _ (by omega) (by omega) k (by omega)]
      simp only [Option.bind_some]
      rw [if_neg (by omega), decide_eq_false (by omega), show (1024 + (F : Int)).natAbs = 1024 + F from by omega, or_near]
/-- There and back. -/
theorem there_back (s : Bool) (E F : Nat) (hE : E < 32) (hF : F < 1024) (k : Nat) (hk : 5 ≤ k) : single_Half.f k (fromV s E F) = some (if E = 31 ∧ F ≠ 0 then 32256 else sgnH s + (E : Int) * 1024 + F) := by
  unfold fromV
  rcases sgn_cases s with ⟨hs0, hs, hsh⟩ | ⟨hs0, hs, hsh⟩
  all_goals
    by_cases c1 : E = 31
    · rw [if_pos c1]
      by_cases c2 : F = 0
      · rw [if_pos c2, if_neg (by omega), half_inf s _ (by omega) (by omega) (by
          unfold rawV
          rw [hs]
          simp [hs0]) k (by omega)]
        congr 1
        omega
      · rw [if_neg c2, if_pos ⟨c1, c2⟩, half_nan 2143289344 (by omega) (by omega) (by unfold rawV; decide) k (by omega)]
    · rw [if_neg c1, if_neg (show ¬ (E = 31 ∧ F ≠ 0) from fun h => c1 h.1)]
      by_cases c2 : E = 0
      · rw [if_pos c2]
        by_cases c3 : F = 0
        · subst c3
          rw [half_zero s (-149) (NR s 0 (-24)) (by unfold NR; simp [rung]; omega) (by unfold NR; simp [rung]; omega) (by
            unfold NR rawV
            rw [hs]
            simp [rung, hs0]) k (by omega)]
          congr 1
          omega
        · have hl : F.log2 < 10 := (Nat.log2_lt c3).2 (by omega)
          obtain ⟨b1, b2⟩ := log_bounds F c3
          obtain ⟨t, ht⟩ : ∃ t, F.log2 + t = 23 := ⟨23 - F.log2, by omega⟩
          have e23 : 2 ^ 23 = 8388608 := by decide
          have e24 : 2 ^ 24 = 16777216 := by decide
          have g1 : 2 ^ F.log2 * 2 ^ t ≤ F * 2 ^ t := Nat.mul_le_mul_right _ b1
          have g2 : F * 2 ^ t < 2 ^ (F.log2 + 1) * 2 ^ t := Nat.mul_lt_mul_of_pos_right b2 (pow_pos' t)
          rw [← Nat.pow_add, ht] at g1
          rw [← Nat.pow_add, show F.log2 + 1 + t = 24 by omega] at g2
          have hr := raw_of s (F * 2 ^ t) (-24 - t) (by omega) (by omega) (by omega) (by omega)
          rw [rung_scale] at hr
          have hrl := rung_le F (-24)
          rw [half_num s (F * 2 ^ t) (-24 - t) (NR s F (-24)) (by unfold NR; omega) (by unfold NR; omega) hr (by omega) (by omega) (by omega) (by omega) k (by omega), halfV_scale _ _ _ _ c3, halfV_sub s F c3 hF]
          congr 1
          omega
      · rw [if_neg c2]
        have e13 : 2 ^ 13 = 8192 := by decide
        have hr := raw_of s ((1024 + F) * 2 ^ 13) ((E : Int) - 25 - (13 : Nat)) (by rw [e13]; omega) (by rw [e13]; omega) (by omega) (by omega)
        rw [rung_scale] at hr
        have hrl := rung_le (1024 + F) ((E : Int) - 25)
        rw [half_num s ((1024 + F) * 2 ^ 13) ((E : Int) - 25 - (13 : Nat)) (NR s (1024 + F) ((E : Int) - 25)) (by unfold NR; omega) (by unfold NR; omega) hr (by rw [e13]; omega) (by rw [e13]; omega) (by omega) (by omega) k (by omega), halfV_scale _ _ _ _ (by omega), halfV_norm s (1024 + F) _ (by omega) (by omega) (by omega) (by omega)]
        congr 1
        omega
end Go.Proofs.YteecekhfpfnepaaDoor.Sg
