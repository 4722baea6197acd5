/- By hand: bits.TrailingZeros, where the package's table lies as it was laid. -/
import Derived.Test.YteecekhfpfnepaaDoorPAllx0
namespace Go.Proofs.YteecekhfpfnepaaDoor.PAll
open Go.RowKit Go.Proofs.YteecekhfpfnepaaDoorW.PrintWords Go.Proofs.YteecekhfpfnepaaDoorW.PrintLast Go.Proofs.YteecekhfpfnepaaDoorW.PrintMore
set_option linter.unusedVariables false
set_option linter.unusedSimpArgs false

def tabL : List Int := [0, 1, 56, 2, 57, 49, 28, 3, 61, 58, 42, 50, 38, 29, 17, 4, 62, 47, 59, 36, 45, 43, 51, 22, 53, 39, 33, 30, 24, 18, 12, 5, 63, 55, 48, 27, 60, 41, 37, 16, 46, 35, 44, 21, 52, 32, 23, 11, 54, 26, 40, 15, 34, 20, 31, 10, 25, 14, 19, 9, 13, 8, 7, 6]
/-- The package's table lies in its variable. -/
def Tab (w : World) : Prop := ∀ i : Nat, i < 64 → w.cell? ⟨1, i, none⟩ = some (.int .u8 (tabL.getD i 0))
theorem tab_drewN {w : World} (h : Tab w) (n : Nat) : Tab (w.drewN n) := h
theorem tab_below {w w' : World} (h : Tab w) (hb : Below w.heap.size w w') : Tab w' := fun i hi => (hb.cell (World.block_lt_of_cell? w _ (h i hi))).trans (h i hi)

/-- How many binary noughts a number ends with. -/
def tzf : Nat → Nat → Nat
  | 0, _ => 0
  | f + 1, x => if x % 2 = 1 then 0 else tzf f (x / 2) + 1
def tz (x : Nat) : Nat := tzf 64 x
theorem tzf_spec : ∀ (f x : Nat), x ≠ 0 → x < 2 ^ f → ∃ k, x = 2 ^ tzf f x * (2 * k + 1) := by
  intro f
  induction f with
  | zero => intro x h0 h1; rw [Nat.pow_zero] at h1; omega
  | succ f ih =>
    intro x h0 h1
    unfold tzf
    by_cases c : x % 2 = 1
    · rw [if_pos c]
      exact ⟨x / 2, by rw [Nat.pow_zero]; omega⟩
    · rw [if_neg c]
      obtain ⟨k, hk⟩ := ih (x / 2) (by omega) (by rw [Nat.pow_succ] at h1; omega)
      refine ⟨k, ?_⟩
      rw [Nat.pow_succ, Nat.mul_comm (2 ^ _) 2, Nat.mul_assoc, ← hk]
      omega
theorem tz_spec (x : Nat) (h0 : x ≠ 0) (h1 : x < 18446744073709551616) : ∃ k, x = 2 ^ tz x * (2 * k + 1) := tzf_spec 64 x h0 h1
theorem tz_lt (x : Nat) (h0 : x ≠ 0) (h1 : x < 18446744073709551616) : tz x < 64 := by
  obtain ⟨k, hk⟩ := tz_spec x h0 h1
  have h2 : 2 ^ tz x ≤ x := by
    have : 2 ^ tz x * 1 ≤ 2 ^ tz x * (2 * k + 1) := Nat.mul_le_mul_left _ (by omega)
    omega
  have h3 : 2 ^ tz x < 2 ^ 64 := by
    have e : 2 ^ 64 = 18446744073709551616 := by decide
    omega
  exact (Nat.pow_lt_pow_iff_right (by omega)).1 h3
theorem and_odd (n k : Nat) (hk : 2 * k + 1 < 2 ^ n) : (2 * k + 1) &&& (2 ^ n - (2 * k + 1)) = 1 := by
  apply Nat.eq_of_testBit_eq
  intro i
  rw [Nat.testBit_and, Nat.testBit_two_pow_sub_succ (by omega)]
  have hn : 0 < n := by
    rcases Nat.eq_zero_or_pos n with h | h
    · subst h; rw [Nat.pow_zero] at hk; omega
    · exact h
  cases i with
  | zero =>
    have e1 : (2 * k + 1).testBit 0 = true := by rw [Nat.testBit_zero]; simp
    have e2 : (2 * k).testBit 0 = false := by rw [Nat.testBit_zero]; simp
    rw [e1, e2, decide_eq_true hn]; rfl
  | succ i =>
    have e1 : (2 * k + 1).testBit (i + 1) = k.testBit i := by rw [Nat.testBit_succ]; congr 1; omega
    have e2 : (2 * k).testBit (i + 1) = k.testBit i := by rw [Nat.testBit_succ]; congr 1; omega
    have e3 : (1 : Nat).testBit (i + 1) = false := by rw [Nat.testBit_succ]; simp
    rw [e1, e2, e3]
    cases k.testBit i <;> simp
theorem low_bit (x : Nat) (h0 : x ≠ 0) (h1 : x < 18446744073709551616) : x &&& (18446744073709551616 - x) = 2 ^ tz x := by
  obtain ⟨k, hk⟩ := tz_spec x h0 h1
  have ht := tz_lt x h0 h1
  obtain ⟨t, ht'⟩ : ∃ t, tz x = t := ⟨_, rfl⟩
  rw [ht'] at hk ht ⊢
  have e : 18446744073709551616 = 2 ^ t * 2 ^ (64 - t) := by rw [← Nat.pow_add, show t + (64 - t) = 64 by omega]
  have hlt : 2 * k + 1 < 2 ^ (64 - t) := by
    rw [hk, e] at h1
    exact Nat.lt_of_mul_lt_mul_left h1
  rw [hk, e, ← Nat.mul_sub, Nat.mul_comm (2 ^ t) (2 * k + 1), Nat.mul_comm (2 ^ t) (_ - _), ← Nat.shiftLeft_eq, ← Nat.shiftLeft_eq, ← Nat.shiftLeft_and_distrib, and_odd _ k hlt, Nat.shiftLeft_eq, Nat.one_mul]
theorem tab_tz : ∀ t : Nat, t < 64 → tabL.getD (2 ^ t * 285870213051353865 % 18446744073709551616 / 288230376151711744) 0 = (t : Int) := by decide +kernel
def bits_TrailingZeros.f (a0 : Int) : Option Int := if 0 ≤ a0 ∧ a0 < 18446744073709551616 then (if a0 = 0 then some 64 else some (tz a0.toNat)) else none
theorem and_u64 (a c : Nat) (ha : a < 18446744073709551616) (hc : c < 18446744073709551616) : bits .and .u64 (a : Int) (c : Int) = ((a &&& c : Nat) : Int) := by
  show IntKind.u64.wrap ((BitVec.ofInt 64 (a : Int) &&& BitVec.ofInt 64 (c : Int)).toNat : Int) = _
  rw [BitVec.toNat_and, BitVec.ofInt_natCast, BitVec.ofInt_natCast, BitVec.toNat_ofNat, BitVec.toNat_ofNat, Nat.mod_eq_of_lt (by omega), Nat.mod_eq_of_lt (by omega)]
  have h : a &&& c ≤ a := Nat.and_le_left
  show ((a &&& c : Nat) : Int) % 18446744073709551616 = _
  omega
set_option maxRecDepth 20000 in
set_option maxHeartbeats 800000 in
theorem tz64_calls (a0 : Int) (h0 : 0 < a0) (h1 : a0 < 18446744073709551616) (w : World) (hT : Tab w) :
    Calls Tryd.prog 59 #[.int .u64 a0] w fun e w' => e = .returned (.int .i64 (tz a0.toNat : Int)) ∧ w' = w := by
  obtain ⟨x, rfl⟩ := Int.eq_ofNat_of_zero_le (show 0 ≤ a0 by omega)
  rw [Int.toNat_natCast]
  have hx0 : x ≠ 0 := by omega
  have ht := tz_lt x hx0 (by omega)
  have hneg : IntKind.u64.wrap (-(x : Int)) = ((18446744073709551616 - x : Nat) : Int) := by
    show (-(x : Int)) % 18446744073709551616 = _
    omega
  have hand := and_u64 x (18446744073709551616 - x) (by omega) (by omega)
  rw [low_bit x hx0 (by omega), ← hneg] at hand
  have htab := tab_tz (tz x) ht
  obtain ⟨q, hq⟩ : ∃ q : Nat, 2 ^ tz x * 285870213051353865 % 18446744073709551616 / 288230376151711744 = q := ⟨_, rfl⟩
  have hq64 : q < 64 := by omega
  have hcell := hT q hq64
  rw [hq] at htab
  rw [htab] at hcell
  obtain ⟨p, hp⟩ : ∃ p : Nat, 2 ^ tz x = p := ⟨_, rfl⟩
  rw [hp] at hand hq
  have hidx : IntKind.u64.wrap ((p : Int) * 285870213051353865) / 288230376151711744 = (q : Int) := by
    show ((p : Int) * 285870213051353865) % 18446744073709551616 / 288230376151711744 = _
    rw [← hq, Int.natCast_ediv, Int.natCast_emod, Int.natCast_mul]; rfl
  obtain ⟨t, htt⟩ : ∃ t, tz x = t := ⟨_, rfl⟩
  rw [htt] at hcell ht ⊢
  have ne0 : ((x : Int) == 0) = false := beq_eq_false_iff_ne.mpr (by omega)
  have q1 : (0 : Int) ≤ (q : Int) := by omega
  have q2 : (q : Int) < 64 := by omega
  have wt : wrap64 (t : Int) = (t : Int) := by unfold wrap64; omega
  clear hT htab hp hq htt hneg
  obtain ⟨nx, hnx⟩ : ∃ nx, IntKind.u64.wrap (-(x : Int)) = nx := ⟨_, rfl⟩
  rw [hnx] at hand
  obtain ⟨X, hX⟩ : ∃ X : Int, (x : Int) = X := ⟨_, rfl⟩
  rw [hX] at hand hnx ne0 ⊢
  obtain ⟨Q, hQ⟩ : ∃ Q : Int, (p : Int) = Q := ⟨_, rfl⟩
  rw [hQ] at hand hidx
  obtain ⟨M, hM⟩ : ∃ M : Int, IntKind.u64.wrap (Q * 285870213051353865) = M := ⟨_, rfl⟩
  rw [hM] at hidx
  clear hX hQ
  go_enter Tryd.func59, Tryd.ntmps59
  go_wp2
  go_ret
  exact ⟨rfl, rfl⟩
set_option maxHeartbeats 400000 in
theorem tz64_zero (w : World) : Calls Tryd.prog 59 #[.int .u64 0] w fun e w' => e = .returned (.int .i64 64) ∧ w' = w := by
  go_enter Tryd.func59, Tryd.ntmps59
  go_wp2
  go_ret
  exact ⟨rfl, rfl⟩
set_option maxHeartbeats 400000 in
theorem tz_stays (a0 : Int) (r : Int) (w : World) (h : bits_TrailingZeros.f a0 = some r) (hTab : Tab w) :
    Calls Tryd.prog 36 #[.int .u64 a0] w fun e w' => e = .returned (.int .i64 r) ∧ w' = w := by
  unfold bits_TrailingZeros.f at h
  split at h
  case isFalse => simp at h
  case isTrue hr =>
  have H : Calls Tryd.prog 59 #[.int .u64 a0] w fun e w' => e = .returned (.int .i64 r) ∧ w' = w := by
    by_cases c : a0 = 0
    · subst c
      rw [if_pos rfl] at h
      obtain rfl := Option.some.inj h
      exact tz64_zero w
    · rw [if_neg c] at h
      obtain rfl := Option.some.inj h
      exact tz64_calls a0 (by omega) hr.2 w hTab
  have HC := Aside0.mk H
  clear h H
  go_enter Tryd.func36, Tryd.ntmps36
  go_wp2_with (go_at_call 59; (with_reducible refine (HC.out).mono ?_); rintro e w' ⟨rfl, rfl⟩)
  go_ret
  exact ⟨rfl, rfl⟩
theorem bits_TrailingZeros.calls (a0 : Int) (r : Int) (w : World) (h : bits_TrailingZeros.f a0 = some r) (hTab : Tab w) :
    Calls Tryd.prog 36 #[.int .u64 a0] w fun e w' => e = .returned (.int .i64 r) ∧ Drawn0 w w' := by
  refine (tz_stays a0 r w h hTab).mono ?_
  rintro e w' ⟨rfl, rfl⟩
  exact ⟨rfl, Drawn0.refl _⟩
end Go.Proofs.YteecekhfpfnepaaDoor.PAll
