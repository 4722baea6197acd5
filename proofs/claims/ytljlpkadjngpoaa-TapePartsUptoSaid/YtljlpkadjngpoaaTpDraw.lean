/- By hand: a draw of a tape. -/
import Derived.Test.YtljlpkadjngpoaaTp
import Derived.Laws.BitsAllLaws
namespace Go.Proofs.Ytljlpkadjngpoaa.PAll
open Go.RowKit Go.Proofs.YtljlpkadjngpoaaW.PrintWords Go.Proofs.YtljlpkadjngpoaaW.PrintLast Go.Proofs.YtljlpkadjngpoaaW.PrintMore
set_option linter.unusedVariables false
set_option linter.unusedSimpArgs false

theorem ofInt_i64 (a : Nat) (ha : a < 9223372036854775808) : (BitVec.ofInt 64 (a : Int)).toNat = a := by
  rw [BitVec.ofInt_natCast, BitVec.toNat_ofNat]; exact Nat.mod_eq_of_lt (by omega)
theorem i64_and_nat (a b : Nat) (ha : a < 9223372036854775808) (hb : b < 9223372036854775808) : bits .and .i64 (a : Int) (b : Int) = ((a &&& b : Nat) : Int) := by
  have hx : a &&& b < 2 ^ 63 := Nat.and_lt_two_pow _ (by omega)
  show IntKind.i64.wrap ((BitVec.ofInt 64 (a : Int) &&& BitVec.ofInt 64 (b : Int)).toNat : Int) = _
  rw [BitVec.toNat_and, ofInt_i64 a ha, ofInt_i64 b hb, IntKind.wrap_i64]
  omega
theorem i64_or_nat (a b : Nat) (ha : a < 9223372036854775808) (hb : b < 9223372036854775808) : bits .or .i64 (a : Int) (b : Int) = ((a ||| b : Nat) : Int) := by
  have hx : a ||| b < 2 ^ 63 := Nat.or_lt_two_pow (by omega) (by omega)
  show IntKind.i64.wrap ((BitVec.ofInt 64 (a : Int) ||| BitVec.ofInt 64 (b : Int)).toNat : Int) = _
  rw [BitVec.toNat_or, ofInt_i64 a ha, ofInt_i64 b hb, IntKind.wrap_i64]
  omega
theorem and_mask (x : Int) (n : Nat) (hn : n < 63) (h0 : 0 ≤ x) (h1 : x < 9223372036854775808) : bits .and .i64 x ((2 : Int) ^ n - 1) = x % 2 ^ n := by
  obtain ⟨a, rfl⟩ := Int.eq_ofNat_of_zero_le h0
  have hp : (2 : Nat) ^ n < 2 ^ 63 := Nat.pow_lt_pow_right (by omega) hn
  have hp1 : 1 ≤ (2 : Nat) ^ n := Nat.one_le_two_pow
  have e : ((2 : Int) ^ n - 1) = ((2 ^ n - 1 : Nat) : Int) := by push_cast [hp1]; rfl
  rw [e, i64_and_nat a _ (by omega) (by omega), Nat.and_two_pow_sub_one_eq_mod]
  push_cast
  rfl

theorem setCell_drewN (w : World) (a : Addr) (v : Value) (n : Nat) : (w.drewN n).setCell a v = (w.setCell a v).drewN n := by
  simp [World.setCell, World.drewN]

/-- A draw of fewer than 8 bits: by its byte and its place there. -/
def lowV (n : Nat) (s : ByteArray) (at_ : Int) : Int := bt s (at_ / 8) / 2 ^ (8 - n - at_ % 8).toNat % 2 ^ n
theorem lowV_bits (n : Nat) (s : ByteArray) (at_ : Int) (hn : n < 63) : bits .and .i64 (wrap64 (bt s (at_ / 8)) / 2 ^ (8 - n - at_ % 8).toNat) ((2 : Int) ^ n - 1) = lowV n s at_ := by
  obtain ⟨b0, b1⟩ := bt_range s (at_ / 8)
  rw [show wrap64 (bt s (at_ / 8)) = bt s (at_ / 8) from by unfold wrap64; omega]
  have h1 : 0 ≤ bt s (at_ / 8) / 2 ^ (8 - n - at_ % 8).toNat := Int.ediv_nonneg b0 (Int.pow_nonneg (by omega))
  have h2 : bt s (at_ / 8) / 2 ^ (8 - n - at_ % 8).toNat ≤ bt s (at_ / 8) := Int.ediv_le_self _ b0
  rw [and_mask _ n hn h1 (by omega)]
  rfl

set_option maxHeartbeats 1600000 in
theorem draw_low (g : Nat) (n : Nat) (used all : Int) (s : ByteArray) (w : World) (hb : n = 1 ∨ n = 2 ∨ n = 4) (h : IsTape w g (n : Int) used all s) (h0 : 0 ≤ used) (h1 : used < all) (h2 : all ≤ 9223372036854775800) (h3 : used * n ≤ 9223372036854775800)
    (h4 : used * n / 8 < (s.size : Int)) :
    Calls Try.prog 16 #[.pointer (some ⟨g, 0, none⟩)] w fun e w' => e = .returned (.tuple #[.int .i64 (lowV n s (used * n)), .int .i64 0]) ∧ Drawn0 (w.setCell ⟨g, 1, none⟩ (.int .i64 (used + 1))) w' := by
  have hl : ∀ W, Drawn0 w W → Calls Try.prog 15 #[.pointer (some ⟨g, 0, none⟩)] W fun e w' => e = .returned (.int .i64 (all - used)) ∧ Drawn0 W w' := by
    rintro W ⟨⟨m, rfl⟩⟩
    have := left_calls g n used all s _ (h.drewN m)
    rwa [show wrap64 (all - used) = all - used from by unfold wrap64; omega] at this
  have HL := Aside0.mk hl
  have hne : (all - used == 0) = false := beq_eq_false_iff_ne.mpr (by omega)
  have c0 := h.c0
  have c1 := h.c1
  have c3 := h.c3
  have f1 := h.fz 1
  have hat : 0 ≤ used * n := Int.mul_nonneg h0 (by omega)
  have HV := Aside0.mk (lowV_bits n s (used * n) (by omega))
  clear hl h
  rcases hb with rfl | rfl | rfl
  · simp only [Int.mul_one, Int.natCast_one] at h3 h4 hat HV c0 ⊢
    have hx := bt_at s (used / 8)
    go_enter Try.func16, Try.ntmps16
    go_wp2_with (go_at_call 15; refine (HL.out _ ⟨0, rfl⟩).mono ?_; rintro e w' ⟨rfl, ⟨nd, rfl⟩⟩)
    go_quiet (fail)
    go_wp2
    go_quiet (fail)
    go_wp2
    go_ret2
    refine ⟨?_, by rw [setCell_drewN, World.drewN_drewN]; exact ⟨⟨_, rfl⟩⟩⟩
    rw [← HV.out]
    rfl
  · have hx := bt_at s (used * 2 / 8)
    rw [show ((2 : Nat) : Int) = 2 from rfl] at *
    go_enter Try.func16, Try.ntmps16
    go_wp2_with (go_at_call 15; refine (HL.out _ ⟨0, rfl⟩).mono ?_; rintro e w' ⟨rfl, ⟨nd, rfl⟩⟩)
    go_quiet (fail)
    go_wp2
    go_quiet (fail)
    go_wp2
    go_ret2
    refine ⟨?_, by rw [setCell_drewN, World.drewN_drewN]; exact ⟨⟨_, rfl⟩⟩⟩
    rw [← HV.out]
    rfl
  · have hx := bt_at s (used * 4 / 8)
    rw [show ((4 : Nat) : Int) = 4 from rfl] at *
    go_enter Try.func16, Try.ntmps16
    go_wp2_with (go_at_call 15; refine (HL.out _ ⟨0, rfl⟩).mono ?_; rintro e w' ⟨rfl, ⟨nd, rfl⟩⟩)
    go_quiet (fail)
    go_wp2
    go_quiet (fail)
    go_wp2
    go_ret2
    refine ⟨?_, by rw [setCell_drewN, World.drewN_drewN]; exact ⟨⟨_, rfl⟩⟩⟩
    rw [← HV.out]
    rfl
end Go.Proofs.Ytljlpkadjngpoaa.PAll
