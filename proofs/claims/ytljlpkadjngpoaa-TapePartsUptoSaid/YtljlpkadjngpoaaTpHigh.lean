/- By hand: a draw of whole bytes. -/
import Derived.Test.YtljlpkadjngpoaaTpDraw
namespace Go.Proofs.Ytljlpkadjngpoaa.PAll
open Go.RowKit Go.Proofs.YtljlpkadjngpoaaW.PrintWords Go.Proofs.YtljlpkadjngpoaaW.PrintLast Go.Proofs.YtljlpkadjngpoaaW.PrintMore
set_option linter.unusedVariables false
set_option linter.unusedSimpArgs false

/-- The number of some bytes, the first one the greatest. -/
def highV (s : ByteArray) (p : Int) : Nat → Int
  | 0 => 0
  | i + 1 => highV s p i * 256 + bt s (p + i)
theorem highV_range (s : ByteArray) (p : Int) (i : Nat) : 0 ≤ highV s p i ∧ highV s p i < 256 ^ i := by
  induction i with
  | zero => exact ⟨Int.le_refl _, by rw [highV, Int.pow_zero]; omega⟩
  | succ i ih =>
    obtain ⟨h0, h1⟩ := ih
    obtain ⟨b0, b1⟩ := bt_range s (p + i)
    have e : (256 : Int) ^ (i + 1) = 256 ^ i * 256 := Int.pow_succ _ _
    rw [highV, e]
    generalize (256 : Int) ^ i = z at *
    omega
theorem or_byte (u b : Int) (h0 : 0 ≤ u) (h1 : u ≤ 36028797018963967) (b0 : 0 ≤ b) (b1 : b ≤ 255) : bits .or .i64 (u * 256) b = u * 256 + b := by
  obtain ⟨a, rfl⟩ := Int.eq_ofNat_of_zero_le h0
  obtain ⟨c, rfl⟩ := Int.eq_ofNat_of_zero_le b0
  have e := Nat.shiftLeft_add_eq_or_of_lt (i := 8) (b := c) (by omega) a
  rw [Nat.shiftLeft_eq] at e
  have e1 : (a : Int) * 256 = ((a * 256 : Nat) : Int) := by omega
  rw [e1, i64_or_nat _ _ (by omega) (by omega), ← e]
  omega

set_option maxHeartbeats 1600000 in
theorem draw_high (g : Nat) (m : Nat) (used all : Int) (s : ByteArray) (w : World) (hm : m = 1 ∨ m = 2 ∨ m = 4) (h : IsTape w g (8 * m : Int) used all s) (h0 : 0 ≤ used) (h1 : used < all) (h2 : all ≤ 9223372036854775800) (h3 : used * (8 * m) ≤ 9223372036854775800)
    (h4 : used * m + m ≤ (s.size : Int)) :
    Calls Try.prog 16 #[.pointer (some ⟨g, 0, none⟩)] w fun e w' => e = .returned (.tuple #[.int .i64 (highV s (used * m) m), .int .i64 0]) ∧ Drawn0 (w.setCell ⟨g, 1, none⟩ (.int .i64 (used + 1))) w' := by
  have hl : ∀ W, Drawn0 w W → Calls Try.prog 15 #[.pointer (some ⟨g, 0, none⟩)] W fun e w' => e = .returned (.int .i64 (all - used)) ∧ Drawn0 W w' := by
    rintro W ⟨⟨q, rfl⟩⟩
    have := left_calls g (8 * m) used all s _ (h.drewN q)
    rwa [show wrap64 (all - used) = all - used from by unfold wrap64; omega] at this
  have HL := Aside0.mk hl
  have hne : (all - used == 0) = false := beq_eq_false_iff_ne.mpr (by omega)
  have c0 := h.c0
  have c1 := h.c1
  have f1 := h.fz 1
  have H3 := Aside0.mk (h.set (used + 1)).c3
  have H4 := Aside0.mk h4
  have H0 := Aside0.mk (h.set (used + 1)).c0
  have hat : 0 ≤ used * (8 * m) := Int.mul_nonneg h0 (by omega)
  have hat8 : used * (8 * m) = 8 * (used * m) := by rw [← Int.mul_assoc, Int.mul_comm used 8, Int.mul_assoc]
  have HA := Aside0.mk hat8
  clear hl h
  obtain ⟨p, hp⟩ : ∃ p, used * (8 * (m : Int)) = p := ⟨_, rfl⟩
  rw [hp] at hat h3 hat8
  have HP := Aside0.mk hp
  clear hp HA
  obtain ⟨bb, hbb⟩ : ∃ bb : Int, 8 * (m : Int) = bb := ⟨_, rfl⟩
  rw [hbb] at HP c0 H0
  have hb1 : 8 ≤ bb := by omega
  have hb2 : bb ≤ 32 := by omega
  have hbd : bb / 8 = (m : Int) := by omega
  have hp8 : p / 8 = used * m := by omega
  have HB := Aside0.mk hbd
  have HP8 := Aside0.mk hp8
  clear hbb hbd hp8 hat8
  have hmul : used * bb = p := HP.out
  go_enter Try.func16, Try.ntmps16
  go_wp2_with (go_at_call 15; refine (HL.out _ ⟨0, rfl⟩).mono ?_; rintro e w' ⟨rfl, ⟨nd, rfl⟩⟩)
  go_quiet (fail)
  go_wp2
  go_loopw [5, 60] (fun v5 v60 w' => ∃ (j : Nat), j ≤ m ∧ v5 = .int .i64 (highV s (used * m) j) ∧ v60 = .int .i64 (j : Int) ∧ Drawn0 (w.setCell ⟨g, 1, none⟩ (.int .i64 (used + 1))) w') (fun _ v60 _ => m - (intOf v60).toNat)
  case atStart => exact ⟨0, Nat.zero_le _, rfl, rfl, by rw [setCell_drewN]; exact ⟨⟨_, rfl⟩⟩⟩
  case round =>
    obtain ⟨j, hj, rfl, rfl, hd⟩ := hrel
    obtain ⟨nw, rfl⟩ := hd.out
    clear hd
    by_cases hlt : j < m
    · obtain ⟨b0, b1⟩ := bt_range s (used * m + j)
      obtain ⟨u0, u1⟩ := highV_range s (used * m) j
      have hu : highV s (used * m) j ≤ 16777215 := by
        have : (256 : Int) ^ j ≤ 16777216 := by
          rcases (show j = 0 ∨ j = 1 ∨ j = 2 ∨ j = 3 by omega) with e | e | e | e <;> rw [e] <;> decide
        omega
      have HO := Aside0.mk (or_byte (highV s (used * m) j) (bt s (used * m + j)) u0 (by omega) b0 b1)
      have HN := Aside0.mk (show highV s (used * m) (j + 1) = highV s (used * m) j * 256 + bt s (used * m + j) from rfl)
      have hx := bt_at s (used * m + j)
      obtain ⟨u, hu_⟩ : ∃ u, highV s (used * m) j = u := ⟨_, rfl⟩
      rw [hu_] at HO HN u0 u1 hu ⊢
      obtain ⟨b, hb_⟩ : ∃ b, bt s (used * m + j) = b := ⟨_, rfl⟩
      rw [hb_] at HO HN b0 b1 hx
      clear hu_ hb_ u1
      have hlt2 : decide ((j : Int) < bb / 8) = true := by have := HB.out; simp; omega
      have h3' := H3.out
      have hp8 := HP8.out
      have hq0 : 0 ≤ used * m + j := by omega
      have hq1 : used * m + (j : Int) < (s.size : Int) := by have := H4.out; omega
      go_wp2
      go_roundw
      case rel =>
        refine ⟨j + 1, by omega, ?_, by first | rfl | go_num, by repeat (first | exact Drawn0.refl _ | apply Drawn0.step)⟩
        rw [HN.out, ← HO.out]
      case measure => simp [intOf]; omega
    · obtain rfl : j = m := by omega
      have hlt2 : decide ((j : Int) < bb / 8) = false := by have := HB.out; simp; omega
      go_wp2
      go_ret2
      refine ⟨rfl, by repeat (first | exact Drawn0.refl _ | apply Drawn0.step)⟩

def IsBits (b : Int) : Prop := b = 1 ∨ b = 2 ∨ b = 4 ∨ b = 8 ∨ b = 16 ∨ b = 32
instance (b : Int) : Decidable (IsBits b) := by unfold IsBits; exact inferInstance
/-- The draw at a place of a tape. -/
def drawV (b : Int) (s : ByteArray) (i : Int) : Int := if b < 8 then lowV b.toNat s (i * b) else highV s (i * (b / 8)) (b / 8).toNat
theorem draw_calls (g : Nat) (b used all : Int) (s : ByteArray) (w : World) (hb : IsBits b) (h : IsTape w g b used all s) (h0 : 0 ≤ used) (h1 : used < all) (ha : all = 8 * (s.size : Int) / b) (hs : (s.size : Int) ≤ 281474976710656) :
    Calls Try.prog 16 #[.pointer (some ⟨g, 0, none⟩)] w fun e w' => e = .returned (.tuple #[.int .i64 (drawV b s used), .int .i64 0]) ∧ Drawn0 (w.setCell ⟨g, 1, none⟩ (.int .i64 (used + 1))) w' := by
  have h0' := h0
  rcases hb with rfl | rfl | rfl | rfl | rfl | rfl
  · exact draw_low g 1 used all s w (.inl rfl) h h0 h1 (by omega) (by omega) (by omega)
  · exact draw_low g 2 used all s w (.inr (.inl rfl)) h h0 h1 (by omega) (by omega) (by omega)
  · exact draw_low g 4 used all s w (.inr (.inr rfl)) h h0 h1 (by omega) (by omega) (by omega)
  · exact draw_high g 1 used all s w (.inl rfl) h h0 h1 (by omega) (by omega) (by omega)
  · exact draw_high g 2 used all s w (.inr (.inl rfl)) h h0 h1 (by omega) (by omega) (by omega)
  · exact draw_high g 4 used all s w (.inr (.inr rfl)) h h0 h1 (by omega) (by omega) (by omega)
theorem isBits_some (b : Int) : tape_isBits.f b = some (decide (IsBits b)) := by
  unfold tape_isBits.f IsBits
  by_cases h1 : b = 1
  · simp [h1]
  by_cases h2 : b = 2
  · simp [h2]
  by_cases h3 : b = 4
  · simp [h3]
  by_cases h4 : b = 8
  · simp [h4]
  by_cases h5 : b = 16
  · simp [h5]
  by_cases h6 : b = 32
  · simp [h6]
  simp [h1, h2, h3, h4, h5, h6]
theorem may_some (b : Int) : heraldref23_May.f b = some (decide (IsBits b)) := by
  unfold heraldref23_May.f IsBits
  by_cases h1 : b = 1
  · simp [h1]
  by_cases h2 : b = 2
  · simp [h2]
  by_cases h3 : b = 4
  · simp [h3]
  by_cases h4 : b = 8
  · simp [h4]
  by_cases h5 : b = 16
  · simp [h5]
  simp only [h1, h2, h3, h4, h5, if_false, false_or]
  congr 1
theorem new_ok (b : Int) (s : ByteArray) (w : World) (hb : IsBits b) (hs : (s.size : Int) ≤ 281474976710656) : Calls Try.prog 11 #[.int .i64 b, .string s] w fun e w' =>
    ∃ n, e = .returned (.tuple #[.pointer (some ⟨w.heap.size, 0, none⟩), .int .i64 0]) ∧ w' = (w.alloc (.cells #[.int .i64 b, .int .i64 0, .int .i64 (8 * (s.size : Int) / b), .string s] 66)).drewN n := by
  refine (new_yes b s w (by rw [isBits_some, decide_eq_true hb]) (by unfold IsBits at hb; omega)).mono ?_
  rintro e w' ⟨n, he, hw⟩
  refine ⟨n, he, ?_⟩
  rw [hw]
  have e1 : wrap64 (8 * (s.size : Int)) = 8 * (s.size : Int) := by unfold wrap64; omega
  have e2 : wrap64 (Int.tdiv (8 * (s.size : Int)) b) = 8 * (s.size : Int) / b := by
    rw [Int.tdiv_eq_ediv_of_nonneg (by omega)]
    unfold wrap64
    rcases hb with rfl | rfl | rfl | rfl | rfl | rfl <;> omega
  rw [e1, e2]
theorem isTape_new (w : World) (b all : Int) (s : ByteArray) (n : Nat) : IsTape ((w.alloc (.cells #[.int .i64 b, .int .i64 0, .int .i64 all, .string s] 66)).drewN n) w.heap.size b 0 all s := heap_alloc_new w _
end Go.Proofs.Ytljlpkadjngpoaa.PAll
