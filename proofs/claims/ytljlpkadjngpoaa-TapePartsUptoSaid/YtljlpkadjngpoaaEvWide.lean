/- Plain: all draws, parts and wider draws: the same on both sides. -/
import Derived.Test.YtljlpkadjngpoaaEvMade2
import Derived.Test.YtljlpkadjngpoaaEvFill
import Derived.Test.YtljlpkadjngpoaaTpDraws
import Derived.Test.YtljlpkadjngpoaaPAllx10
namespace Go.Proofs.Ytljlpkadjngpoaa.Math
open Go.RowKit Go.Proofs.Ytljlpkadjngpoaa.PAll Go.Proofs.YtljlpkadjngpoaaW.PrintWords Go.Proofs.YtljlpkadjngpoaaW.PrintLast Go.Proofs.YtljlpkadjngpoaaW.PrintMore
set_option linter.unusedVariables false
set_option linter.unusedSimpArgs false

theorem drawsV_rd (b : Int) (s : ByteArray) (o n i : Nat) (h : i < n) : rd (drawsV b s o n) (i : Int) = drawV b s ((o + i : Nat) : Int) := by
  simp [rd, drawsV, List.getD_eq_getElem?_getD, h]
theorem drawsV_cut (b : Int) (s : ByteArray) (n f d : Nat) (h : f + d ≤ n) : ((drawsV b s 0 n).take (f + d)).drop f = drawsV b s f d := by
  apply List.ext_getElem
  · simp [drawsV]; omega
  · intro i h1 h2
    simp [drawsV]
theorem refAll_loop (b : Int) (s : ByteArray) (n : Nat) (hb : IsBits b) (hn : 8 * (s.size : Int) / b = (n : Int)) (hs : s.size ≤ 1048576) (hn1 : n ≤ 8388608) : ∀ (e i k : Nat), i + e = n → e + 70 ≤ k →
    heraldref23_All.l0 k b s (n : Int) 0 (drawsV b s 0 i) (i : Int) = some (drawsV b s 0 n, 0) := by
  intro e
  induction e with
  | zero =>
    intro i k he hk
    obtain ⟨k, rfl⟩ : ∃ m, k = m + 1 := ⟨k - 1, by omega⟩
    obtain rfl : i = n := by omega
    simp only [heraldref23_All.l0]
    rw [if_neg (by omega)]
  | succ e ih =>
    intro i k he hk
    obtain ⟨k, rfl⟩ : ∃ m, k = m + 1 := ⟨k - 1, by omega⟩
    have hfit := draw_fits (i := (i : Int)) hb (by omega) (by rw [hn]; omega)
    simp only [heraldref23_All.l0]
    rw [if_pos (by omega), at_some b s (i : Int) hb (by omega) hfit (by omega) k (by omega)]
    simp only [Option.bind_some]
    have hl := drawsV_len b s 0 i
    rw [if_pos (by omega), wrap_in (by omega) (by omega)]
    have hD := drawsV_succ b s 0 i
    rw [Nat.zero_add] at hD
    rw [← hD]
    exact ih (i + 1) k (by omega) (by omega)
theorem refAll_yes (b : Int) (s : ByteArray) (n : Nat) (hb : IsBits b) (hn : 8 * (s.size : Int) / b = (n : Int)) (hs : s.size ≤ 1048576) (hn1 : n ≤ 8388608) (k : Nat) (hk : 8388700 ≤ k) : heraldref23_All.f k b s = some (drawsV b s 0 n, 0) := by
  unfold heraldref23_All.f
  rw [refDraws_yes b (s.size : Int) hb (by omega) (by omega), hn]
  exact refAll_loop b s n hb hn hs hn1 n 0 k (by omega) (by omega)
theorem refAll_no (b : Int) (s : ByteArray) (hb : ¬ IsBits b) (k : Nat) (hk : 1 ≤ k) : heraldref23_All.f k b s = some ([], 230) := by
  obtain ⟨k, rfl⟩ : ∃ m, k = m + 1 := ⟨k - 1, by omega⟩
  unfold heraldref23_All.f
  rw [refDraws_no b (s.size : Int) hb]
  simp only [Option.bind_some, heraldref23_All.l0]
  rw [if_neg (by omega)]
theorem tapeAll_yes (b : Int) (s : ByteArray) (n : Nat) (hb : IsBits b) (hn : 8 * (s.size : Int) / b = (n : Int)) (hs : s.size ≤ 1048576) (k : Nat) : tape_All.f k b s = some (drawsV b s 0 n, 0) := by
  unfold tape_All.f
  rw [if_pos hb, if_pos hs, hn, Int.toNat_natCast]
theorem tapeAll_no (b : Int) (s : ByteArray) (hb : ¬ IsBits b) (k : Nat) : tape_All.f k b s = some ([], 230) := by
  unfold tape_All.f
  rw [if_neg hb]
theorem make_both (b : Int) (l : List Int) (hb : IsBits b) (hl : l.length ≤ 8388608) (hx : ∀ x ∈ l, x ≤ 9223372036854775807) (k : Nat) (hk : 3400000000 ≤ k) : ∃ r, tape_Make.f k b l = some r ∧ heraldref23_Make.f k b l = some r := by
  obtain ⟨r, hr1, hm⟩ := make_some b l hb hl k (by omega)
  obtain ⟨r', hr2, hm'⟩ := refMake_some b l hb hl hx k (by omega)
  obtain rfl := hm.same hm'
  exact ⟨r, hr1, hr2⟩
theorem drawV_in (b : Int) (s : ByteArray) (i : Int) (hb : IsBits b) : 0 ≤ drawV b s i ∧ drawV b s i < 2 ^ b.toNat := by
  unfold drawV
  by_cases h : b < 8
  · rw [if_pos h]
    unfold lowV
    exact ⟨Int.emod_nonneg _ (by have := pow_pos' b.toNat; omega), Int.emod_lt_of_pos _ (pow_pos' _)⟩
  · rw [if_neg h]
    have := highV_range s (i * (b / 8)) (b / 8).toNat
    have e : (256 : Int) ^ (b / 8).toNat = 2 ^ b.toNat := by
      unfold IsBits at hb
      rcases hb with rfl | rfl | rfl | rfl | rfl | rfl <;> first | omega | decide
    rw [e] at this
    exact this
theorem drawsV_le (b : Int) (s : ByteArray) (o n : Nat) (hb : IsBits b) : ∀ x ∈ drawsV b s o n, x ≤ 9223372036854775807 := by
  intro x hx
  simp only [drawsV, List.mem_map] at hx
  obtain ⟨i, _, rfl⟩ := hx
  have h1 := drawV_in b s ((o + i : Nat) : Int) hb
  have h2 := pow_b b hb
  omega
theorem part_both (b : Int) (s : ByteArray) (f d : Int) (hs : s.size ≤ 1048576) (hf : -9223372036854775808 ≤ f ∧ f ≤ 9223372036854775807) (hd : -9223372036854775808 ≤ d ∧ d ≤ 9223372036854775807) (k : Nat) (hk : 3400000000 ≤ k) :
    ∃ r, tape_Part.f k b s f d = some r ∧ heraldref23_Part.f k b s f d = some r := by
  unfold tape_Part.f heraldref23_Part.f
  by_cases hb : IsBits b
  · obtain ⟨n, hn1, hn, hn2⟩ := all_count b s hb hs
    rw [if_pos hb, if_pos hs, hn, refAll_yes b s n hb hn hs hn1 k (by omega)]
    simp only [Option.bind_some, if_true]
    have hl := drawsV_len b s 0 n
    by_cases hp : partBad (n : Int) f d = true
    · rw [if_pos hp]
      refine ⟨_, rfl, ?_⟩
      unfold partBad at hp
      simp only [Bool.or_eq_true, decide_eq_true_eq] at hp
      by_cases h1 : f < 0
      · rw [if_pos h1]
      · rw [if_neg h1]
        by_cases h2 : d < 0
        · rw [if_pos h2]
        · rw [if_neg h2]
          by_cases h3 : f > (n : Int)
          · rw [if_pos (by omega)]
          · rw [if_neg (by omega), wrap_in (a := ((drawsV b s 0 n).length : Int) - f) (by omega) (by omega), if_pos (by omega)]
    · rw [if_neg hp]
      unfold partBad at hp
      simp only [Bool.or_eq_true, decide_eq_true_eq] at hp
      obtain ⟨f, rfl⟩ := Int.eq_ofNat_of_zero_le (show 0 ≤ f by omega)
      obtain ⟨d, rfl⟩ := Int.eq_ofNat_of_zero_le (show 0 ≤ d by omega)
      rw [if_neg (by omega), if_neg (by omega), if_neg (by omega), wrap_in (a := ((drawsV b s 0 n).length : Int) - (f : Int)) (by omega) (by omega), if_neg (by omega), if_pos (by omega), wrap_in (a := (f : Int) + (d : Int)) (by omega) (by omega), if_pos (by omega), if_pos (by omega)]
      rw [show ((f : Int) + (d : Int)).toNat = f + d by omega, Int.toNat_natCast, Int.toNat_natCast, drawsV_cut b s n f d (by omega)]
      obtain ⟨r, h1, h2⟩ := make_both b (drawsV b s f d) hb (by rw [drawsV_len]; omega) (drawsV_le b s f d hb) k hk
      exact ⟨r, h1, by rw [h2]; rfl⟩
  · rw [if_neg hb, refAll_no b s hb k (by omega)]
    exact ⟨_, rfl, rfl⟩
end Go.Proofs.Ytljlpkadjngpoaa.Math
