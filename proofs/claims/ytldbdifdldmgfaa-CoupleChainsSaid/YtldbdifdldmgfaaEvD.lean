/- Draw and Stretch, as lists. -/
import Derived.Test.YtldbdifdldmgfaaEvC
import Derived.Test.YtldbdifdldmgfaaHDraw
import Derived.Test.YtldbdifdldmgfaaPAllx14
namespace Go.Proofs.Ytldbdifdldmgfaa.Math
open Go.RowKit Go.Proofs.Ytldbdifdldmgfaa.PAll Go.Proofs.YtldbdifdldmgfaaW.PrintWords Go.Proofs.YtldbdifdldmgfaaW.PrintLast Go.Proofs.YtldbdifdldmgfaaW.PrintMore
set_option linter.unusedVariables false
set_option linter.unusedSimpArgs false

def drawV (l : List Int) (u : Int) : Int × Int := if IsWts l then (if u < 0 ∨ u ≥ l.sum then (0, 241) else ((findL l 0 u).1, 0)) else (0, 240)
theorem cdraw_some (l : List Int) (u : Int) (k : Nat) (hk : 600 < k) : couple_Draw.f k l u = some (drawV l u) := by
  unfold couple_Draw.f drawV
  rw [check_some l k hk]
  simp only [Option.bind_some]
  by_cases g : IsWts l
  · simp only [if_pos g, if_true]
    split <;> rfl
  · simp only [if_neg g]
    rfl
theorem rdraw_some (l : List Int) (u : Int) (k : Nat) (hk : 600 < k) : heraldref24_Draw.f k l u = some (drawV l u) := by
  unfold heraldref24_Draw.f drawV
  rw [sum_some l k hk]
  simp only [Option.bind_some]
  by_cases g : IsWts l
  · have hs := good_sum g
    simp only [if_pos g]
    rw [if_neg (by omega)]
    by_cases c : u < 0
    · rw [if_pos c, if_pos (Or.inl c)]
    · rw [if_neg c]
      by_cases c2 : u ≥ l.sum
      · rw [if_pos c2, if_pos (Or.inr c2)]
      · rw [if_neg c2, if_neg (by omega), place_some l (good_nn g) hs.2 g.len2 u (by omega) (by omega) k hk]
        rfl
  · simp only [if_neg g, if_true]

theorem take_rd (l : List Int) (x i : Nat) (h : i < x) (hx : x ≤ l.length) : rd (l.take x) (i : Int) = rd l (i : Int) := by
  rw [rd_at _ _ (by simp; omega), rd_at _ _ (by omega)]
  simp
def strV (l : List Int) (x : Int) : Int × Int × Int := if IsWts l then (if x < 0 ∨ x ≥ (l.length : Int) then (0, 0, 1) else (pre l x.toNat, pre l x.toNat + rd l x, 0)) else (0, 0, 240)
section
variable {l : List Int} (h : IsWts l)
include h
theorem cstr_loop (x : Nat) (hx : x < l.length) : ∀ (n i : Nat) (k : Nat), n = x - i → i ≤ x → n < k →
    couple_Stretch.l0 k l (x : Int) (pre l i) (l.take x) (x : Int) (i : Int) = some (pre l x, pre l x + rd l (x : Int), 0) := by
  have h2 := h.len2
  have hs := good_sum h
  intro n
  induction n with
  | zero =>
    intro i k hn hi hk
    obtain ⟨k, rfl⟩ : ∃ m, k = m + 1 := ⟨k - 1, by omega⟩
    obtain rfl : i = x := by omega
    have a1 := pre_succ l i hx
    have a2 := pre_le_sum l (good_nn h) (i + 1) (by omega)
    have a3 := pre_nonneg l (good_nn h) i (by omega)
    have a4 := good_rd h i hx
    simp only [couple_Stretch.l0]
    rw [if_neg (by omega), if_pos (by omega), if_pos (by omega), wrap_in (by omega) (by omega)]
  | succ n ih =>
    intro i k hn hi hk
    obtain ⟨k, rfl⟩ : ∃ m, k = m + 1 := ⟨k - 1, by omega⟩
    have a1 := pre_succ l i (by omega)
    have a2 := pre_le_sum l (good_nn h) (i + 1) (by omega)
    have a3 := pre_nonneg l (good_nn h) (i + 1) (by omega)
    have hlen : (l.take x).length = x := by simp; omega
    simp only [couple_Stretch.l0]
    rw [if_pos (by omega), if_pos (by omega), if_pos (by omega), take_rd l x i (by omega) (by omega), ← a1, wrap_in (by omega) (by omega), wrap_in (by omega) (by omega)]
    exact ih (i + 1) k (by omega) (by omega) (by omega)
theorem rstr_loop (x : Nat) (hx : x < l.length) : ∀ (n i : Nat) (k : Nat), n = x - i → i ≤ x → n < k →
    heraldref24_Stretch.l0 k l (x : Int) (pre l i) (l.take x) (x : Int) (i : Int) = some (pre l x, pre l x + rd l (x : Int), 0) := by
  have h2 := h.len2
  have hs := good_sum h
  intro n
  induction n with
  | zero =>
    intro i k hn hi hk
    obtain ⟨k, rfl⟩ : ∃ m, k = m + 1 := ⟨k - 1, by omega⟩
    obtain rfl : i = x := by omega
    have a1 := pre_succ l i hx
    have a2 := pre_le_sum l (good_nn h) (i + 1) (by omega)
    have a3 := pre_nonneg l (good_nn h) i (by omega)
    have a4 := good_rd h i hx
    simp only [heraldref24_Stretch.l0]
    rw [if_neg (by omega), if_pos (by omega), if_pos (by omega), wrap_in (by omega) (by omega)]
  | succ n ih =>
    intro i k hn hi hk
    obtain ⟨k, rfl⟩ : ∃ m, k = m + 1 := ⟨k - 1, by omega⟩
    have a1 := pre_succ l i (by omega)
    have a2 := pre_le_sum l (good_nn h) (i + 1) (by omega)
    have a3 := pre_nonneg l (good_nn h) (i + 1) (by omega)
    have hlen : (l.take x).length = x := by simp; omega
    simp only [heraldref24_Stretch.l0]
    rw [if_pos (by omega), if_pos (by omega), if_pos (by omega), take_rd l x i (by omega) (by omega), ← a1, wrap_in (by omega) (by omega), wrap_in (by omega) (by omega)]
    exact ih (i + 1) k (by omega) (by omega) (by omega)
end
theorem cstr_some (l : List Int) (x : Int) (k : Nat) (hk : 600 < k) : couple_Stretch.f (k + 1) l x = some (strV l x) := by
  unfold couple_Stretch.f strV
  rw [check_some l _ (by omega)]
  simp only [Option.bind_some]
  by_cases g : IsWts l
  · simp only [if_pos g, if_true, couple_Stretch.j0]
    by_cases c : x < 0
    · simp only [if_pos c, if_pos (Or.inl c : x < 0 ∨ x ≥ (l.length : Int)), if_true]
    · rw [if_neg c]
      by_cases c2 : x ≥ (l.length : Int)
      · rw [if_pos (by simpa using c2), if_pos (Or.inr c2)]
      · obtain ⟨n, rfl⟩ := Int.eq_ofNat_of_zero_le (show 0 ≤ x by omega)
        have hlen : (l.take n).length = n := by simp; omega
        rw [if_neg (by simpa using c2), if_pos (by omega), if_pos (by omega), if_neg (show ¬ ((n : Int) < 0 ∨ (n : Int) ≥ (l.length : Int)) by omega), Int.toNat_natCast, hlen]
        have := cstr_loop g n (by omega) n 0 k (by omega) (by omega) (by have := g.len2; omega)
        rwa [pre_zero] at this
  · simp only [if_neg g]
    rfl
theorem rstr_some (l : List Int) (x : Int) (k : Nat) (hk : 600 < k) : heraldref24_Stretch.f (k + 1) l x = some (strV l x) := by
  unfold heraldref24_Stretch.f strV
  rw [sum_some l _ (by omega)]
  simp only [Option.bind_some]
  by_cases g : IsWts l
  · have hs := good_sum g
    simp only [if_pos g, heraldref24_Stretch.j0]
    rw [if_neg (by omega)]
    by_cases c : x < 0
    · simp only [if_pos c, if_pos (Or.inl c : x < 0 ∨ x ≥ (l.length : Int)), if_true]
    · rw [if_neg c]
      by_cases c2 : x ≥ (l.length : Int)
      · rw [if_pos (by simpa using c2), if_pos (Or.inr c2)]
      · obtain ⟨n, rfl⟩ := Int.eq_ofNat_of_zero_le (show 0 ≤ x by omega)
        have hlen : (l.take n).length = n := by simp; omega
        rw [if_neg (by simpa using c2), if_pos (by omega), if_pos (by omega), if_neg (show ¬ ((n : Int) < 0 ∨ (n : Int) ≥ (l.length : Int)) by omega), Int.toNat_natCast, hlen]
        have := rstr_loop g n (by omega) n 0 k (by omega) (by omega) (by have := g.len2; omega)
        rwa [pre_zero] at this
  · simp only [if_neg g, if_true]
end Go.Proofs.Ytldbdifdldmgfaa.Math
