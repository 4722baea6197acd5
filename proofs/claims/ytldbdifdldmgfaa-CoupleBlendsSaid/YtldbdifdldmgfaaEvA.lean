/- What the small functions of layer 24 come to. -/
import Derived.Test.YtldbdifdldmgfaaMath
import Derived.Test.YtldbdifdldmgfaaPAllx4
import Derived.Test.YtldbdifdldmgfaaPAllx3
namespace Go.Proofs.Ytldbdifdldmgfaa.Math
open Go.RowKit Go.Proofs.Ytldbdifdldmgfaa.PAll Go.Proofs.YtldbdifdldmgfaaW.PrintWords Go.Proofs.YtldbdifdldmgfaaW.PrintLast
set_option linter.unusedVariables false
set_option linter.unusedSimpArgs false

theorem fine_cons (x : Int) (l : List Int) : Fine (x :: l) ↔ (0 ≤ x ∧ x ≤ 4294967296) ∧ Fine l := by simp [Fine]

theorem sum_drop (l : List Int) (i : Nat) (h : i < l.length) : (l.drop i).sum = rd l (i : Int) + (l.drop (i + 1)).sum := by
  rw [drop_cons l i h]; simp

theorem isSum_tail {α : Type} (s : Int) (a b : α) : (if s = 2 then a else (if s = 4 then a else (if s = 16 then a else (if s = 256 then a else (if s = 65536 then a else (if s = 4294967296 then a else b)))))) = if isSum s then a else b := by
  by_cases h : isSum s
  · rw [if_pos h]
    unfold isSum at h
    by_cases h1 : s = 2
    · rw [if_pos h1]
    rw [if_neg h1]
    by_cases h2 : s = 4
    · rw [if_pos h2]
    rw [if_neg h2]
    by_cases h3 : s = 16
    · rw [if_pos h3]
    rw [if_neg h3]
    by_cases h4 : s = 256
    · rw [if_pos h4]
    rw [if_neg h4]
    by_cases h5 : s = 65536
    · rw [if_pos h5]
    rw [if_neg h5, if_pos (by omega)]
  · rw [if_neg h]
    unfold isSum at h
    rw [if_neg (by omega), if_neg (by omega), if_neg (by omega), if_neg (by omega), if_neg (by omega), if_neg (by omega)]

theorem check_loop (l : List Int) (hl : l.length ≤ 512) : ∀ (n i : Nat) (a : Int) (k : Nat), n = l.length - i → i ≤ l.length → 0 ≤ a → a ≤ i * 4294967296 → n < k →
    couple_Check.l0 k a l (l.length : Int) (i : Int) = some (if Fine (l.drop i) ∧ isSum (a + (l.drop i).sum) then (a + (l.drop i).sum, 0) else (0, 240)) := by
  intro n
  induction n with
  | zero =>
    intro i a k hn hi h0 h1 hk
    obtain ⟨k, rfl⟩ : ∃ m, k = m + 1 := ⟨k - 1, by omega⟩
    obtain rfl : i = l.length := by omega
    simp only [couple_Check.l0]
    rw [if_neg (by omega), isSum_tail (α := Option (Int × Int)) a (some (a, 0)) (some (0, 240))]
    simp only [List.drop_length, List.sum_nil, Int.add_zero]
    by_cases hs : isSum a
    · rw [if_pos hs, if_pos ⟨by simp [Fine], hs⟩]
    · rw [if_neg hs, if_neg (fun h => hs h.2)]
  | succ n ih =>
    intro i a k hn hi h0 h1 hk
    obtain ⟨k, rfl⟩ : ∃ m, k = m + 1 := ⟨k - 1, by omega⟩
    have hlt : i < l.length := by omega
    simp only [couple_Check.l0]
    rw [if_pos (by omega), if_pos (by omega), if_pos (by omega)]
    by_cases c1 : rd l (i : Int) < 0
    · rw [if_pos c1, if_neg]
      rintro ⟨hf, _⟩
      rw [drop_cons l i hlt, fine_cons] at hf
      omega
    · rw [if_neg c1]
      by_cases c2 : rd l (i : Int) > 4294967296
      · rw [if_pos c2, if_neg]
        rintro ⟨hf, _⟩
        rw [drop_cons l i hlt, fine_cons] at hf
        omega
      · rw [if_neg c2, wrap_in (by omega) (by omega), wrap_in (by omega) (by omega)]
        have := ih (i + 1) (a + rd l (i : Int)) k (by omega) (by omega) (by omega) (by push_cast; omega) (by omega)
        rw [show ((i + 1 : Nat) : Int) = (i : Int) + 1 from by push_cast; rfl] at this
        rw [this, drop_cons l i hlt]
        have hfc := fine_cons (rd l (i : Int)) (l.drop (i + 1))
        have e : a + (rd l (i : Int) :: l.drop (i + 1)).sum = a + rd l (i : Int) + (l.drop (i + 1)).sum := by simp; omega
        congr 1
        by_cases hf : Fine (l.drop (i + 1)) ∧ isSum (a + rd l (i : Int) + (l.drop (i + 1)).sum)
        · rw [if_pos hf, if_pos ⟨hfc.mpr ⟨⟨by omega, by omega⟩, hf.1⟩, e ▸ hf.2⟩, e]
        · rw [if_neg hf, if_neg (fun h => hf ⟨(hfc.mp h.1).2, e ▸ h.2⟩)]

theorem check_some (l : List Int) (k : Nat) (hk : 600 < k) : couple_Check.f k l = some (if IsWts l then (l.sum, 0) else (0, 240)) := by
  obtain ⟨k, rfl⟩ : ∃ m, k = m + 1 := ⟨k - 1, by omega⟩
  unfold couple_Check.f
  by_cases c1 : (l.length : Int) < 1
  · rw [if_pos c1]
    simp only [couple_Check.j0, if_true]
    rw [if_neg (fun h => by have := h.len1; omega)]
  · rw [if_neg c1]
    by_cases c2 : (l.length : Int) > 512
    · simp only [couple_Check.j0]
      rw [if_pos (by simpa using c2), if_neg (fun h => by have := h.len2; omega)]
    · simp only [couple_Check.j0]
      rw [if_neg (by simpa using c2)]
      have := check_loop l (by omega) l.length 0 0 k (by omega) (by omega) (by omega) (by omega) (by omega)
      simp only [List.drop_zero, Int.zero_add] at this
      rw [show ((0 : Nat) : Int) = 0 from rfl] at this
      rw [this]
      congr 1
      by_cases hf : Fine l ∧ isSum l.sum
      · rw [if_pos hf, if_pos ⟨by omega, by omega, hf.1, hf.2⟩]
      · rw [if_neg hf, if_neg (fun h => hf ⟨h.fine, h.sum⟩)]

theorem sum_loop (l : List Int) (hl : l.length ≤ 512) : ∀ (n i : Nat) (a : Int) (k : Nat), n = l.length - i → i ≤ l.length → 0 ≤ a → a ≤ i * 4294967296 → n < k →
    heraldref24_Sum.l0 k a l (l.length : Int) (i : Int) = some (if Fine (l.drop i) ∧ isSum (a + (l.drop i).sum) then a + (l.drop i).sum else 0) := by
  intro n
  induction n with
  | zero =>
    intro i a k hn hi h0 h1 hk
    obtain ⟨k, rfl⟩ : ∃ m, k = m + 1 := ⟨k - 1, by omega⟩
    obtain rfl : i = l.length := by omega
    simp only [heraldref24_Sum.l0]
    rw [if_neg (by omega), isSum_tail (α := Option Int) a (some a) (some 0)]
    simp only [List.drop_length, List.sum_nil, Int.add_zero]
    by_cases hs : isSum a
    · rw [if_pos hs, if_pos ⟨by simp [Fine], hs⟩]
    · rw [if_neg hs, if_neg (fun h => hs h.2)]
  | succ n ih =>
    intro i a k hn hi h0 h1 hk
    obtain ⟨k, rfl⟩ : ∃ m, k = m + 1 := ⟨k - 1, by omega⟩
    have hlt : i < l.length := by omega
    simp only [heraldref24_Sum.l0]
    rw [if_pos (by omega), if_pos (by omega), if_pos (by omega)]
    by_cases c1 : rd l (i : Int) < 0
    · rw [if_pos c1, if_neg]
      rintro ⟨hf, _⟩
      rw [drop_cons l i hlt, fine_cons] at hf
      omega
    · rw [if_neg c1]
      by_cases c2 : rd l (i : Int) > 4294967296
      · rw [if_pos c2, if_neg]
        rintro ⟨hf, _⟩
        rw [drop_cons l i hlt, fine_cons] at hf
        omega
      · rw [if_neg c2, wrap_in (by omega) (by omega), wrap_in (by omega) (by omega)]
        have := ih (i + 1) (a + rd l (i : Int)) k (by omega) (by omega) (by omega) (by push_cast; omega) (by omega)
        rw [show ((i + 1 : Nat) : Int) = (i : Int) + 1 from by push_cast; rfl] at this
        rw [this, drop_cons l i hlt]
        have hfc := fine_cons (rd l (i : Int)) (l.drop (i + 1))
        have e : a + (rd l (i : Int) :: l.drop (i + 1)).sum = a + rd l (i : Int) + (l.drop (i + 1)).sum := by simp; omega
        congr 1
        by_cases hf : Fine (l.drop (i + 1)) ∧ isSum (a + rd l (i : Int) + (l.drop (i + 1)).sum)
        · rw [if_pos hf, if_pos ⟨hfc.mpr ⟨⟨by omega, by omega⟩, hf.1⟩, e ▸ hf.2⟩, e]
        · rw [if_neg hf, if_neg (fun h => hf ⟨(hfc.mp h.1).2, e ▸ h.2⟩)]

theorem sum_some (l : List Int) (k : Nat) (hk : 600 < k) : heraldref24_Sum.f k l = some (if IsWts l then l.sum else 0) := by
  obtain ⟨k, rfl⟩ : ∃ m, k = m + 1 := ⟨k - 1, by omega⟩
  unfold heraldref24_Sum.f
  by_cases c1 : (l.length : Int) = 0
  · rw [if_pos c1]
    simp only [heraldref24_Sum.j0, if_true]
    rw [if_neg (fun h => by have := h.len1; omega)]
  · rw [if_neg c1]
    by_cases c2 : (l.length : Int) > 512
    · simp only [heraldref24_Sum.j0]
      rw [if_pos (by simpa using c2), if_neg (fun h => by have := h.len2; omega)]
    · simp only [heraldref24_Sum.j0]
      rw [if_neg (by simpa using c2)]
      have := sum_loop l (by omega) l.length 0 0 k (by omega) (by omega) (by omega) (by omega) (by omega)
      simp only [List.drop_zero, Int.zero_add] at this
      rw [show ((0 : Nat) : Int) = 0 from rfl] at this
      rw [this]
      congr 1
      by_cases hf : Fine l ∧ isSum l.sum
      · rw [if_pos hf, if_pos ⟨by omega, by omega, hf.1, hf.2⟩]
      · rw [if_neg hf, if_neg (fun h => hf ⟨h.fine, h.sum⟩)]

theorem both_some (p q : List Int) (k : Nat) (hk : 600 < k) : couple_both.f k p q = some (if IsWts p ∧ IsWts q then (if p.sum = q.sum ∧ p.length = q.length then (p.sum, 0) else (0, 242)) else (0, 240)) := by
  obtain ⟨m, rfl⟩ : ∃ m, k = m + 1 := ⟨k - 1, by omega⟩
  unfold couple_both.f
  rw [check_some p _ hk, check_some q _ hk]
  simp only [Option.bind_some]
  by_cases hp : IsWts p
  · by_cases hq : IsWts q
    · simp only [if_pos hp, if_pos hq, if_pos (And.intro hp hq), if_true, couple_both.j0, bne_self_eq_false, Bool.false_eq_true, if_false]
      by_cases e1 : p.sum = q.sum
      · by_cases e2 : (p.length : Int) = (q.length : Int)
        · rw [if_pos e1, if_pos e2, if_pos ⟨e1, by omega⟩]
        · rw [if_pos e1, if_neg e2, if_neg (fun h => e2 (by omega))]
      · rw [if_neg e1, if_neg (fun h => e1 h.1)]
    · simp only [if_pos hp, if_neg hq, if_neg (show ¬ (IsWts p ∧ IsWts q) from fun h => hq h.2), couple_both.j0]
      rfl
  · simp only [if_neg hp, if_neg (show ¬ (IsWts p ∧ IsWts q) from fun h => hp h.1), couple_both.j0]
    rfl

theorem awake_some (k : Nat) (hk : 600 < k) : heraldlaw24_awake.f k = some true := by
  unfold heraldlaw24_awake.f
  have g1 : IsWts [1, 3] := by decide
  have g2 : IsWts [3, 1] := by decide
  have h : couple_Guess.f k [1, 3] [3, 1] 1 = some (0, 1, false, 0) := by
    unfold couple_Guess.f
    rw [both_some _ _ _ hk, if_pos ⟨g1, g2⟩]
    decide +kernel
  rw [h]
  rfl

theorem same_loop (a b : List Int) (hab : a.length = b.length) (hm : a.length ≤ maxLen) : ∀ (n i : Nat) (k : Nat), n = a.length - i → i ≤ a.length → n < k →
    heraldlaw24_same.l0 k a b (a.length : Int) (i : Int) = some (decide (a.drop i = b.drop i)) := by
  unfold maxLen at hm
  intro n
  induction n with
  | zero =>
    intro i k hn hi hk
    obtain ⟨k, rfl⟩ : ∃ m, k = m + 1 := ⟨k - 1, by omega⟩
    obtain rfl : i = a.length := by omega
    simp only [heraldlaw24_same.l0]
    rw [if_neg (by omega)]
    simp [hab]
  | succ n ih =>
    intro i k hn hi hk
    obtain ⟨k, rfl⟩ : ∃ m, k = m + 1 := ⟨k - 1, by omega⟩
    simp only [heraldlaw24_same.l0]
    rw [if_pos (by omega), if_pos (by omega), if_pos (by omega), if_pos (by omega), drop_cons a i (by omega), drop_cons b i (by omega)]
    by_cases c : rd a (i : Int) = rd b (i : Int)
    · rw [if_pos c, wrap_in (by omega) (by omega), show (i : Int) + 1 = ((i + 1 : Nat) : Int) from by push_cast; rfl, ih (i + 1) k (by omega) (by omega) (by omega)]
      simp [c]
    · rw [if_neg c]
      simp [c]
theorem same_some (a b : List Int) (hm : a.length ≤ maxLen) (k : Nat) (hk : a.length < k) : heraldlaw24_same.f k a b = some (decide (a = b)) := by
  unfold heraldlaw24_same.f
  by_cases h : (a.length : Int) = (b.length : Int)
  · rw [if_pos h, show (0 : Int) = ((0 : Nat) : Int) from rfl, same_loop a b (by omega) hm a.length 0 k (by omega) (by omega) hk]
    simp
  · rw [if_neg h]
    have : a ≠ b := fun e => h (by rw [e])
    simp [this]
end Go.Proofs.Ytldbdifdldmgfaa.Math
