/- Texts of this session and printed texts, merged, what is not needed left out: Math, EvA, PAllx6, PAllx12, EvB, EvC, EvD, PureCoupleGuesses, PureCoupleChains, PureCoupleTrue, CpA, CpB, CpC, CpD, CpE, CpF, PureCoupleProducts, RowsC. -/
import Derived.Test.YtldbdifdldmgfaaCpD0
import Derived.Test.YtldbdifdldmgfaaCpD1
import Derived.Test.YtldbdifdldmgfaaCpD2
import Derived.Test.YtldbdifdldmgfaaCpD3
import Derived.Deep.Matrix
import Derived.Lib.SmallJoins
import Derived.ProofKit
section
namespace Go.Proofs.Ytldbdifdldmgfaa.Math
open Go.RowKit Go.Proofs.Ytldbdifdldmgfaa.PAll Go.Proofs.YtldbdifdldmgfaaW.PrintWords Go.Proofs.YtldbdifdldmgfaaW.PrintLast
set_option linter.unusedVariables false
set_option linter.unusedSimpArgs false
def isSum (s : Int) : Prop := s = 2 ∨ s = 4 ∨ s = 16 ∨ s = 256 ∨ s = 65536 ∨ s = 4294967296
instance (s : Int) : Decidable (isSum s) := by unfold isSum; exact inferInstance
def Fine (l : List Int) : Prop := ∀ x ∈ l, 0 ≤ x ∧ x ≤ 4294967296
instance (l : List Int) : Decidable (Fine l) := by unfold Fine; exact inferInstance
structure IsWts (l : List Int) : Prop where
  len1 : 1 ≤ l.length
  len2 : l.length ≤ 512
  fine : Fine l
  sum : isSum l.sum
instance (l : List Int) : Decidable (IsWts l) :=
  if h : 1 ≤ l.length ∧ l.length ≤ 512 ∧ Fine l ∧ isSum l.sum then isTrue ⟨h.1, h.2.1, h.2.2.1, h.2.2.2⟩
  else isFalse fun g => h ⟨g.len1, g.len2, g.fine, g.sum⟩
theorem wrap_in {a : Int} (h0 : -9223372036854775808 ≤ a) (h1 : a ≤ 9223372036854775807) : wrap64 a = a := by unfold wrap64; omega
theorem isSum_pos {s : Int} (h : isSum s) : 2 ≤ s ∧ s ≤ 4294967296 := by unfold isSum at h; omega
theorem rd_at (l : List Int) (i : Nat) (h : i < l.length) : rd l (i : Int) = l[i] := by simp [rd, h]
theorem drop_cons (l : List Int) (i : Nat) (h : i < l.length) : l.drop i = rd l (i : Int) :: l.drop (i + 1) := by
  rw [List.drop_eq_getElem_cons h, rd_at l i h]
theorem rd_mem (l : List Int) (i : Nat) (h : i < l.length) : rd l (i : Int) ∈ l := by rw [rd_at l i h]; exact List.getElem_mem h
/-- What lies ahead of token x. -/
def pre (l : List Int) (x : Nat) : Int := (l.take x).sum
theorem pre_zero (l : List Int) : pre l 0 = 0 := by simp [pre]
theorem sum_append (a b : List Int) : (a ++ b).sum = a.sum + b.sum := by
  induction a with
  | nil => simp
  | cons x a ih => simp [ih]; omega
theorem pre_succ (l : List Int) (x : Nat) (h : x < l.length) : pre l (x + 1) = pre l x + rd l (x : Int) := by
  unfold pre
  rw [List.take_succ_eq_append_getElem h, sum_append, rd_at l x h]
  simp
theorem pre_all (l : List Int) : pre l l.length = l.sum := by simp [pre]
theorem pre_mono (l : List Int) (hf : ∀ x ∈ l, 0 ≤ x) (a : Nat) : ∀ d, a + d ≤ l.length → pre l a ≤ pre l (a + d)
  | 0, _ => Int.le_refl _
  | d + 1, h => by
    have ih := pre_mono l hf a d (by omega)
    have hx := hf _ (rd_mem l (a + d) (by omega))
    rw [← Nat.add_assoc, pre_succ l (a + d) (by omega)]
    omega
theorem pre_le (l : List Int) (hf : ∀ x ∈ l, 0 ≤ x) {a b : Nat} (h : a ≤ b) (hb : b ≤ l.length) : pre l a ≤ pre l b := by
  have := pre_mono l hf a (b - a) (by omega)
  rwa [Nat.add_sub_cancel' h] at this
theorem pre_nonneg (l : List Int) (hf : ∀ x ∈ l, 0 ≤ x) (a : Nat) (h : a ≤ l.length) : 0 ≤ pre l a := by
  have := pre_le l hf (Nat.zero_le a) h
  rwa [pre_zero] at this
theorem pre_le_sum (l : List Int) (hf : ∀ x ∈ l, 0 ≤ x) (a : Nat) (h : a ≤ l.length) : pre l a ≤ l.sum := by
  rw [← pre_all]; exact pre_le l hf h (Nat.le_refl _)
/-- 'find' tells the stretch in which a draw lies. -/
theorem findL_from (l : List Int) (hf : ∀ x ∈ l, 0 ≤ x) (hs : l.sum ≤ 4294967296) : ∀ (n x : Nat) (u : Int), n = l.length - x → x ≤ l.length → 0 ≤ u → u < l.sum - pre l x →
    ∃ (y : Nat) (r : Int), findL (l.drop x) (x : Int) u = ((y : Int), r) ∧ x ≤ y ∧ y < l.length ∧ 0 ≤ r ∧ r < rd l (y : Int) ∧ pre l x + u = pre l y + r := by
  intro n
  induction n with
  | zero =>
    intro x u hn hx h0 hu
    obtain rfl : x = l.length := by omega
    rw [pre_all] at hu
    omega
  | succ n ih =>
    intro x u hn hx h0 hu
    have hlt : x < l.length := by omega
    have hp := pre_succ l x hlt
    have hx0 := hf _ (rd_mem l x hlt)
    have hpx := pre_nonneg l hf x hx
    rw [drop_cons l x hlt]
    unfold findL
    by_cases hq : u < rd l (x : Int)
    · rw [if_pos hq]
      exact ⟨x, u, rfl, Nat.le_refl _, hlt, h0, hq, rfl⟩
    · rw [if_neg hq, wrap_in (by omega) (by omega)]
      obtain ⟨y, r, hy, h1, h2, h3, h4, h5⟩ := ih (x + 1) (u - rd l (x : Int)) (by omega) (by omega) (by omega) (by omega)
      refine ⟨y, r, ?_, by omega, h2, h3, h4, by omega⟩
      rw [← hy]
      congr 1
theorem findL_tells (l : List Int) (hf : ∀ x ∈ l, 0 ≤ x) (hs : l.sum ≤ 4294967296) (u : Int) (h0 : 0 ≤ u) (hu : u < l.sum) :
    ∃ (y : Nat) (r : Int), findL l 0 u = ((y : Int), r) ∧ y < l.length ∧ 0 ≤ r ∧ r < rd l (y : Int) ∧ u = pre l y + r := by
  obtain ⟨y, r, h, _, h2, h3, h4, h5⟩ := findL_from l hf hs l.length 0 u (by omega) (by omega) h0 (by rw [pre_zero]; omega)
  rw [pre_zero] at h5
  exact ⟨y, r, h, h2, h3, h4, by omega⟩
/-- How many draws below u lie in the stretch that begins at a and has n draws. -/
def within (u a n : Int) : Int := if u ≤ a then 0 else if u - a ≤ n then u - a else n
/-- The counts of draws below u, token by token. -/
def cnt (l : List Int) (u : Int) : List Int := (List.range l.length).map fun x => within u (pre l x) (rd l (x : Int))
theorem cnt_length (l : List Int) (u : Int) : (cnt l u).length = l.length := by simp [cnt]
theorem cnt_rd (l : List Int) (u : Int) (x : Nat) (h : x < l.length) : rd (cnt l u) (x : Int) = within u (pre l x) (rd l (x : Int)) := by
  rw [rd_at _ _ (by rw [cnt_length]; exact h)]
  simp [cnt]
theorem list_ext_rd {a b : List Int} (hl : a.length = b.length) (h : ∀ x : Nat, x < a.length → rd a (x : Int) = rd b (x : Int)) : a = b := by
  refine List.ext_getElem hl fun i h1 h2 => ?_
  have := h i h1
  rwa [rd_at a i h1, rd_at b i h2] at this
theorem rd_set_same (l : List Int) (y : Nat) (v : Int) (h : y < l.length) : rd (l.set y v) (y : Int) = v := by
  rw [rd_at _ _ (by simpa using h)]; simp
theorem rd_set_other (l : List Int) (y x : Nat) (v : Int) (h : x < l.length) (hne : y ≠ x) : rd (l.set y v) (x : Int) = rd l (x : Int) := by
  rw [rd_at _ _ (by simpa using h), rd_at _ _ h]; simp [hne]
theorem cnt_zero (l : List Int) (hf : ∀ x ∈ l, 0 ≤ x) : cnt l 0 = List.replicate l.length 0 := by
  refine list_ext_rd (by simp [cnt]) fun x h => ?_
  rw [cnt_length] at h
  have := pre_nonneg l hf x (by omega)
  rw [cnt_rd l 0 x h]
  have e : rd (List.replicate l.length 0) (x : Int) = 0 := by simp [rd, List.getD_eq_getElem?_getD, List.getElem?_replicate, h]
  rw [e]
  unfold within
  rw [if_pos (by omega)]
theorem cnt_all (l : List Int) (hf : ∀ x ∈ l, 0 ≤ x) : cnt l l.sum = l := by
  refine list_ext_rd (by simp [cnt]) fun x h => ?_
  rw [cnt_length] at h
  have h1 := pre_le_sum l hf (x + 1) (by omega)
  have h2 := pre_succ l x h
  have h3 := hf _ (rd_mem l x h)
  rw [cnt_rd l _ x h]
  unfold within
  split
  · omega
  · split <;> omega
/-- One draw more. -/
theorem cnt_step (l : List Int) (hf : ∀ x ∈ l, 0 ≤ x) (u r : Int) (y : Nat) (hy : y < l.length) (h0 : 0 ≤ r) (h1 : r < rd l (y : Int)) (hu : u = pre l y + r) :
    cnt l (u + 1) = (cnt l u).set y (rd (cnt l u) (y : Int) + 1) := by
  refine list_ext_rd (by simp [cnt]) fun x h => ?_
  rw [cnt_length] at h
  rw [cnt_rd l _ x h]
  by_cases e : y = x
  · subst e
    rw [rd_set_same _ _ _ (by rw [cnt_length]; exact hy), cnt_rd l u y hy]
    unfold within
    split <;> split <;> (try split) <;> (try split) <;> omega
  · rw [rd_set_other _ _ _ _ (by rw [cnt_length]; exact h) e, cnt_rd l u x h]
    rcases Nat.lt_or_gt_of_ne e with g | g
    · have a1 := pre_le l hf (show y + 1 ≤ x by omega) (by omega)
      have a2 := pre_succ l y hy
      unfold within
      rw [if_pos (by omega), if_pos (by omega)]
    · have a1 := pre_le l hf (show x + 1 ≤ y by omega) (by omega)
      have a2 := pre_succ l x h
      have a3 := hf _ (rd_mem l x h)
      unfold within
      by_cases z : u ≤ pre l x
      · have : rd l (x : Int) = 0 := by omega
        rw [if_pos z]
        split
        · rfl
        · rw [if_neg (by omega)]; exact this
      · rw [if_neg (by omega), if_neg z]
        by_cases q : u - pre l x ≤ rd l (x : Int)
        · rw [if_pos q]
          by_cases q2 : u + 1 - pre l x ≤ rd l (x : Int)
          · omega
          · rw [if_neg q2]; omega
        · rw [if_neg q, if_neg (by omega)]
theorem good_nn {l : List Int} (h : IsWts l) : ∀ x ∈ l, 0 ≤ x := fun x hx => (h.fine x hx).1
theorem good_sum {l : List Int} (h : IsWts l) : 2 ≤ l.sum ∧ l.sum ≤ 4294967296 := isSum_pos h.sum
theorem good_rd {l : List Int} (h : IsWts l) (x : Nat) (hx : x < l.length) : 0 ≤ rd l (x : Int) ∧ rd l (x : Int) ≤ 4294967296 := h.fine _ (rd_mem l x hx)
end Go.Proofs.Ytldbdifdldmgfaa.Math
end

section
namespace Go.Proofs.Ytldbdifdldmgfaa.Math
open Go.RowKit Go.Proofs.Ytldbdifdldmgfaa.PAll Go.Proofs.YtldbdifdldmgfaaW.PrintWords Go.Proofs.YtldbdifdldmgfaaW.PrintLast
set_option linter.unusedVariables false
set_option linter.unusedSimpArgs false
theorem fine_cons (x : Int) (l : List Int) : Fine (x :: l) ↔ (0 ≤ x ∧ x ≤ 4294967296) ∧ Fine l := by simp [Fine]
theorem isSum_tail {α : Type} (s : Int) (a b : α) : (if s = 2 then a else (if s = 4 then a else (if s = 16 then a else (if s = 256 then a else (if s = 65536 then a else (if s = 4294967296 then a else b)))))) = if isSum s then a else b := by
  by_cases h : isSum s
  · rw [if_pos h]
    unfold isSum at h
    by_cases h1 : s = 2
    · rw [if_pos h1]
    rw [if_neg h1]
    by_cases h2 : s = 4
    · rw [if_pos h2]
    rw [if_neg h2]
    by_cases h3 : s = 16
    · rw [if_pos h3]
    rw [if_neg h3]
    by_cases h4 : s = 256
    · rw [if_pos h4]
    rw [if_neg h4]
    by_cases h5 : s = 65536
    · rw [if_pos h5]
    rw [if_neg h5, if_pos (by omega)]
  · rw [if_neg h]
    unfold isSum at h
    rw [if_neg (by omega), if_neg (by omega), if_neg (by omega), if_neg (by omega), if_neg (by omega), if_neg (by omega)]
theorem check_loop (l : List Int) (hl : l.length ≤ 512) : ∀ (n i : Nat) (a : Int) (k : Nat), n = l.length - i → i ≤ l.length → 0 ≤ a → a ≤ i * 4294967296 → n < k →
    couple_Check.l0 k a l (l.length : Int) (i : Int) = some (if Fine (l.drop i) ∧ isSum (a + (l.drop i).sum) then (a + (l.drop i).sum, 0) else (0, 240)) := by
  intro n
  induction n with
  | zero =>
    intro i a k hn hi h0 h1 hk
    obtain ⟨k, rfl⟩ : ∃ m, k = m + 1 := ⟨k - 1, by omega⟩
    obtain rfl : i = l.length := by omega
    simp only [couple_Check.l0]
    rw [if_neg (by omega), isSum_tail (α := Option (Int × Int)) a (some (a, 0)) (some (0, 240))]
    simp only [List.drop_length, List.sum_nil, Int.add_zero]
    by_cases hs : isSum a
    · rw [if_pos hs, if_pos ⟨by simp [Fine], hs⟩]
    · rw [if_neg hs, if_neg (fun h => hs h.2)]
  | succ n ih =>
    intro i a k hn hi h0 h1 hk
    obtain ⟨k, rfl⟩ : ∃ m, k = m + 1 := ⟨k - 1, by omega⟩
    have hlt : i < l.length := by omega
    simp only [couple_Check.l0]
    rw [if_pos (by omega), if_pos (by omega), if_pos (by omega)]
    by_cases c1 : rd l (i : Int) < 0
    · rw [if_pos c1, if_neg]
      rintro ⟨hf, _⟩
      rw [drop_cons l i hlt, fine_cons] at hf
      omega
    · rw [if_neg c1]
      by_cases c2 : rd l (i : Int) > 4294967296
      · rw [if_pos c2, if_neg]
        rintro ⟨hf, _⟩
        rw [drop_cons l i hlt, fine_cons] at hf
        omega
      · rw [if_neg c2, wrap_in (by omega) (by omega), wrap_in (by omega) (by omega)]
        have := ih (i + 1) (a + rd l (i : Int)) k (by omega) (by omega) (by omega) (by push_cast; omega) (by omega)
        rw [show ((i + 1 : Nat) : Int) = (i : Int) + 1 from by push_cast; rfl] at this
        rw [this, drop_cons l i hlt]
        have hfc := fine_cons (rd l (i : Int)) (l.drop (i + 1))
        have e : a + (rd l (i : Int) :: l.drop (i + 1)).sum = a + rd l (i : Int) + (l.drop (i + 1)).sum := by simp; omega
        congr 1
        by_cases hf : Fine (l.drop (i + 1)) ∧ isSum (a + rd l (i : Int) + (l.drop (i + 1)).sum)
        · rw [if_pos hf, if_pos ⟨hfc.mpr ⟨⟨by omega, by omega⟩, hf.1⟩, e ▸ hf.2⟩, e]
        · rw [if_neg hf, if_neg (fun h => hf ⟨(hfc.mp h.1).2, e ▸ h.2⟩)]
theorem check_some (l : List Int) (k : Nat) (hk : 600 < k) : couple_Check.f k l = some (if IsWts l then (l.sum, 0) else (0, 240)) := by
  obtain ⟨k, rfl⟩ : ∃ m, k = m + 1 := ⟨k - 1, by omega⟩
  unfold couple_Check.f
  by_cases c1 : (l.length : Int) < 1
  · rw [if_pos c1]
    simp only [couple_Check.j0, if_true]
    rw [if_neg (fun h => by have := h.len1; omega)]
  · rw [if_neg c1]
    by_cases c2 : (l.length : Int) > 512
    · simp only [couple_Check.j0]
      rw [if_pos (by simpa using c2), if_neg (fun h => by have := h.len2; omega)]
    · simp only [couple_Check.j0]
      rw [if_neg (by simpa using c2)]
      have := check_loop l (by omega) l.length 0 0 k (by omega) (by omega) (by omega) (by omega) (by omega)
      simp only [List.drop_zero, Int.zero_add] at this
      rw [show ((0 : Nat) : Int) = 0 from rfl] at this
      rw [this]
      congr 1
      by_cases hf : Fine l ∧ isSum l.sum
      · rw [if_pos hf, if_pos ⟨by omega, by omega, hf.1, hf.2⟩]
      · rw [if_neg hf, if_neg (fun h => hf ⟨h.fine, h.sum⟩)]
theorem sum_loop (l : List Int) (hl : l.length ≤ 512) : ∀ (n i : Nat) (a : Int) (k : Nat), n = l.length - i → i ≤ l.length → 0 ≤ a → a ≤ i * 4294967296 → n < k →
    heraldref24_Sum.l0 k a l (l.length : Int) (i : Int) = some (if Fine (l.drop i) ∧ isSum (a + (l.drop i).sum) then a + (l.drop i).sum else 0) := by
  intro n
  induction n with
  | zero =>
    intro i a k hn hi h0 h1 hk
    obtain ⟨k, rfl⟩ : ∃ m, k = m + 1 := ⟨k - 1, by omega⟩
    obtain rfl : i = l.length := by omega
    simp only [heraldref24_Sum.l0]
    rw [if_neg (by omega), isSum_tail (α := Option Int) a (some a) (some 0)]
    simp only [List.drop_length, List.sum_nil, Int.add_zero]
    by_cases hs : isSum a
    · rw [if_pos hs, if_pos ⟨by simp [Fine], hs⟩]
    · rw [if_neg hs, if_neg (fun h => hs h.2)]
  | succ n ih =>
    intro i a k hn hi h0 h1 hk
    obtain ⟨k, rfl⟩ : ∃ m, k = m + 1 := ⟨k - 1, by omega⟩
    have hlt : i < l.length := by omega
    simp only [heraldref24_Sum.l0]
    rw [if_pos (by omega), if_pos (by omega), if_pos (by omega)]
    by_cases c1 : rd l (i : Int) < 0
    · rw [if_pos c1, if_neg]
      rintro ⟨hf, _⟩
      rw [drop_cons l i hlt, fine_cons] at hf
      omega
    · rw [if_neg c1]
      by_cases c2 : rd l (i : Int) > 4294967296
      · rw [if_pos c2, if_neg]
        rintro ⟨hf, _⟩
        rw [drop_cons l i hlt, fine_cons] at hf
        omega
      · rw [if_neg c2, wrap_in (by omega) (by omega), wrap_in (by omega) (by omega)]
        have := ih (i + 1) (a + rd l (i : Int)) k (by omega) (by omega) (by omega) (by push_cast; omega) (by omega)
        rw [show ((i + 1 : Nat) : Int) = (i : Int) + 1 from by push_cast; rfl] at this
        rw [this, drop_cons l i hlt]
        have hfc := fine_cons (rd l (i : Int)) (l.drop (i + 1))
        have e : a + (rd l (i : Int) :: l.drop (i + 1)).sum = a + rd l (i : Int) + (l.drop (i + 1)).sum := by simp; omega
        congr 1
        by_cases hf : Fine (l.drop (i + 1)) ∧ isSum (a + rd l (i : Int) + (l.drop (i + 1)).sum)
        · rw [if_pos hf, if_pos ⟨hfc.mpr ⟨⟨by omega, by omega⟩, hf.1⟩, e ▸ hf.2⟩, e]
        · rw [if_neg hf, if_neg (fun h => hf ⟨(hfc.mp h.1).2, e ▸ h.2⟩)]
theorem sum_some (l : List Int) (k : Nat) (hk : 600 < k) : heraldref24_Sum.f k l = some (if IsWts l then l.sum else 0) := by
  obtain ⟨k, rfl⟩ : ∃ m, k = m + 1 := ⟨k - 1, by omega⟩
  unfold heraldref24_Sum.f
  by_cases c1 : (l.length : Int) = 0
  · rw [if_pos c1]
    simp only [heraldref24_Sum.j0, if_true]
    rw [if_neg (fun h => by have := h.len1; omega)]
  · rw [if_neg c1]
    by_cases c2 : (l.length : Int) > 512
    · simp only [heraldref24_Sum.j0]
      rw [if_pos (by simpa using c2), if_neg (fun h => by have := h.len2; omega)]
    · simp only [heraldref24_Sum.j0]
      rw [if_neg (by simpa using c2)]
      have := sum_loop l (by omega) l.length 0 0 k (by omega) (by omega) (by omega) (by omega) (by omega)
      simp only [List.drop_zero, Int.zero_add] at this
      rw [show ((0 : Nat) : Int) = 0 from rfl] at this
      rw [this]
      congr 1
      by_cases hf : Fine l ∧ isSum l.sum
      · rw [if_pos hf, if_pos ⟨by omega, by omega, hf.1, hf.2⟩]
      · rw [if_neg hf, if_neg (fun h => hf ⟨h.fine, h.sum⟩)]
theorem both_some (p q : List Int) (k : Nat) (hk : 600 < k) : couple_both.f k p q = some (if IsWts p ∧ IsWts q then (if p.sum = q.sum ∧ p.length = q.length then (p.sum, 0) else (0, 242)) else (0, 240)) := by
  obtain ⟨m, rfl⟩ : ∃ m, k = m + 1 := ⟨k - 1, by omega⟩
  unfold couple_both.f
  rw [check_some p _ hk, check_some q _ hk]
  simp only [Option.bind_some]
  by_cases hp : IsWts p
  · by_cases hq : IsWts q
    · simp only [if_pos hp, if_pos hq, if_pos (And.intro hp hq), if_true, couple_both.j0, bne_self_eq_false, Bool.false_eq_true, if_false]
      by_cases e1 : p.sum = q.sum
      · by_cases e2 : (p.length : Int) = (q.length : Int)
        · rw [if_pos e1, if_pos e2, if_pos ⟨e1, by omega⟩]
        · rw [if_pos e1, if_neg e2, if_neg (fun h => e2 (by omega))]
      · rw [if_neg e1, if_neg (fun h => e1 h.1)]
    · simp only [if_pos hp, if_neg hq, if_neg (show ¬ (IsWts p ∧ IsWts q) from fun h => hq h.2), couple_both.j0]
      rfl
  · simp only [if_neg hp, if_neg (show ¬ (IsWts p ∧ IsWts q) from fun h => hp h.1), couple_both.j0]
    rfl
theorem awake_some (k : Nat) (hk : 600 < k) : heraldlaw24_awake.f k = some true := by
  unfold heraldlaw24_awake.f
  have g1 : IsWts [1, 3] := by decide
  have g2 : IsWts [3, 1] := by decide
  have h : couple_Guess.f k [1, 3] [3, 1] 1 = some (0, 1, false, 0) := by
    unfold couple_Guess.f
    rw [both_some _ _ _ hk, if_pos ⟨g1, g2⟩]
    decide +kernel
  rw [h]
  rfl
end Go.Proofs.Ytldbdifdldmgfaa.Math
end

section
namespace Go.Proofs.Ytldbdifdldmgfaa.PAll
open Go.RowKit Go.Proofs.YtldbdifdldmgfaaW.PrintWords Go.Proofs.YtldbdifdldmgfaaW.PrintLast Go.Proofs.YtldbdifdldmgfaaW.PrintMore
attribute [local go_sem] max2_int min2_int max_two min_two max_three min_three max_four min_four   -- for this text's walks alone
set_option linter.unusedVariables false
set_option linter.unusedSimpArgs false
def heraldref24_together.j0 : Nat → List Int → List Int → Bool → Option (Int)
  | 0, _, _, _ => none
  | k + 1, x0, x1, x12 => if x12 = true then (some 240) else (if (x0.length : Int) = (x1.length : Int) then ((heraldref24_Sum.f k x0).bind fun t150 => ((heraldref24_Sum.f k x1).bind fun t151 => (if t150 = t151 then (some 0) else (some 242)))) else (some 242))
def heraldref24_together.f (k : Nat) (l0 : List Int) (l1 : List Int) : Option (Int) := (heraldref24_Sum.f k l0).bind fun t148 => (if t148 = 0 then (heraldref24_together.j0 k l0 l1 true) else ((heraldref24_Sum.f k l1).bind fun t149 => (heraldref24_together.j0 k l0 l1 (t149 == 0))))
def heraldref24_less.f (a0 : Int) (a1 : Int) : Option (Int) := if a0 < a1 then (some a0) else (some a1)
def heraldref24_left.l0 : Nat → List Int → List Int → List Int → Int → Int → Option (List Int)
  | 0, _, _, _, _, _ => none
  | k + 1, x0, x1, x5, x9, x10 => if x10 < x9 then (if 0 ≤ x10 then (if x10 < (x0.length : Int) then (if x10 < (x1.length : Int) then ((heraldref24_less.f (rd x0 x10) (rd x1 x10)).bind fun t158 => (if x5.length < 17592186044416 then (heraldref24_left.l0 k x0 x1 (x5 ++ [wrap64 ((rd x0 x10) - t158)]) x9 (wrap64 (x10 + 1))) else (none))) else (none)) else (none)) else (none)) else (some x5)
def heraldref24_left.f (k : Nat) (l0 : List Int) (l1 : List Int) : Option (List Int) := heraldref24_left.l0 k l0 l1 (([] : List Int)) (l0.length : Int) 0
end Go.Proofs.Ytldbdifdldmgfaa.PAll
end

section
namespace Go.Proofs.Ytldbdifdldmgfaa.PAll
open Go.RowKit Go.Proofs.YtldbdifdldmgfaaW.PrintWords Go.Proofs.YtldbdifdldmgfaaW.PrintLast Go.Proofs.YtldbdifdldmgfaaW.PrintMore
attribute [local go_sem] max2_int min2_int max_two min_two max_three min_three max_four min_four   -- for this text's walks alone
set_option linter.unusedVariables false
set_option linter.unusedSimpArgs false
def heraldref24_place.l0 : Nat → List Int → Int → Int → Option (Int × Int)
  | 0, _, _, _ => none
  | k + 1, x0, x1, x6 => if 0 ≤ x6 then (if x6 < (x0.length : Int) then (if x1 ≥ (rd x0 x6) then (heraldref24_place.l0 k x0 (wrap64 (x1 - (rd x0 x6))) (wrap64 (x6 + 1))) else (some (x6, x1))) else (none)) else (none)
def heraldref24_place.f (k : Nat) (l0 : List Int) (a1 : Int) : Option (Int × Int) := heraldref24_place.l0 k l0 a1 0
mutual
def heraldref24_Guess.j0 : Nat → List Int → List Int → Int → Bool → Option (Int × Int × Bool × Int)
  | 0, _, _, _, _ => none
  | k + 1, x0, x1, x2, x30 => if x30 = true then (some (0, 0, false, 241)) else ((heraldref24_place.f k x1 x2).bind fun bt238 => (if 0 ≤ bt238.1 then (if bt238.1 < (x0.length : Int) then (if bt238.1 < (x1.length : Int) then ((heraldref24_less.f (rd x0 bt238.1) (rd x1 bt238.1)).bind fun t242 => (if bt238.2 < t242 then (some (bt238.1, bt238.1, true, 0)) else (heraldref24_Guess.l0 k x0 x1 bt238.1 (wrap64 (bt238.2 - t242)) 0))) else (none)) else (none)) else (none)))
def heraldref24_Guess.l0 : Nat → List Int → List Int → Int → Int → Int → Option (Int × Int × Bool × Int)
  | 0, _, _, _, _, _ => none
  | k + 1, x0, x1, x11, x13, x14 => if x14 < x11 then (if 0 ≤ x14 then (if x14 < (x1.length : Int) then (if x14 < (x0.length : Int) then ((heraldref24_less.f (rd x0 x14) (rd x1 x14)).bind fun t248 => (heraldref24_Guess.l0 k x0 x1 x11 (wrap64 (x13 + (wrap64 ((rd x1 x14) - t248)))) (wrap64 (x14 + 1)))) else (none)) else (none)) else (none)) else ((heraldref24_left.f k x0 x1).bind fun t249 => ((heraldref24_place.f k t249 x13).bind fun bt252 => (some (x11, bt252.1, false, 0))))
end
def heraldref24_Guess.f (k : Nat) (l0 : List Int) (l1 : List Int) (a2 : Int) : Option (Int × Int × Bool × Int) := (heraldref24_together.f k l0 l1).bind fun t236 => (if t236 = 0 then (if a2 < 0 then (heraldref24_Guess.j0 k l0 l1 a2 true) else ((heraldref24_Sum.f k l0).bind fun t237 => (heraldref24_Guess.j0 k l0 l1 a2 (decide (a2 ≥ t237))))) else (some (0, 0, false, t236)))
end Go.Proofs.Ytldbdifdldmgfaa.PAll
end

section
namespace Go.Proofs.Ytldbdifdldmgfaa.Math
open Go.RowKit Go.Proofs.Ytldbdifdldmgfaa.PAll Go.Proofs.YtldbdifdldmgfaaW.PrintWords Go.Proofs.YtldbdifdldmgfaaW.PrintLast Go.Proofs.YtldbdifdldmgfaaW.PrintMore
set_option linter.unusedVariables false
set_option linter.unusedSimpArgs false
def minL (p q : List Int) : List Int := List.zipWith mn p q
theorem mn_le (a b : Int) : mn a b ≤ a ∧ mn a b ≤ b := by unfold mn; split <;> omega
theorem mn_or (a b : Int) : mn a b = a ∨ mn a b = b := by unfold mn; split <;> simp
theorem mn_comm (a b : Int) : mn a b = mn b a := by unfold mn; split <;> split <;> omega
theorem less_some (a b : Int) : heraldref24_less.f a b = some (mn a b) := by
  unfold heraldref24_less.f mn
  by_cases h : a < b
  · rw [if_pos h, if_neg (by omega)]
  · rw [if_neg h]
    by_cases h2 : b < a
    · rw [if_pos h2]
    · rw [if_neg h2, show a = b from by omega]
theorem minL_length (p q : List Int) (h : p.length = q.length) : (minL p q).length = p.length := by simp [minL, h]
theorem minL_rd (p q : List Int) (h : p.length = q.length) (x : Nat) (hx : x < p.length) : rd (minL p q) (x : Int) = mn (rd p (x : Int)) (rd q (x : Int)) := by
  have h1 : x < q.length := by omega
  simp [minL, rd, List.getD_eq_getElem?_getD, List.getElem?_zipWith, hx, h1]
theorem minL_comm (p q : List Int) : minL p q = minL q p := by
  unfold minL
  rw [List.zipWith_comm]
  congr 1
  funext a b
  exact mn_comm b a
theorem pre_lin (a b c : List Int) : ∀ n : Nat, n ≤ a.length → n ≤ b.length → n ≤ c.length → (∀ x : Nat, x < n → rd a (x : Int) = rd b (x : Int) + rd c (x : Int)) → pre a n = pre b n + pre c n
  | 0, _, _, _, _ => by simp [pre]
  | n + 1, ha, hb, hc, h => by
    rw [pre_succ a n (by omega), pre_succ b n (by omega), pre_succ c n (by omega), pre_lin a b c n (by omega) (by omega) (by omega) (fun x hx => h x (by omega)), h n (by omega)]
    omega
theorem pre_le_pre (a b : List Int) : ∀ n : Nat, n ≤ a.length → n ≤ b.length → (∀ x : Nat, x < n → rd a (x : Int) ≤ rd b (x : Int)) → pre a n ≤ pre b n
  | 0, _, _, _ => by simp [pre]
  | n + 1, ha, hb, h => by
    rw [pre_succ a n (by omega), pre_succ b n (by omega)]
    have h1 := pre_le_pre a b n (by omega) (by omega) (fun x hx => h x (by omega))
    have h2 := h n (by omega)
    omega
/-- Two rows of weights, of one length and one sum. -/
structure Pair (p q : List Int) : Prop where
  wp : IsWts p
  wq : IsWts q
  same : p.sum = q.sum
  len : p.length = q.length
def errV (p q : List Int) : Int := if IsWts p ∧ IsWts q then (if p.sum = q.sum ∧ p.length = q.length then 0 else 242) else 240
theorem errV_pair {p q : List Int} (h : Pair p q) : errV p q = 0 := by unfold errV; rw [if_pos ⟨h.wp, h.wq⟩, if_pos ⟨h.same, h.len⟩]
theorem errV_no {p q : List Int} (h : ¬ Pair p q) : errV p q ≠ 0 := by
  unfold errV
  by_cases c : IsWts p ∧ IsWts q
  · rw [if_pos c, if_neg (fun z => h ⟨c.1, c.2, z.1, z.2⟩)]; decide
  · rw [if_neg c]; decide
theorem Pair.symm {p q : List Int} (h : Pair p q) : Pair q p := ⟨h.wq, h.wp, h.same.symm, h.len.symm⟩
theorem both_err (p q : List Int) (k : Nat) (hk : 600 < k) : couple_both.f k p q = some (if errV p q = 0 then (p.sum, 0) else (0, errV p q)) := by
  rw [both_some p q k hk]
  congr 1
  unfold errV
  by_cases c : IsWts p ∧ IsWts q
  · rw [if_pos c]
    simp only [if_pos c]
    by_cases d : p.sum = q.sum ∧ p.length = q.length
    · simp only [if_pos d, if_true]
    · simp only [if_neg d]; rfl
  · rw [if_neg c]
    simp only [if_neg c]
    rfl
theorem together_some (p q : List Int) (k : Nat) (hk : 600 < k) : heraldref24_together.f (k + 1) p q = some (errV p q) := by
  unfold heraldref24_together.f errV
  rw [sum_some p _ (by omega)]
  simp only [Option.bind_some]
  by_cases hp : IsWts p
  · have h1 := good_sum hp
    simp only [if_pos hp]
    rw [if_neg (by omega), sum_some q _ (by omega)]
    simp only [Option.bind_some, heraldref24_together.j0]
    by_cases hq : IsWts q
    · have h2 := good_sum hq
      simp only [if_pos hq, if_pos (And.intro hp hq)]
      rw [if_neg (by simp; omega)]
      by_cases e2 : (p.length : Int) = (q.length : Int)
      · rw [if_pos e2, sum_some p k hk, sum_some q k hk, if_pos hp, if_pos hq]
        simp only [Option.bind_some]
        by_cases e1 : p.sum = q.sum
        · rw [if_pos e1, if_pos ⟨e1, by omega⟩]
        · rw [if_neg e1, if_neg (fun z => e1 z.1)]
      · rw [if_neg e2, if_neg (fun z => e2 (by omega))]
    · simp only [if_neg hq, if_neg (show ¬ (IsWts p ∧ IsWts q) from fun h => hq h.2)]
      rfl
  · simp only [if_neg hp, if_neg (show ¬ (IsWts p ∧ IsWts q) from fun h => hp h.1), heraldref24_together.j0]
    rfl
section
variable {p q : List Int} (h : Pair p q)
include h
theorem minL_nn : ∀ x ∈ minL p q, 0 ≤ x := by
  intro x hx
  obtain ⟨i, hi, rfl⟩ := List.getElem_of_mem hx
  have hi' : i < p.length := by rwa [minL_length p q h.len] at hi
  rw [← rd_at _ i hi, minL_rd p q h.len i hi']
  have h1 := good_rd h.wp i hi'
  have h2 := good_rd h.wq i (by rw [← h.len]; exact hi')
  rcases mn_or (rd p (i : Int)) (rd q (i : Int)) with e | e <;> omega
theorem pre_min_le (i : Nat) (hi : i ≤ p.length) : 0 ≤ pre (minL p q) i ∧ pre (minL p q) i ≤ pre p i ∧ pre (minL p q) i ≤ pre q i := by
  have hl := minL_length p q h.len
  have hlen := h.len
  refine ⟨pre_nonneg _ (minL_nn h) i (by omega), pre_le_pre _ _ i (by omega) hi (fun x hx => ?_), pre_le_pre _ _ i (by omega) (by omega) (fun x hx => ?_)⟩
  · rw [minL_rd p q h.len x (by omega)]; exact (mn_le _ _).1
  · rw [minL_rd p q h.len x (by omega)]; exact (mn_le _ _).2
theorem kept_le : 0 ≤ (minL p q).sum ∧ (minL p q).sum ≤ p.sum := by
  have h1 := pre_min_le h p.length (Nat.le_refl _)
  rw [pre_all, show p.length = (minL p q).length from (minL_length p q h.len).symm, pre_all] at h1
  omega
theorem res_rd (x : Nat) (hx : x < p.length) : rd (resL p q) (x : Int) = rd p (x : Int) - mn (rd p (x : Int)) (rd q (x : Int)) := by
  have h1 := good_rd h.wp x hx
  have h2 := good_rd h.wq x (by rw [← h.len]; exact hx)
  rw [resL_rd p q h.len x hx]
  rcases mn_or (rd p (x : Int)) (rd q (x : Int)) with e | e <;> rw [wrap_in (by omega) (by omega)]
theorem res_range (x : Nat) (hx : x < p.length) : 0 ≤ rd (resL p q) (x : Int) ∧ rd (resL p q) (x : Int) ≤ rd p (x : Int) := by
  have h0 := good_rd h.wp x hx
  have h2 := good_rd h.wq x (by rw [← h.len]; exact hx)
  have h1 := mn_le (rd p (x : Int)) (rd q (x : Int))
  rw [res_rd h x hx]
  rcases mn_or (rd p (x : Int)) (rd q (x : Int)) with e | e <;> omega
theorem res_nn : ∀ x ∈ resL p q, 0 ≤ x := by
  intro x hx
  obtain ⟨i, hi, rfl⟩ := List.getElem_of_mem hx
  have hi' : i < p.length := by rwa [resL_length p q h.len] at hi
  rw [← rd_at _ i hi]
  exact (res_range h i hi').1
theorem pre_res (i : Nat) (hi : i ≤ p.length) : pre p i = pre (resL p q) i + pre (minL p q) i := by
  have h1 := minL_length p q h.len
  have h2 := resL_length p q h.len
  refine pre_lin _ _ _ i hi (by omega) (by omega) fun x hx => ?_
  rw [res_rd h x (by omega), minL_rd p q h.len x (by omega)]
  omega
theorem res_sum : (resL p q).sum = p.sum - (minL p q).sum := by
  have := pre_res h p.length (Nat.le_refl _)
  rw [pre_all, show pre (resL p q) p.length = (resL p q).sum from by rw [← resL_length p q h.len, pre_all], show pre (minL p q) p.length = (minL p q).sum from by rw [← minL_length p q h.len, pre_all]] at this
  omega
end
end Go.Proofs.Ytldbdifdldmgfaa.Math
end

section
namespace Go.Proofs.Ytldbdifdldmgfaa.Math
open Go.RowKit Go.Proofs.Ytldbdifdldmgfaa.PAll Go.Proofs.YtldbdifdldmgfaaW.PrintWords Go.Proofs.YtldbdifdldmgfaaW.PrintLast Go.Proofs.YtldbdifdldmgfaaW.PrintMore
set_option linter.unusedVariables false
set_option linter.unusedSimpArgs false
theorem take_snoc_rd (l : List Int) (i : Nat) (h : i < l.length) : l.take (i + 1) = l.take i ++ [rd l (i : Int)] := by
  rw [List.take_succ_eq_append_getElem h, rd_at l i h]
section
variable {p q : List Int} (h : Pair p q)
include h
theorem left_loop : ∀ (n i : Nat) (k : Nat), n = p.length - i → i ≤ p.length → n < k →
    heraldref24_left.l0 k p q ((resL p q).take i) (p.length : Int) (i : Int) = some (resL p q) := by
  have hl := h.len
  have hml := resL_length p q h.len
  have h2 := h.wp.len2
  intro n
  induction n with
  | zero =>
    intro i k hn hi hk
    obtain ⟨k, rfl⟩ : ∃ m, k = m + 1 := ⟨k - 1, by omega⟩
    obtain rfl : i = p.length := by omega
    simp only [heraldref24_left.l0]
    rw [if_neg (by omega), ← hml, List.take_length]
  | succ n ih =>
    intro i k hn hi hk
    obtain ⟨k, rfl⟩ : ∃ m, k = m + 1 := ⟨k - 1, by omega⟩
    have hlt : i < p.length := by omega
    have h0 := good_rd h.wp i hlt
    have hr := res_range h i hlt
    have hrd := res_rd h i hlt
    simp only [heraldref24_left.l0]
    rw [if_pos (by omega), if_pos (by omega), if_pos (by omega), if_pos (by omega), less_some]
    simp only [Option.bind_some]
    rw [if_pos (by simp; omega), ← hrd, wrap_in (by omega) (by omega), wrap_in (by omega) (by omega), ← take_snoc_rd _ i (by omega)]
    exact ih (i + 1) k (by omega) (by omega) (by omega)
end
theorem left_some {p q : List Int} (h : Pair p q) (k : Nat) (hk : 600 < k) : heraldref24_left.f k p q = some (resL p q) := by
  unfold heraldref24_left.f
  have := left_loop h p.length 0 k (by omega) (by omega) (by have := h.wp.len2; omega)
  simpa using this
theorem place_loop (l : List Int) (hf : ∀ x ∈ l, 0 ≤ x) (hs : l.sum ≤ 4294967296) (hl : l.length ≤ 512) : ∀ (n x : Nat) (u : Int) (k : Nat), n = l.length - x → x ≤ l.length → 0 ≤ u → u < l.sum - pre l x → n < k →
    heraldref24_place.l0 k l u (x : Int) = some (findL (l.drop x) (x : Int) u) := by
  intro n
  induction n with
  | zero =>
    intro x u k hn hx h0 hu hk
    obtain rfl : x = l.length := by omega
    rw [pre_all] at hu
    omega
  | succ n ih =>
    intro x u k hn hx h0 hu hk
    obtain ⟨k, rfl⟩ : ∃ m, k = m + 1 := ⟨k - 1, by omega⟩
    have hlt : x < l.length := by omega
    have hp := pre_succ l x hlt
    have hx0 := hf _ (rd_mem l x hlt)
    have hpx := pre_nonneg l hf x hx
    rw [drop_cons l x hlt]
    simp only [heraldref24_place.l0]
    unfold findL
    rw [if_pos (by omega), if_pos (by omega)]
    by_cases hq : u < rd l (x : Int)
    · rw [if_pos hq, if_neg (by omega)]
    · rw [if_neg hq, if_pos (by omega), wrap_in (by omega) (by omega), wrap_in (by omega) (by omega)]
      exact ih (x + 1) (u - rd l (x : Int)) k (by omega) (by omega) (by omega) (by omega) (by omega)
theorem place_some (l : List Int) (hf : ∀ x ∈ l, 0 ≤ x) (hs : l.sum ≤ 4294967296) (hl : l.length ≤ 512) (u : Int) (h0 : 0 ≤ u) (hu : u < l.sum) (k : Nat) (hk : 600 < k) :
    heraldref24_place.f k l u = some (findL l 0 u) := by
  unfold heraldref24_place.f
  have := place_loop l hf hs hl l.length 0 u k (by omega) (by omega) h0 (by rw [pre_zero]; omega) (by omega)
  simpa using this
/-- The number of a lost draw. -/
theorem lostTo_eq {p q : List Int} (h : Pair p q) (a : Int) (ha : -4294967296 ≤ a) (hb : a ≤ 4294967296) : ∀ n : Nat, n ≤ p.length → lostTo p q n a = a + (pre q n - pre (minL p q) n)
  | 0, _ => by simp [lostTo, pre]
  | n + 1, hn => by
    have hl := h.len
    have hml := minL_length p q h.len
    have h1 := pre_min_le h n (by omega)
    have h2 := pre_min_le h (n + 1) (by omega)
    have h3 := pre_le_sum q (good_nn h.wq) (n + 1) (by omega)
    have h4 := pre_nonneg q (good_nn h.wq) n (by omega)
    have hs := good_sum h.wq
    have hq := good_rd h.wq n (by omega)
    have hp := good_rd h.wp n (by omega)
    have hp1 := pre_succ q n (by omega)
    have hp2 := pre_succ (minL p q) n (by omega)
    rw [minL_rd p q h.len n (by omega)] at hp2
    have hm := mn_le (rd p (n : Int)) (rd q (n : Int))
    have hm2 := mn_or (rd p (n : Int)) (rd q (n : Int))
    simp only [lostTo]
    rw [lostTo_eq h a ha hb n (by omega), wrap_in (a := rd q (n : Int) - mn (rd p (n : Int)) (rd q (n : Int))) (by omega) (by omega), wrap_in (by omega) (by omega)]
    omega
/-- What Guess tells of a draw of a pair: the guess, and the token. 'v' is how many draws below u are lost. -/
theorem guess_tells {p q : List Int} (h : Pair p q) (u : Int) (h0 : 0 ≤ u) (hu : u < p.sum) : ∃ (x : Nat) (r : Int), x < p.length ∧ 0 ≤ r ∧ r < rd q (x : Int) ∧ u = pre q x + r ∧ findL q 0 u = ((x : Int), r) ∧
    ((r < mn (rd p (x : Int)) (rd q (x : Int)) ∧ couple_Guess.g p q (x : Int) r = some ((x : Int), (x : Int), true, 0)) ∨
     (mn (rd p (x : Int)) (rd q (x : Int)) ≤ r ∧ mn (rd p (x : Int)) (rd q (x : Int)) = rd p (x : Int) ∧ ∃ (y : Nat) (s : Int), y < p.length ∧ 0 ≤ s ∧ s < rd (resL p q) (y : Int) ∧
        r - rd p (x : Int) + (pre q x - pre (minL p q) x) = pre (resL p q) y + s ∧ lostTo p q x (wrap64 (r - rd p (x : Int))) = r - rd p (x : Int) + (pre q x - pre (minL p q) x) ∧
        findL (resL p q) 0 (r - rd p (x : Int) + (pre q x - pre (minL p q) x)) = ((y : Int), s) ∧ couple_Guess.g p q (x : Int) r = some ((x : Int), (y : Int), false, 0))) := by
  have hl := h.len
  have hml := minL_length p q h.len
  have hrl := resL_length p q h.len
  have hs := h.same
  obtain ⟨x, r, hx, h2, h3, h4, h5⟩ := findL_tells q (good_nn h.wq) (good_sum h.wq).2 u h0 (by omega)
  refine ⟨x, r, by omega, h3, h4, h5, hx, ?_⟩
  have hp := good_rd h.wp x (by omega)
  have hq := good_rd h.wq x (by omega)
  have hgs := good_sum h.wq
  unfold couple_Guess.g
  rw [if_pos ⟨by omega, by omega, hl⟩]
  by_cases c : r < mn (rd p (x : Int)) (rd q (x : Int))
  · exact Or.inl ⟨c, by rw [if_pos c]⟩
  · refine Or.inr ⟨by omega, ?_, ?_⟩
    · rcases mn_or (rd p (x : Int)) (rd q (x : Int)) with e | e
      · exact e
      · omega
    · have he : mn (rd p (x : Int)) (rd q (x : Int)) = rd p (x : Int) := by
        rcases mn_or (rd p (x : Int)) (rd q (x : Int)) with e | e
        · exact e
        · omega
      have a1 := pre_min_le h (x + 1) (by omega)
      have a2 := pre_succ (minL p q) x (by omega)
      rw [minL_rd p q h.len x (by omega)] at a2
      have a3 := pre_succ q x (by omega)
      have a4 := pre_min_le h x (by omega)
      have hw : wrap64 (r - rd p (x : Int)) = r - rd p (x : Int) := wrap_in (by omega) (by omega)
      have hlost := lostTo_eq h (r - rd p (x : Int)) (by omega) (by omega) x (by omega)
      have hrs := res_sum h
      have htot : pre q (x + 1) - pre (minL p q) (x + 1) ≤ q.sum - (minL p q).sum := by
        have b := pre_res h.symm (x + 1) (by omega)
        have b2 := pre_le_sum (resL q p) (res_nn h.symm) (x + 1) (by rw [resL_length q p hl.symm]; omega)
        have b3 := res_sum h.symm
        rw [minL_comm q p] at b b3
        omega
      obtain ⟨y, s, hy, g2, g3, g4, g5⟩ := findL_tells (resL p q) (res_nn h) (by have := kept_le h; omega) (r - rd p (x : Int) + (pre q x - pre (minL p q) x)) (by omega) (by omega)
      refine ⟨y, s, by omega, g3, g4, g5, by rw [hw]; exact hlost, hy, ?_⟩
      rw [if_neg c, Int.toNat_natCast, hw, hlost, hy]
end Go.Proofs.Ytldbdifdldmgfaa.Math
end

section
namespace Go.Proofs.Ytldbdifdldmgfaa.Math
open Go.RowKit Go.Proofs.Ytldbdifdldmgfaa.PAll Go.Proofs.YtldbdifdldmgfaaW.PrintWords Go.Proofs.YtldbdifdldmgfaaW.PrintLast Go.Proofs.YtldbdifdldmgfaaW.PrintMore
set_option linter.unusedVariables false
set_option linter.unusedSimpArgs false
def drawV (l : List Int) (u : Int) : Int × Int := if IsWts l then (if u < 0 ∨ u ≥ l.sum then (0, 241) else ((findL l 0 u).1, 0)) else (0, 240)
theorem cdraw_some (l : List Int) (u : Int) (k : Nat) (hk : 600 < k) : couple_Draw.f k l u = some (drawV l u) := by
  unfold couple_Draw.f drawV
  rw [check_some l k hk]
  simp only [Option.bind_some]
  by_cases g : IsWts l
  · simp only [if_pos g, if_true]
    split <;> rfl
  · simp only [if_neg g]
    rfl
section
variable {l : List Int} (h : IsWts l)
include h
end
end Go.Proofs.Ytldbdifdldmgfaa.Math
end

section
namespace Go.Proofs.Ytldbdifdldmgfaa.Pure
open Go.RowKit Go.Proofs.Ytldbdifdldmgfaa.PAll Go.Proofs.Ytldbdifdldmgfaa.Math Go.Proofs.YtldbdifdldmgfaaW.PrintWords Go.Proofs.YtldbdifdldmgfaaW.PrintLast Go.Proofs.YtldbdifdldmgfaaW.PrintMore
set_option linter.unusedVariables false
set_option linter.unusedSimpArgs false
theorem guess_loop {p q : List Int} (h : Pair p q) (x : Nat) (hx : x < p.length) (a : Int) (y : Nat) (s : Int)
    (hp : ∀ k, 600 < k → heraldref24_place.f k (resL p q) (lostTo p q x a) = some ((y : Int), s)) : ∀ (n i : Nat) (k : Nat), n = x - i → i ≤ x → n + 601 < k →
    heraldref24_Guess.l0 k p q (x : Int) (lostTo p q i a) (i : Int) = some ((x : Int), (y : Int), false, 0) := by
  have hl := h.len
  have h2 := h.wp.len2
  intro n
  induction n with
  | zero =>
    intro i k hn hi hk
    obtain ⟨k, rfl⟩ : ∃ m, k = m + 1 := ⟨k - 1, by omega⟩
    obtain rfl : i = x := by omega
    simp only [heraldref24_Guess.l0]
    rw [if_neg (by omega), left_some h k (by omega)]
    simp only [Option.bind_some]
    rw [hp k (by omega)]
    rfl
  | succ n ih =>
    intro i k hn hi hk
    obtain ⟨k, rfl⟩ : ∃ m, k = m + 1 := ⟨k - 1, by omega⟩
    simp only [heraldref24_Guess.l0]
    rw [if_pos (by omega), if_pos (by omega), if_pos (by omega), if_pos (by omega), less_some]
    simp only [Option.bind_some]
    rw [wrap_in (a := (i : Int) + 1) (by omega) (by omega)]
    exact ih (i + 1) k (by omega) (by omega) (by omega)
theorem guess_both (p q : List Int) (u : Int) (k : Nat) (hk : 1300 < k) : ∃ x y b e, couple_Guess.f k p q u = some (x, y, b, e) ∧ heraldref24_Guess.f (k + 1) p q u = some (x, y, b, e) := by
  unfold couple_Guess.f heraldref24_Guess.f
  rw [both_err p q k (by omega), together_some p q k (by omega)]
  simp only [Option.bind_some]
  by_cases g : Pair p q
  · have hs := good_sum g.wp
    simp only [errV_pair g, if_true]
    by_cases c : u < 0
    · rw [if_pos (Or.inl c), if_pos c]
      exact ⟨_, _, _, _, rfl, by simp only [heraldref24_Guess.j0, if_true]⟩
    · rw [if_neg c, sum_some p _ (by omega), if_pos g.wp]
      simp only [Option.bind_some, heraldref24_Guess.j0]
      by_cases c2 : u ≥ p.sum
      · rw [if_pos (Or.inr c2), if_pos (by simpa using c2)]
        exact ⟨_, _, _, _, rfl, rfl⟩
      · rw [if_neg (by omega), if_neg (by simpa using c2)]
        obtain ⟨x, r, hx, h3, h4, h5, hf, hc⟩ := guess_tells g u (by omega) (by omega)
        have hl := g.len
        rw [place_some q (good_nn g.wq) (good_sum g.wq).2 g.wq.len2 u (by omega) (by have := g.same; omega) k (by omega), hf]
        simp only [Option.bind_some]
        rw [if_pos (by omega), if_pos (by omega), if_pos (by omega), less_some]
        simp only [Option.bind_some]
        rcases hc with ⟨c3, hg⟩ | ⟨c3, he, y, s, g2, g3, g4, g5, g6, g7, hg⟩
        · rw [if_pos c3, hg]
          exact ⟨_, _, _, _, rfl, rfl⟩
        · rw [if_neg (by omega), hg]
          refine ⟨_, _, _, _, rfl, ?_⟩
          have hrl := resL_length p q g.len
          have := guess_loop g x hx (wrap64 (r - rd p (x : Int))) y s (fun k hk => by
            rw [g6, place_some (resL p q) (res_nn g) (by have := res_sum g; have := kept_le g; omega) (by rw [hrl]; exact g.wp.len2) _ ?_ ?_ k hk, g7]
            · rw [g5]; have := pre_nonneg (resL p q) (res_nn g) y (by omega); omega
            · rw [g5]
              have := pre_le_sum (resL p q) (res_nn g) (y + 1) (by omega)
              have := pre_succ (resL p q) y (by omega)
              omega) x 0 k (by omega) (by omega) (by have := g.wp.len2; omega)
          rw [he]
          exact this
  · have e := errV_no g
    simp only [e, if_false]
    exact ⟨_, _, _, _, rfl, rfl⟩
end Go.Proofs.Ytldbdifdldmgfaa.Pure
end

section
namespace Go.Proofs.Ytldbdifdldmgfaa.Pure
open Go.RowKit Go.Proofs.Ytldbdifdldmgfaa.PAll Go.Proofs.Ytldbdifdldmgfaa.Math Go.Proofs.YtldbdifdldmgfaaW.PrintWords Go.Proofs.YtldbdifdldmgfaaW.PrintLast Go.Proofs.YtldbdifdldmgfaaW.PrintMore
set_option linter.unusedVariables false
set_option linter.unusedSimpArgs false
/-- What Guess tells of any input. -/
def gueV (p q : List Int) (u : Int) : Int × Int × Bool × Int :=
  if errV p q = 0 then (if u < 0 ∨ u ≥ p.sum then (0, 0, false, 241) else (couple_Guess.g p q (findL q 0 u).1 (findL q 0 u).2).getD (0, 0, false, 0)) else (0, 0, false, errV p q)
theorem cgue_some (p q : List Int) (u : Int) (k : Nat) (hk : 1300 < k) : couple_Guess.f k p q u = some (gueV p q u) := by
  obtain ⟨x, y, b, e, h, _⟩ := guess_both p q u k hk
  rw [h]
  unfold couple_Guess.f at h
  rw [both_err p q k (by omega)] at h
  simp only [Option.bind_some] at h
  unfold gueV
  by_cases c : errV p q = 0
  · simp only [if_pos c, if_true] at h ⊢
    by_cases d : u < 0 ∨ u ≥ p.sum
    · rw [if_pos d] at h ⊢
      exact h.symm
    · rw [if_neg d] at h ⊢
      rw [h]
      rfl
  · simp only [if_neg c] at h ⊢
    exact h.symm
section
variable (P Q : List (List Int)) (U : List Int)
def gAt (i : Nat) : Int × Int × Bool × Int := gueV (rd_L1 P (i : Int)) (rd_L1 Q (i : Int)) (rd U (i : Int))
def gS (i : Nat) : S26 := ⟨(gAt P Q U i).1, (gAt P Q U i).2.1, (gAt P Q U i).2.2.1⟩
/-- The tokens from place i on. -/
def outV (n : Nat) (last : Int) : Nat → Nat → List Int → List Int × Int × Int
  | 0, _, acc => (acc ++ [last], (n : Int), 0)
  | d + 1, i, acc => if (gAt P Q U i).2.2.1 = true then outV n last d (i + 1) (acc ++ [(gAt P Q U i).2.1]) else (acc ++ [(gAt P Q U i).2.1], (i : Int), 0)
def endV (n : Nat) : List Int × Int × Int := if (drawV (rd_L1 P (n : Int)) (rd U (n : Int))).2 = 0 then outV P Q U n (drawV (rd_L1 P (n : Int)) (rd U (n : Int))).1 n 0 [] else ([], 0, (drawV (rd_L1 P (n : Int)) (rd U (n : Int))).2)
/-- The first error from place i on, or the end. -/
def chkV (n : Nat) : Nat → Nat → List Int × Int × Int
  | 0, _ => endV P Q U n
  | d + 1, i => if (gAt P Q U i).2.2.2 = 0 then chkV n d (i + 1) else ([], 0, (gAt P Q U i).2.2.2)
section
variable (n : Nat) (hn : n ≤ 64) (hP : P.length = n + 1) (hQ : Q.length = n) (hU : U.length = n + 1)
include hn hP hQ hU
theorem c_out (gl : List S26) (hgl : gl.length = n) (hg : ∀ i : Nat, i < n → rd_T26 gl (i : Int) = gS P Q U i) (last : Int) : ∀ (d i : Nat) (acc : List Int) (k : Nat), d = n - i → i ≤ n → acc.length = i → d < k →
    couple_Chain.l1 k (n : Int) last acc gl (n : Int) (i : Int) = some (outV P Q U n last d i acc) := by
  intro d
  induction d with
  | zero =>
    intro i acc k hd hi ha hk
    obtain ⟨k, rfl⟩ : ∃ m, k = m + 1 := ⟨k - 1, by omega⟩
    simp only [couple_Chain.l1, outV]
    rw [if_neg (by omega), if_pos (by omega)]
  | succ d ih =>
    intro i acc k hd hi ha hk
    obtain ⟨k, rfl⟩ : ∃ m, k = m + 1 := ⟨k - 1, by omega⟩
    simp only [couple_Chain.l1, outV]
    rw [if_pos (by omega), if_pos (by omega), if_pos (by omega), if_pos (by omega), hg i (by omega)]
    simp only [Option.bind_some]
    show (if (gAt P Q U i).2.2.1 = true then couple_Chain.l1 k (n : Int) last (acc ++ [(gAt P Q U i).2.1]) gl (n : Int) (wrap64 ((i : Int) + 1)) else some (acc ++ [(gAt P Q U i).2.1], (i : Int), 0)) = _
    by_cases c : (gAt P Q U i).2.2.1 = true
    · rw [if_pos c, if_pos c, wrap_in (by omega) (by omega)]
      exact ih (i + 1) _ k (by omega) (by omega) (by simp; omega) (by omega)
    · rw [if_neg c, if_neg c]
theorem c_chk : ∀ (d i : Nat) (gl : List S26) (k : Nat), d = n - i → i ≤ n → gl.length = i → (∀ j : Nat, j < i → rd_T26 gl (j : Int) = gS P Q U j) → d + 1500 < k →
    couple_Chain.l0 k P Q U (n : Int) gl (n : Int) (i : Int) = some (chkV P Q U n d i) := by
  intro d
  induction d with
  | zero =>
    intro i gl k hd hi hl hg hk
    obtain ⟨k, rfl⟩ : ∃ m, k = m + 1 := ⟨k - 1, by omega⟩
    obtain rfl : i = n := by omega
    simp only [couple_Chain.l0, chkV, endV]
    rw [if_neg (by omega), if_pos (by omega), if_pos (by omega), if_pos (by omega), cdraw_some _ _ k (by omega)]
    simp only [Option.bind_some]
    by_cases c : (drawV (rd_L1 P (i : Int)) (rd U (i : Int))).2 = 0
    · rw [if_pos c, if_pos c, hl]
      exact c_out P Q U i hn hP hQ hU gl hl hg _ i 0 [] k (by omega) (by omega) rfl (by omega)
    · rw [if_neg c, if_neg c]
  | succ d ih =>
    intro i gl k hd hi hl hg hk
    obtain ⟨k, rfl⟩ : ∃ m, k = m + 1 := ⟨k - 1, by omega⟩
    simp only [couple_Chain.l0, chkV]
    rw [if_pos (by omega), if_pos (by omega), if_pos (by omega), if_pos (by omega), if_pos (by omega), cgue_some _ _ _ k (by omega)]
    simp only [Option.bind_some]
    show (if (gAt P Q U i).2.2.2 = 0 then _ else _) = _
    by_cases c : (gAt P Q U i).2.2.2 = 0
    · rw [if_pos c, if_pos c, if_pos (by omega), wrap_in (by omega) (by omega)]
      refine ih (i + 1) _ k (by omega) (by omega) (by simp; omega) (fun j hj => ?_) (by omega)
      by_cases e : j < i
      · rw [← hg j e]
        simp [rd_T26, List.getElem?_append_left (show j < gl.length by omega)]
      · obtain rfl : j = i := by omega
        simp [rd_T26, gS, gAt, hl]
    · rw [if_neg c, if_neg c]
      rfl
end
end
end Go.Proofs.Ytldbdifdldmgfaa.Pure
end

section
namespace Go.Proofs.Ytldbdifdldmgfaa.Pure
open Go.RowKit Go.Proofs.Ytldbdifdldmgfaa.PAll Go.Proofs.Ytldbdifdldmgfaa.Math Go.Proofs.YtldbdifdldmgfaaW.PrintWords Go.Proofs.YtldbdifdldmgfaaW.PrintLast Go.Proofs.YtldbdifdldmgfaaW.PrintMore
set_option linter.unusedVariables false
set_option linter.unusedSimpArgs false
/-- How many of the draws below u keep their guess, token by token. -/
def keptT (p q : List Int) (u : Int) : List Int := minL (cnt q u) (minL p q)
def lostN (p q : List Int) (u : Int) : Int := u - (keptT p q u).sum
def tok (p q : List Int) (u : Int) : List Int := List.zipWith (· + ·) (keptT p q u) (cnt (resL p q) (lostN p q u))
theorem plus_rd (a b : List Int) (h : a.length = b.length) (x : Nat) (hx : x < a.length) : rd (List.zipWith (· + ·) a b) (x : Int) = rd a (x : Int) + rd b (x : Int) := by
  have h1 : x < b.length := by omega
  simp [rd, List.getD_eq_getElem?_getD, List.getElem?_zipWith, hx, h1]
theorem sum_set (l : List Int) (x : Nat) (v : Int) (h : x < l.length) : (l.set x v).sum = l.sum - rd l (x : Int) + v := by
  induction l generalizing x with
  | nil => simp at h
  | cons a l ih =>
    cases x with
    | zero => simp [rd]; omega
    | succ x =>
      have := ih x (by simpa using h)
      have e : rd (a :: l) ((x + 1 : Nat) : Int) = rd l (x : Int) := by simp [rd]
      rw [e]
      simp only [List.set_cons_succ, List.sum_cons, this]
      omega
section
variable {p q : List Int} (g : Pair p q)
include g
theorem keptT_len (u : Int) : (keptT p q u).length = p.length := by
  have h1 := minL_length p q g.len
  have h2 := cnt_length q u
  have h3 := g.len
  unfold keptT
  rw [minL_length _ _ (by omega)]; omega
theorem keptT_rd (u : Int) (x : Nat) (hx : x < p.length) : rd (keptT p q u) (x : Int) = mn (rd (cnt q u) (x : Int)) (rd (minL p q) (x : Int)) := by
  have h1 := minL_length p q g.len
  have h2 := cnt_length q u
  have h3 := g.len
  unfold keptT
  exact minL_rd _ _ (by omega) x (by omega)
theorem min_range (x : Nat) (hx : x < p.length) : 0 ≤ rd (minL p q) (x : Int) ∧ rd (minL p q) (x : Int) ≤ rd p (x : Int) ∧ rd (minL p q) (x : Int) ≤ rd q (x : Int) := by
  have h1 := good_rd g.wp x hx
  have h2 := good_rd g.wq x (by have := g.len; omega)
  have h3 := mn_le (rd p (x : Int)) (rd q (x : Int))
  rw [minL_rd p q g.len x hx]
  rcases mn_or (rd p (x : Int)) (rd q (x : Int)) with e | e <;> omega
/-- The counts where u lies in x's stretch. -/
theorem cnt_at (u r : Int) (x : Nat) (hx : x < p.length) (h0 : 0 ≤ r) (h1 : r < rd q (x : Int)) (hu : u = pre q x + r) (y : Nat) (hy : y < p.length) :
    rd (cnt q u) (y : Int) = if y < x then rd q (y : Int) else if y = x then r else 0 := by
  have hl := g.len
  rw [cnt_rd q u y (by omega)]
  have a1 := pre_succ q y (by omega)
  have a2 := good_rd g.wq y (by omega)
  unfold within
  by_cases c : y < x
  · have := pre_le q (good_nn g.wq) (show y + 1 ≤ x by omega) (by omega)
    rw [if_pos c]
    split
    · omega
    · split <;> omega
  · rw [if_neg c]
    by_cases c2 : y = x
    · subst c2
      rw [if_pos rfl]
      split
      · omega
      · split <;> omega
    · have := pre_le q (good_nn g.wq) (show x + 1 ≤ y by omega) (by omega)
      have := pre_succ q x (by omega)
      rw [if_neg c2, if_pos (by omega)]
theorem keptT_at (u r : Int) (x : Nat) (hx : x < p.length) (h0 : 0 ≤ r) (h1 : r < rd q (x : Int)) (hu : u = pre q x + r) (y : Nat) (hy : y < p.length) :
    rd (keptT p q u) (y : Int) = if y < x then rd (minL p q) (y : Int) else if y = x then mn r (rd (minL p q) (x : Int)) else 0 := by
  have hm := min_range g y hy
  rw [keptT_rd g u y hy, cnt_at g u r x hx h0 h1 hu y hy]
  by_cases c : y < x
  · rw [if_pos c, if_pos c]
    unfold mn
    split <;> omega
  · rw [if_neg c, if_neg c]
    by_cases c2 : y = x
    · rw [if_pos c2, if_pos c2, c2]
    · rw [if_neg c2, if_neg c2]
      unfold mn
      split <;> omega
theorem kept_sum (u r : Int) (x : Nat) (hx : x < p.length) (h0 : 0 ≤ r) (h1 : r < rd q (x : Int)) (hu : u = pre q x + r) : (keptT p q u).sum = pre (minL p q) x + mn r (rd (minL p q) (x : Int)) := by
  have hml := minL_length p q g.len
  have hkl := keptT_len g u
  have low : ∀ n : Nat, n ≤ x → pre (keptT p q u) n = pre (minL p q) n := by
    intro n
    induction n with
    | zero => intro _; simp [pre_zero]
    | succ n ih =>
      intro hn
      rw [pre_succ _ n (by omega), pre_succ _ n (by omega), ih (by omega), keptT_at g u r x hx h0 h1 hu n (by omega), if_pos (by omega)]
  have high : ∀ n : Nat, x + 1 + n ≤ p.length → pre (keptT p q u) (x + 1 + n) = pre (minL p q) x + mn r (rd (minL p q) (x : Int)) := by
    intro n
    induction n with
    | zero =>
      intro hn
      rw [Nat.add_zero, pre_succ _ x (by omega), low x (Nat.le_refl _), keptT_at g u r x hx h0 h1 hu x hx, if_neg (by omega), if_pos rfl]
    | succ n ih =>
      intro hn
      rw [← Nat.add_assoc, pre_succ _ (x + 1 + n) (by omega), ih (by omega), keptT_at g u r x hx h0 h1 hu (x + 1 + n) (by omega), if_neg (by omega), if_neg (by omega)]
      omega
  have := high (p.length - (x + 1)) (by omega)
  rw [show x + 1 + (p.length - (x + 1)) = (keptT p q u).length from by omega, pre_all] at this
  exact this
theorem cnt_next (u r : Int) (x : Nat) (hx : x < p.length) (h0 : 0 ≤ r) (h1 : r < rd q (x : Int)) (hu : u = pre q x + r) : cnt q (u + 1) = (cnt q u).set x (r + 1) := by
  rw [cnt_step q (good_nn g.wq) u r x (by have := g.len; omega) h0 h1 hu, cnt_at g u r x hx h0 h1 hu x hx, if_neg (by omega), if_pos rfl]
theorem keptT_next (u r : Int) (x : Nat) (hx : x < p.length) (h0 : 0 ≤ r) (h1 : r < rd q (x : Int)) (hu : u = pre q x + r) :
    keptT p q (u + 1) = if r < rd (minL p q) (x : Int) then (keptT p q u).set x (rd (keptT p q u) (x : Int) + 1) else keptT p q u := by
  have hkl := keptT_len g u
  have hkl1 := keptT_len g (u + 1)
  have hl := g.len
  have hcl := cnt_length q u
  have hkx := keptT_at g u r x hx h0 h1 hu x hx
  rw [if_neg (by omega), if_pos rfl] at hkx
  have hm := mn_le r (rd (minL p q) (x : Int))
  have hm2 := mn_or r (rd (minL p q) (x : Int))
  by_cases c : r < rd (minL p q) (x : Int)
  · rw [if_pos c]
    refine list_ext_rd (by simp; omega) fun y hy => ?_
    rw [keptT_rd g (u + 1) y (by omega), cnt_next g u r x hx h0 h1 hu]
    by_cases e : x = y
    · subst e
      rw [rd_set_same _ _ _ (by omega), rd_set_same _ _ _ (by omega), hkx]
      unfold mn
      split <;> split <;> omega
    · rw [rd_set_other _ _ _ _ (by omega) e, rd_set_other _ _ _ _ (by omega) e, keptT_rd g u y (by omega)]
  · rw [if_neg c]
    refine list_ext_rd (by omega) fun y hy => ?_
    rw [keptT_rd g (u + 1) y (by omega), cnt_next g u r x hx h0 h1 hu]
    by_cases e : x = y
    · subst e
      rw [rd_set_same _ _ _ (by omega), hkx]
      unfold mn
      split <;> split <;> omega
    · rw [rd_set_other _ _ _ _ (by omega) e, keptT_rd g u y (by omega)]
theorem tok_len (u : Int) : (tok p q u).length = p.length := by
  have h1 := keptT_len g u
  have h2 := cnt_length (resL p q) (lostN p q u)
  have h3 := resL_length p q g.len
  unfold tok
  rw [List.length_zipWith]; omega
theorem tok_rd (u : Int) (y : Nat) (hy : y < p.length) : rd (tok p q u) (y : Int) = rd (keptT p q u) (y : Int) + rd (cnt (resL p q) (lostN p q u)) (y : Int) := by
  have h1 := keptT_len g u
  have h2 := cnt_length (resL p q) (lostN p q u)
  have h3 := resL_length p q g.len
  unfold tok
  exact plus_rd _ _ (by omega) y (by omega)
/-- One draw more: kept. -/
theorem next_kept (u r : Int) (x : Nat) (hx : x < p.length) (h0 : 0 ≤ r) (h1 : r < rd q (x : Int)) (hu : u = pre q x + r) (c : r < rd (minL p q) (x : Int)) :
    tok p q (u + 1) = (tok p q u).set x (rd (tok p q u) (x : Int) + 1) ∧ (keptT p q (u + 1)).sum = (keptT p q u).sum + 1 := by
  have hkl := keptT_len g u
  have hn := keptT_next g u r x hx h0 h1 hu
  rw [if_pos c] at hn
  have hs : (keptT p q (u + 1)).sum = (keptT p q u).sum + 1 := by rw [hn, sum_set _ _ _ (by omega)]; omega
  have hl : lostN p q (u + 1) = lostN p q u := by unfold lostN; omega
  refine ⟨?_, hs⟩
  have t1 := tok_len g u
  have t2 := tok_len g (u + 1)
  refine list_ext_rd (by simp; omega) fun y hy => ?_
  rw [tok_rd g (u + 1) y (by omega), hl, hn]
  by_cases e : x = y
  · subst e
    rw [rd_set_same _ _ _ (by omega), rd_set_same _ _ _ (by omega), tok_rd g u x hx]
    omega
  · rw [rd_set_other _ _ _ _ (by omega) e, rd_set_other _ _ _ _ (by omega) e, tok_rd g u y (by omega)]
/-- One draw more: lost. -/
theorem next_lost (u r : Int) (x : Nat) (hx : x < p.length) (h0 : 0 ≤ r) (h1 : r < rd q (x : Int)) (hu : u = pre q x + r) (c : ¬ r < rd (minL p q) (x : Int))
    (y : Nat) (s : Int) (hy : y < p.length) (s0 : 0 ≤ s) (s1 : s < rd (resL p q) (y : Int)) (hv : lostN p q u = pre (resL p q) y + s) :
    tok p q (u + 1) = (tok p q u).set y (rd (tok p q u) (y : Int) + 1) ∧ (keptT p q (u + 1)).sum = (keptT p q u).sum := by
  have hkl := keptT_len g u
  have hrl := resL_length p q g.len
  have hn := keptT_next g u r x hx h0 h1 hu
  rw [if_neg c] at hn
  have hs : (keptT p q (u + 1)).sum = (keptT p q u).sum := by rw [hn]
  have hl : lostN p q (u + 1) = lostN p q u + 1 := by unfold lostN; omega
  refine ⟨?_, hs⟩
  have t1 := tok_len g u
  have t2 := tok_len g (u + 1)
  have hc := cnt_step (resL p q) (res_nn g) (lostN p q u) s y (by omega) s0 s1 hv
  have hcl := cnt_length (resL p q) (lostN p q u)
  refine list_ext_rd (by simp; omega) fun z hz => ?_
  rw [tok_rd g (u + 1) z (by omega), hl, hn, hc]
  by_cases e : y = z
  · subst e
    rw [rd_set_same _ _ _ (by omega), rd_set_same _ _ _ (by omega), tok_rd g u y hy]
    omega
  · rw [rd_set_other _ _ _ _ (by omega) e, rd_set_other _ _ _ _ (by omega) e, tok_rd g u z (by omega)]
theorem lost_is (u r : Int) (x : Nat) (hx : x < p.length) (h0 : 0 ≤ r) (h1 : r < rd q (x : Int)) (hu : u = pre q x + r) (c : ¬ r < rd (minL p q) (x : Int)) (he : rd (minL p q) (x : Int) = rd p (x : Int)) :
    lostN p q u = r - rd p (x : Int) + (pre q x - pre (minL p q) x) := by
  have hs := kept_sum g u r x hx h0 h1 hu
  have : mn r (rd (minL p q) (x : Int)) = rd (minL p q) (x : Int) := by unfold mn; split <;> omega
  unfold lostN
  omega
theorem kept_zero : (keptT p q 0).sum = 0 ∧ keptT p q 0 = List.replicate p.length 0 := by
  have e : keptT p q 0 = List.replicate p.length 0 := by
    have h1 := keptT_len g 0
    refine list_ext_rd (by simp; omega) fun y hy => ?_
    have hm := min_range g y (by omega)
    rw [keptT_rd g 0 y (by omega), cnt_zero q (good_nn g.wq)]
    have e1 : ∀ n : Nat, y < n → rd (List.replicate n (0 : Int)) (y : Int) = 0 := fun n hn => by simp [rd, List.getD_eq_getElem?_getD, List.getElem?_replicate, hn]
    rw [e1 _ (by have := g.len; omega), e1 _ (by omega)]
    unfold mn
    split <;> omega
  rw [e]
  exact ⟨by induction p.length <;> simp_all [List.replicate_succ], rfl⟩
theorem tok_zero : tok p q 0 = List.replicate p.length 0 := by
  obtain ⟨h1, h2⟩ := kept_zero g
  have t1 := tok_len g 0
  have hrl := resL_length p q g.len
  refine list_ext_rd (by simp; omega) fun y hy => ?_
  have hl : lostN p q 0 = 0 := by unfold lostN; omega
  rw [tok_rd g 0 y (by omega), hl, h2, cnt_zero _ (res_nn g)]
  have e1 : ∀ n : Nat, y < n → rd (List.replicate n (0 : Int)) (y : Int) = 0 := fun n hn => by simp [rd, List.getD_eq_getElem?_getD, List.getElem?_replicate, hn]
  rw [e1 _ (by omega), e1 _ (by omega)]
  rfl
theorem kept_all : keptT p q p.sum = minL p q := by
  have h1 := keptT_len g p.sum
  have hml := minL_length p q g.len
  refine list_ext_rd (by omega) fun y hy => ?_
  have hm := min_range g y (by omega)
  rw [keptT_rd g _ y (by omega), g.same, cnt_all q (good_nn g.wq)]
  unfold mn
  split <;> omega
theorem tok_all : tok p q p.sum = p := by
  have t1 := tok_len g p.sum
  have hrs := res_sum g
  have hl : lostN p q p.sum = (resL p q).sum := by unfold lostN; rw [kept_all g]; omega
  refine list_ext_rd (by omega) fun y hy => ?_
  have := res_rd g y (by omega)
  rw [tok_rd g _ y (by omega), hl, kept_all g, cnt_all _ (res_nn g), minL_rd p q g.len y (by omega)]
  omega
end
end Go.Proofs.Ytldbdifdldmgfaa.Pure
end

section
namespace Go.Proofs.Ytldbdifdldmgfaa.Pure
open Go.RowKit Go.Proofs.Ytldbdifdldmgfaa.PAll Go.Proofs.Ytldbdifdldmgfaa.Math Go.Proofs.YtldbdifdldmgfaaW.PrintWords Go.Proofs.YtldbdifdldmgfaaW.PrintLast Go.Proofs.YtldbdifdldmgfaaW.PrintMore
set_option linter.unusedVariables false
set_option linter.unusedSimpArgs false
/-- The sum of f over the first i. -/
def sm (f : Nat → Int) : Nat → Int
  | 0 => 0
  | i + 1 => sm f i + f i
theorem sm_congr {f g : Nat → Int} : ∀ i, (∀ t, t < i → f t = g t) → sm f i = sm g i
  | 0, _ => rfl
  | i + 1, h => by simp only [sm]; rw [sm_congr i (fun t ht => h t (by omega)), h i (by omega)]
theorem sm_mul (c : Int) (f : Nat → Int) : ∀ i, sm (fun t => c * f t) i = c * sm f i
  | 0 => by simp [sm]
  | i + 1 => by simp only [sm]; rw [sm_mul c f i, Int.mul_add]
theorem sm_const (c : Int) : ∀ i : Nat, sm (fun _ => c) i = i * c
  | 0 => by simp [sm]
  | i + 1 => by simp only [sm]; rw [sm_const c i, Int.natCast_succ, Int.add_mul, Int.one_mul]
theorem sm_add (f : Nat → Int) (a : Nat) : ∀ b, sm f (a + b) = sm f a + sm (fun t => f (a + t)) b
  | 0 => by simp [sm]
  | b + 1 => by rw [← Nat.add_assoc]; simp only [sm]; rw [sm_add f a b]; omega
/-- Numbers below s times m: their last digit first. -/
theorem sm_plus (f g : Nat → Int) : ∀ i, sm (fun t => f t + g t) i = sm f i + sm g i
  | 0 => rfl
  | i + 1 => by simp only [sm]; rw [sm_plus f g i]; omega
theorem sm_swap (s : Nat) (h : Nat → Nat → Int) : ∀ m, sm (fun w => sm (fun u => h u w) s) m = sm (fun u => sm (fun w => h u w) m) s
  | 0 => by
    have : sm (fun u => sm (fun w => h u w) 0) s = sm (fun _ => 0) s := rfl
    rw [this, sm_const]; simp [sm]
  | m + 1 => by
    have e : sm (fun u => sm (fun w => h u w) (m + 1)) s = sm (fun u => sm (fun w => h u w) m + h u m) s := rfl
    rw [e, sm_plus, ← sm_swap s h m]; rfl
theorem sm_digits (s : Nat) (hs : 0 < s) (h : Nat → Nat → Int) : ∀ m, sm (fun v => h (v % s) (v / s)) (m * s) = sm (fun u => sm (fun w => h u w) m) s := by
  intro m
  rw [← sm_swap]
  induction m with
  | zero => rw [Nat.zero_mul]; rfl
  | succ m ih =>
    rw [Nat.succ_mul, sm_add, ih]
    simp only [sm]
    congr 1
    refine sm_congr s (fun t ht => ?_)
    have e1 : (m * s + t) % s = t := by rw [Nat.mul_comm, Nat.mul_add_mod, Nat.mod_eq_of_lt ht]
    have e2 : (m * s + t) / s = m := by rw [Nat.mul_comm, Nat.mul_add_div hs, Nat.div_eq_of_lt ht, Nat.add_zero]
    rw [e1, e2]
theorem guess_step {p q : List Int} (g : Pair p q) (u : Int) (h0 : 0 ≤ u) (h1 : u < p.sum) : ∃ (x y : Nat) (b : Bool), y < p.length ∧ gueV p q u = ((x : Int), (y : Int), b, 0) ∧ tok p q (u + 1) = (tok p q u).set y (rd (tok p q u) (y : Int) + 1) := by
  obtain ⟨x, r, hx, h3, h4, h5, hf, hc⟩ := guess_tells g u h0 h1
  have hG : gueV p q u = (couple_Guess.g p q (x : Int) r).getD (0, 0, false, 0) := by
    unfold gueV
    rw [if_pos (errV_pair g), if_neg (by omega), hf]
  have hmr := minL_rd p q g.len x hx
  rcases hc with ⟨c3, hg⟩ | ⟨c3, he, y, s, g2, g3, g4, g5, g6, g7, hg⟩
  · obtain ⟨n1, n2⟩ := next_kept g u r x hx h3 h4 h5 (by rw [hmr]; exact c3)
    exact ⟨x, x, true, hx, by rw [hG, hg]; rfl, n1⟩
  · have hv := lost_is g u r x hx h3 h4 h5 (by rw [hmr]; omega) (by rw [hmr]; exact he)
    obtain ⟨n1, n2⟩ := next_lost g u r x hx h3 h4 h5 (by rw [hmr]; omega) y s g2 g3 g4 (by omega)
    exact ⟨x, y, false, g2, by rw [hG, hg]; rfl, n1⟩
theorem guess_count {p q : List Int} (g : Pair p q) (t : Nat) (ht : t < p.length) : ∀ m : Nat, (m : Int) ≤ p.sum → sm (fun u => if (gueV p q (u : Int)).2.1 = (t : Int) then 1 else 0) m = rd (tok p q (m : Int)) (t : Int)
  | 0, _ => by
    have := tok_zero g
    rw [show ((0 : Nat) : Int) = 0 from rfl, this]
    simp [sm, rd, List.getD_eq_getElem?_getD, ht]
  | m + 1, h => by
    obtain ⟨x, y, b, hy, e1, e2⟩ := guess_step g (m : Int) (by omega) (by omega)
    simp only [sm]
    have tl := tok_len g (m : Int)
    rw [guess_count g t ht m (by omega), e1, show ((m + 1 : Nat) : Int) = (m : Int) + 1 by omega, e2]
    by_cases e : y = t
    · subst e
      rw [rd_set_same _ _ _ (by omega), if_pos rfl]
    · rw [rd_set_other _ _ _ _ (by omega) e, if_neg (by intro h; have h' : (y : Int) = (t : Int) := h; exact e (by omega))]
      omega
theorem draw_step {l : List Int} (h : IsWts l) (u : Int) (h0 : 0 ≤ u) (h1 : u < l.sum) : ∃ y : Nat, y < l.length ∧ drawV l u = ((y : Int), 0) ∧ cnt l (u + 1) = (cnt l u).set y (rd (cnt l u) (y : Int) + 1) := by
  obtain ⟨y, r, hf, hy, h3, h4, h5⟩ := findL_tells l (good_nn h) (good_sum h).2 u h0 h1
  have hc := cnt_step l (good_nn h) u r y (by omega) h3 h4 h5
  refine ⟨y, by omega, ?_, ?_⟩
  · unfold drawV
    rw [if_pos h, if_neg (by omega), hf]
  · exact hc
theorem draw_count {l : List Int} (h : IsWts l) (t : Nat) (ht : t < l.length) : ∀ m : Nat, (m : Int) ≤ l.sum → sm (fun u => if (drawV l (u : Int)).1 = (t : Int) then 1 else 0) m = rd (cnt l (m : Int)) (t : Int)
  | 0, _ => by
    rw [show ((0 : Nat) : Int) = 0 from rfl, cnt_zero l (good_nn h)]
    simp [sm, rd, List.getD_eq_getElem?_getD, ht]
  | m + 1, hm => by
    obtain ⟨y, hy, e1, e2⟩ := draw_step h (m : Int) (by omega) (by omega)
    simp only [sm]
    have cl := cnt_length l (m : Int)
    rw [draw_count h t ht m (by omega), e1, show ((m + 1 : Nat) : Int) = (m : Int) + 1 by omega, e2]
    by_cases e : y = t
    · subst e
      rw [rd_set_same _ _ _ (by omega), if_pos rfl]
    · rw [rd_set_other _ _ _ _ (by omega) e, if_neg (by intro h; have h' : (y : Int) = (t : Int) := h; exact e (by omega))]
      omega
end Go.Proofs.Ytldbdifdldmgfaa.Pure
end

section
namespace Go.Proofs.Ytldbdifdldmgfaa.Pure
open Go.RowKit Go.Proofs.Ytldbdifdldmgfaa.PAll Go.Proofs.Ytldbdifdldmgfaa.Math Go.Proofs.YtldbdifdldmgfaaW.PrintWords Go.Proofs.YtldbdifdldmgfaaW.PrintLast Go.Proofs.YtldbdifdldmgfaaW.PrintMore
set_option linter.unusedVariables false
set_option linter.unusedSimpArgs false
structure OkR (P Q : List (List Int)) (n s L : Nat) : Prop where
  lp : P.length = n + 1
  lq : Q.length = n
  pair : ∀ i : Nat, i < n → Pair (rd_L1 P (i : Int)) (rd_L1 Q (i : Int))
  wts : ∀ i : Nat, i ≤ n → IsWts (rd_L1 P (i : Int)) ∧ (rd_L1 P (i : Int)).sum = (s : Int) ∧ (rd_L1 P (i : Int)).length = L
section
variable (P Q : List (List Int)) (s : Nat)
/-- The row of tokens from place i on, of the digits of w. -/
def rowD : Nat → Nat → Nat → List Int
  | 0, i, w => [(drawV (rd_L1 P (i : Int)) ((w % s : Nat) : Int)).1]
  | d + 1, i, w => if (gueV (rd_L1 P (i : Int)) (rd_L1 Q (i : Int)) ((w % s : Nat) : Int)).2.2.1 = true then (gueV (rd_L1 P (i : Int)) (rd_L1 Q (i : Int)) ((w % s : Nat) : Int)).2.1 :: rowD d (i + 1) (w / s)
    else [(gueV (rd_L1 P (i : Int)) (rd_L1 Q (i : Int)) ((w % s : Nat) : Int)).2.1]
/-- What a row weighs towards a beginning. -/
def FF : Nat → List Int → List Int → Int
  | _, [], _ => 1
  | i, t :: b, [] => rd (rd_L1 P (i : Int)) t * FF (i + 1) b []
  | i, t :: b, x :: r => if x = t then (s : Int) * FF (i + 1) b r else 0
variable {P Q s} {n L : Nat} (h : OkR P Q n s L)
include h
theorem s_pos : 0 < s := by
  have h1 := h.wts 0 (by omega)
  have := good_sum h1.1
  omega
theorem FF_sum : ∀ (d i : Nat) (b : List Int), i + d = n → b.length ≤ d + 1 → (∀ t ∈ b, 0 ≤ t ∧ t < (L : Int)) → sm (fun w => FF P s i b (rowD P Q s d i w)) (s ^ (d + 1)) = (s : Int) ^ (d + 1) * FF P s i b [] := by
  have hs := s_pos h
  intro d
  induction d with
  | zero =>
    intro i b hi hb hr
    cases b with
    | nil =>
      have e : sm (fun w => FF P s i [] (rowD P Q s 0 i w)) (s ^ (0 + 1)) = sm (fun _ => 1) (s ^ (0 + 1)) := sm_congr _ (fun t _ => by simp [FF])
      rw [e, sm_const]
      simp [FF, Int.pow_succ]
    | cons t b =>
      have hb0 : b = [] := by simpa using hb
      subst hb0
      obtain ⟨h1, h2, h3⟩ := h.wts i (by omega)
      obtain ⟨t0, t1⟩ := hr t (by simp)
      obtain ⟨t, rfl⟩ := Int.eq_ofNat_of_zero_le t0
      have e : sm (fun w => FF P s i [(t : Int)] (rowD P Q s 0 i w)) (s ^ (0 + 1)) = sm (fun u => (s : Int) * (if (drawV (rd_L1 P (i : Int)) (u : Int)).1 = (t : Int) then 1 else 0)) s := by
        rw [show s ^ (0 + 1) = s by simp]
        refine sm_congr s (fun u hu => ?_)
        simp only [rowD, Nat.mod_eq_of_lt hu, FF]
        split <;> simp
      rw [e, sm_mul, draw_count h1 t (by omega) s (by omega), ← h2, cnt_all _ (good_nn h1)]
      simp [FF, h2, Int.pow_succ]
  | succ d ih =>
    intro i b hi hb hr
    cases b with
    | nil =>
      have e : sm (fun w => FF P s i [] (rowD P Q s (d + 1) i w)) (s ^ (d + 1 + 1)) = sm (fun _ => 1) (s ^ (d + 1 + 1)) := sm_congr _ (fun t _ => by simp [FF])
      rw [e, sm_const]
      simp [FF]
    | cons t b =>
      obtain ⟨h1, h2, h3⟩ := h.wts i (by omega)
      have g := h.pair i (by omega)
      obtain ⟨t0, t1⟩ := hr t (by simp)
      obtain ⟨t, rfl⟩ := Int.eq_ofNat_of_zero_le t0
      have hih := ih (i + 1) b (by omega) (by simp at hb; omega) (fun x hx => hr x (by simp [hx]))
      let H : Nat → Nat → Int := fun u w => FF P s i ((t : Int) :: b) (if (gueV (rd_L1 P (i : Int)) (rd_L1 Q (i : Int)) (u : Int)).2.2.1 = true then (gueV (rd_L1 P (i : Int)) (rd_L1 Q (i : Int)) (u : Int)).2.1 :: rowD P Q s d (i + 1) w else [(gueV (rd_L1 P (i : Int)) (rd_L1 Q (i : Int)) (u : Int)).2.1])
      have e : sm (fun w => FF P s i ((t : Int) :: b) (rowD P Q s (d + 1) i w)) (s ^ (d + 1 + 1)) = sm (fun v => H (v % s) (v / s)) (s ^ (d + 1) * s) := by
        rw [Nat.pow_succ]
        exact sm_congr _ (fun v _ => rfl)
      rw [e, sm_digits s hs H]
      have e2 : sm (fun u => sm (fun w => H u w) (s ^ (d + 1))) s = sm (fun u => ((s : Int) * ((s : Int) ^ (d + 1) * FF P s (i + 1) b [])) * (if (gueV (rd_L1 P (i : Int)) (rd_L1 Q (i : Int)) (u : Int)).2.1 = (t : Int) then 1 else 0)) s := by
        refine sm_congr s (fun u hu => ?_)
        show sm (fun w => H u w) (s ^ (d + 1)) = _
        by_cases c : (gueV (rd_L1 P (i : Int)) (rd_L1 Q (i : Int)) (u : Int)).2.1 = (t : Int)
        · rw [if_pos c, Int.mul_one]
          by_cases k : (gueV (rd_L1 P (i : Int)) (rd_L1 Q (i : Int)) (u : Int)).2.2.1 = true
          · have e3 : sm (fun w => H u w) (s ^ (d + 1)) = sm (fun w => (s : Int) * FF P s (i + 1) b (rowD P Q s d (i + 1) w)) (s ^ (d + 1)) :=
              sm_congr _ (fun w _ => by simp only [H, if_pos k, FF, if_pos c])
            rw [e3, sm_mul, hih]
          · have e3 : sm (fun w => H u w) (s ^ (d + 1)) = sm (fun w => (s : Int) * FF P s (i + 1) b []) (s ^ (d + 1)) :=
              sm_congr _ (fun w _ => by simp only [H, if_neg k, FF, if_pos c])
            rw [e3, sm_const]
            push_cast
            rw [← Int.mul_assoc, ← Int.mul_assoc, Int.mul_comm ((s : Int) ^ (d + 1))]
        · rw [if_neg c, Int.mul_zero]
          have e3 : sm (fun w => H u w) (s ^ (d + 1)) = sm (fun w => 0) (s ^ (d + 1)) :=
            sm_congr _ (fun w _ => by
              by_cases k : (gueV (rd_L1 P (i : Int)) (rd_L1 Q (i : Int)) (u : Int)).2.2.1 = true
              · simp only [H, if_pos k, FF, if_neg c]
              · simp only [H, if_neg k, FF, if_neg c])
          rw [e3, sm_const, Int.mul_zero]
      rw [e2, sm_mul, guess_count g t (by omega) s (by omega), ← h2, tok_all g, h2]
      simp only [FF]
      rw [Int.pow_succ (s : Int) (d + 1)]
      rw [Int.mul_comm ((s : Int) ^ (d + 1)) (s : Int), Int.mul_assoc, Int.mul_assoc, Int.mul_assoc, Int.mul_comm (FF P s (i + 1) b []) (rd (rd_L1 P (i : Int)) (t : Int))]
end
end Go.Proofs.Ytldbdifdldmgfaa.Pure
end

section
namespace Go.Proofs.Ytldbdifdldmgfaa.Pure
open Go.RowKit Go.Proofs.Ytldbdifdldmgfaa.PAll Go.Proofs.Ytldbdifdldmgfaa.Math Go.Proofs.YtldbdifdldmgfaaW.PrintWords Go.Proofs.YtldbdifdldmgfaaW.PrintLast Go.Proofs.YtldbdifdldmgfaaW.PrintMore
set_option linter.unusedVariables false
set_option linter.unusedSimpArgs false
def dgs (s m v : Nat) : List Int := (List.range m).map fun i => ((v / s ^ i % s : Nat) : Int)
theorem dgs_len (s m v : Nat) : (dgs s m v).length = m := by simp [dgs]
theorem dgs_rd (s m v i : Nat) (h : i < m) : rd (dgs s m v) (i : Int) = ((v / s ^ i % s : Nat) : Int) := by simp [rd, dgs, List.getD_eq_getElem?_getD, h]
theorem dgs_succ (s m v : Nat) : dgs s (m + 1) v = dgs s m v ++ [((v / s ^ m % s : Nat) : Int)] := by
  unfold dgs; rw [List.range_succ, List.map_append]; rfl
section
variable {P Q : List (List Int)} {s n L : Nat} (h : OkR P Q n s L) (hn : n ≤ 64)
include h
theorem digit_in (v i : Nat) : 0 ≤ ((v / s ^ i % s : Nat) : Int) ∧ ((v / s ^ i % s : Nat) : Int) < (s : Int) := by
  have := Nat.mod_lt (v / s ^ i) (s_pos h)
  omega
theorem guess_ok (v i : Nat) (hi : i < n) : ∃ (x y : Nat) (b : Bool), y < L ∧ gueV (rd_L1 P (i : Int)) (rd_L1 Q (i : Int)) ((v / s ^ i % s : Nat) : Int) = ((x : Int), (y : Int), b, 0) := by
  obtain ⟨a, b⟩ := digit_in h v i
  obtain ⟨h1, h2, h3⟩ := h.wts i (by omega)
  obtain ⟨x, y, b', hy, e, _⟩ := guess_step (h.pair i hi) _ a (by rw [h2]; exact b)
  exact ⟨x, y, b', by omega, e⟩
theorem draw_ok (v i : Nat) (hi : i ≤ n) : ∃ y : Nat, y < L ∧ drawV (rd_L1 P (i : Int)) ((v / s ^ i % s : Nat) : Int) = ((y : Int), 0) := by
  obtain ⟨a, b⟩ := digit_in h v i
  obtain ⟨h1, h2, h3⟩ := h.wts i hi
  obtain ⟨y, hy, e, _⟩ := draw_step h1 _ a (by rw [h2]; exact b)
  exact ⟨y, by omega, e⟩
theorem rowD_in (v : Nat) : ∀ (d i : Nat), i + d = n → 1 ≤ (rowD P Q s d i (v / s ^ i)).length ∧ (rowD P Q s d i (v / s ^ i)).length ≤ d + 1 ∧ ∀ t ∈ rowD P Q s d i (v / s ^ i), 0 ≤ t ∧ t < (L : Int) := by
  intro d
  induction d with
  | zero =>
    intro i hi
    obtain ⟨y, hy, e⟩ := draw_ok h v i (by omega)
    simp only [rowD, e]
    exact ⟨by simp, by simp, by intro t ht; obtain rfl : t = (y : Int) := (by simpa using ht); omega⟩
  | succ d ih =>
    intro i hi
    obtain ⟨x, y, b, hy, e⟩ := guess_ok h v i (by omega)
    have hw : v / s ^ i / s = v / s ^ (i + 1) := by rw [Nat.div_div_eq_div_mul, Nat.pow_succ]
    obtain ⟨a1, a2, a3⟩ := ih (i + 1) (by omega)
    simp only [rowD, e, hw]
    cases b with
    | true =>
      rw [if_pos rfl]
      refine ⟨by simp, by simp; omega, ?_⟩
      intro t ht
      rcases List.mem_cons.1 ht with rfl | ht
      · omega
      · exact a3 t ht
    | false =>
      rw [if_neg (by simp)]
      exact ⟨by simp, by simp, by intro t ht; obtain rfl : t = (y : Int) := (by simpa using ht); omega⟩
theorem out_row (v : Nat) : ∀ (d i : Nat) (acc : List Int), i + d = n → acc.length = i →
    outV P Q (dgs s (n + 1) v) n (drawV (rd_L1 P (n : Int)) (rd (dgs s (n + 1) v) (n : Int))).1 d i acc = (acc ++ rowD P Q s d i (v / s ^ i), ((acc.length + (rowD P Q s d i (v / s ^ i)).length : Nat) : Int) - 1, 0) := by
  intro d
  induction d with
  | zero =>
    intro i acc hi ha
    obtain rfl : i = n := by omega
    simp only [outV, rowD, dgs_rd s (i + 1) v i (by omega), List.length_singleton]
    rw [ha]
    congr 2
    omega
  | succ d ih =>
    intro i acc hi ha
    have hw : v / s ^ i / s = v / s ^ (i + 1) := by rw [Nat.div_div_eq_div_mul, Nat.pow_succ]
    simp only [outV, rowD, gAt, dgs_rd s (n + 1) v i (by omega), hw]
    split
    · rw [ih (i + 1) _ (by omega) (by simp; omega)]
      simp only [List.append_assoc, List.singleton_append, List.length_append, List.length_cons, List.length_nil]
      congr 2
      omega
    · simp only [List.length_singleton]
      rw [ha]
      congr 2
      omega
theorem chk_row (v : Nat) : ∀ (d i : Nat), i + d = n → chkV P Q (dgs s (n + 1) v) n d i = (rowD P Q s n 0 v, ((rowD P Q s n 0 v).length : Int) - 1, 0) := by
  intro d
  induction d with
  | zero =>
    intro i hi
    obtain ⟨y, hy, e⟩ := draw_ok h v n (by omega)
    have := out_row h v n 0 [] (by omega) rfl
    simp only [List.nil_append, List.length_nil, Nat.zero_add, Nat.pow_zero, Nat.div_one] at this
    unfold chkV endV
    rw [if_pos (by rw [dgs_rd s (n + 1) v n (by omega), e]), this]
  | succ d ih =>
    intro i hi
    obtain ⟨x, y, b, hy, e⟩ := guess_ok h v i (by omega)
    unfold chkV
    rw [if_pos (by unfold gAt; rw [dgs_rd s (n + 1) v i (by omega), e])]
    exact ih (i + 1) (by omega)
include hn
theorem chain_row (v k : Nat) (hk : 2000 < k) : couple_Chain.f k P Q (dgs s (n + 1) v) = some (rowD P Q s n 0 v, ((rowD P Q s n 0 v).length : Int) - 1, 0) := by
  obtain ⟨k, rfl⟩ : ∃ m, k = m + 1 := ⟨k - 1, by omega⟩
  have hlp := h.lp
  have hlq := h.lq
  have hlu := dgs_len s (n + 1) v
  unfold couple_Chain.f
  rw [wrap_in (by omega) (by omega), if_pos (by omega), if_pos (by omega), decide_eq_false (by omega)]
  simp only [couple_Chain.j0, Bool.false_eq_true, if_false]
  rw [hlq]
  have := c_chk P Q (dgs s (n + 1) v) n (by omega) hlp hlq hlu n 0 [] k (by omega) (by omega) rfl (fun j hj => absurd hj (by omega)) (by omega)
  rw [chk_row h v n 0 (by omega)] at this
  exact this
end
end Go.Proofs.Ytldbdifdldmgfaa.Pure
end

section
namespace Go.Proofs.Ytldbdifdldmgfaa.Pure
open Go.RowKit Go.Proofs.Ytldbdifdldmgfaa.PAll Go.Proofs.Ytldbdifdldmgfaa.Math Go.Proofs.YtldbdifdldmgfaaW.PrintWords Go.Proofs.YtldbdifdldmgfaaW.PrintLast Go.Proofs.YtldbdifdldmgfaaW.PrintMore
set_option linter.unusedVariables false
set_option linter.unusedSimpArgs false
theorem tok_alike_loop (a b : List Int) (hab : a.length = b.length) (hm : a.length ≤ maxLen) : ∀ (n i : Nat) (k : Nat), n = a.length - i → i ≤ a.length → n < k →
    heraldlaw24_alike.l0 k a b (a.length : Int) (i : Int) = some (decide (a.drop i = b.drop i)) := by
  unfold maxLen at hm
  intro n
  induction n with
  | zero =>
    intro i k hn hi hk
    obtain ⟨k, rfl⟩ : ∃ m, k = m + 1 := ⟨k - 1, by omega⟩
    obtain rfl : i = a.length := by omega
    simp only [heraldlaw24_alike.l0]
    rw [if_neg (by omega)]
    simp [hab]
  | succ n ih =>
    intro i k hn hi hk
    obtain ⟨k, rfl⟩ : ∃ m, k = m + 1 := ⟨k - 1, by omega⟩
    simp only [heraldlaw24_alike.l0]
    rw [if_pos (by omega), if_pos (by omega), if_pos (by omega), if_pos (by omega), drop_cons a i (by omega), drop_cons b i (by omega)]
    by_cases c : rd a (i : Int) = rd b (i : Int)
    · rw [if_pos c, wrap_in (by omega) (by omega), show (i : Int) + 1 = ((i + 1 : Nat) : Int) from by push_cast; rfl, ih (i + 1) k (by omega) (by omega) (by omega)]
      simp [c]
    · rw [if_neg c]
      simp [c]
theorem tok_alike (a b : List Int) (hm : a.length ≤ maxLen) (k : Nat) (hk : a.length < k) : heraldlaw24_alike.f k a b = some (decide (a = b)) := by
  unfold heraldlaw24_alike.f
  by_cases h : (a.length : Int) = (b.length : Int)
  · rw [if_pos h, show (0 : Int) = ((0 : Nat) : Int) from rfl, tok_alike_loop a b (by omega) hm a.length 0 k (by omega) (by omega) hk]
    simp
  · rw [if_neg h]
    have : a ≠ b := fun e => h (by rw [e])
    simp [this]
theorem FF_long (P : List (List Int)) (s : Nat) : ∀ (b r : List Int) (i : Nat), b.length ≤ r.length → (r.take b.length = b → FF P s i b r = (s : Int) ^ b.length) ∧ (r.take b.length ≠ b → FF P s i b r = 0)
  | [], r, i, _ => ⟨fun _ => by simp [FF], fun h => absurd (by simp) h⟩
  | t :: b, [], i, h => by simp at h
  | t :: b, x :: r, i, h => by
    obtain ⟨h1, h2⟩ := FF_long P s b r (i + 1) (by simpa using h)
    have e : (x :: r).take (t :: b).length = x :: r.take b.length := rfl
    rw [e]
    constructor
    · intro h3
      obtain ⟨c, d⟩ := List.cons.inj h3
      simp only [FF, List.length_cons]
      rw [if_pos c, h1 d, Int.pow_succ, Int.mul_comm]
    · intro h3
      simp only [FF]
      by_cases c : x = t
      · rw [if_pos c, h2 (fun d => h3 (by rw [c, d])), Int.mul_zero]
      · rw [if_neg c]
theorem FF_short (P : List (List Int)) (s : Nat) : ∀ (b r : List Int) (i : Nat), r.length ≤ b.length → (b.take r.length = r → FF P s i b r = (s : Int) ^ r.length * FF P s (i + r.length) (b.drop r.length) []) ∧ (b.take r.length ≠ r → FF P s i b r = 0)
  | b, [], i, _ => ⟨fun _ => by simp, fun h => absurd (by simp) h⟩
  | [], x :: r, i, h => by simp at h
  | t :: b, x :: r, i, h => by
    obtain ⟨h1, h2⟩ := FF_short P s b r (i + 1) (by simpa using h)
    have e : (t :: b).take (x :: r).length = t :: b.take r.length := rfl
    rw [e]
    constructor
    · intro h3
      obtain ⟨c, d⟩ := List.cons.inj h3
      simp only [FF, List.length_cons, List.drop_succ_cons]
      rw [if_pos c.symm, h1 d, show i + (r.length + 1) = i + 1 + r.length by omega, Int.pow_succ, Int.mul_comm ((s : Int) ^ r.length) (s : Int), Int.mul_assoc]
    · intro h3
      simp only [FF]
      by_cases c : x = t
      · rw [if_pos c, h2 (fun d => h3 (by rw [c, d])), Int.mul_zero]
      · rw [if_neg c]
section
variable {P Q : List (List Int)} {s n L : Nat} (h : OkR P Q n s L)
include h
theorem wt_in (i : Nat) (hi : i ≤ n) (t : Int) (t0 : 0 ≤ t) (t1 : t < (L : Int)) : 0 ≤ rd (rd_L1 P (i : Int)) t ∧ rd (rd_L1 P (i : Int)) t ≤ (s : Int) := by
  obtain ⟨t, rfl⟩ := Int.eq_ofNat_of_zero_le t0
  obtain ⟨h1, h2, h3⟩ := h.wts i hi
  have a := (good_rd h1 t (by omega)).1
  have b := pre_succ (rd_L1 P (i : Int)) t (by omega)
  have c := pre_nonneg _ (good_nn h1) t (by omega)
  have d := pre_le_sum _ (good_nn h1) (t + 1) (by omega)
  exact ⟨a, by omega⟩
theorem FF_range : ∀ (b r : List Int) (i : Nat), i + b.length ≤ n + 1 → (∀ t ∈ b, 0 ≤ t ∧ t < (L : Int)) → 0 ≤ FF P s i b r ∧ FF P s i b r ≤ (s : Int) ^ b.length
  | [], r, i, _, _ => by simp [FF]
  | t :: b, [], i, hb, hr => by
    simp only [List.length_cons] at hb
    obtain ⟨a1, a2⟩ := FF_range b [] (i + 1) (by omega) (fun x hx => hr x (by simp [hx]))
    have ht := hr t (by simp)
    obtain ⟨b1, b2⟩ := wt_in h i (by omega) t ht.1 ht.2
    simp only [FF, List.length_cons]
    refine ⟨Int.mul_nonneg b1 a1, ?_⟩
    rw [Int.pow_succ, Int.mul_comm]
    exact Int.mul_le_mul a2 b2 b1 (Int.pow_nonneg (by omega))
  | t :: b, x :: r, i, hb, hr => by
    simp only [List.length_cons] at hb
    obtain ⟨a1, a2⟩ := FF_range b r (i + 1) (by omega) (fun x hx => hr x (by simp [hx]))
    simp only [FF, List.length_cons]
    split
    · refine ⟨Int.mul_nonneg (by omega) a1, ?_⟩
      rw [Int.pow_succ, Int.mul_comm]
      exact Int.mul_le_mul_of_nonneg_right a2 (by omega)
    · exact ⟨Int.le_refl _, Int.pow_nonneg (by omega)⟩
variable (hs4 : s ≤ 4) (hn3 : n ≤ 3) (l : List Int) (hl1 : l.length ≤ n + 1) (hlr : ∀ t ∈ l, 0 ≤ t ∧ t < (L : Int))
include hs4 hn3 hl1 hlr
theorem pow_small (j : Nat) (hj : j ≤ 4) : 1 ≤ (s : Int) ^ j ∧ (s : Int) ^ j ≤ 256 := by
  have u_ := And.intro hn3 (And.intro hl1 hlr)
  have hp := s_pos h
  rcases (show s = 1 ∨ s = 2 ∨ s = 3 ∨ s = 4 by omega) with rfl | rfl | rfl | rfl <;> rcases (show j = 0 ∨ j = 1 ∨ j = 2 ∨ j = 3 ∨ j = 4 by omega) with rfl | rfl | rfl | rfl | rfl <;> decide
/-- One step of a product that is kept whole. -/
theorem prod_step (i : Nat) (hi : i < l.length) (X Y : Int) (hX0 : 0 ≤ X) (hX1 : X ≤ 65536) (hXY : X = Y * (s : Int) ^ (l.length - i)) :
    wrap64 ((wrap64 (Int.tdiv X (s : Int))) * (rd (rd_L1 P (i : Int)) (rd l (i : Int)))) = (Y * rd (rd_L1 P (i : Int)) (rd l (i : Int))) * (s : Int) ^ (l.length - (i + 1)) ∧
    0 ≤ (Y * rd (rd_L1 P (i : Int)) (rd l (i : Int))) * (s : Int) ^ (l.length - (i + 1)) ∧ (Y * rd (rd_L1 P (i : Int)) (rd l (i : Int))) * (s : Int) ^ (l.length - (i + 1)) ≤ 65536 ∧
    (Y * rd (rd_L1 P (i : Int)) (rd l (i : Int))) * FF P s (i + 1) (l.drop (i + 1)) [] = Y * FF P s i (l.drop i) [] := by
  have u_ := And.intro hn3 (And.intro hs4 hl1)
  have hp := s_pos h
  have hm := rd_mem l i hi
  obtain ⟨t0, t1⟩ := hlr _ hm
  obtain ⟨b1, b2⟩ := wt_in h i (by omega) _ t0 t1
  obtain ⟨w, hw⟩ : ∃ w, rd (rd_L1 P (i : Int)) (rd l (i : Int)) = w := ⟨_, rfl⟩
  rw [hw] at b1 b2 ⊢
  obtain ⟨Z, hZ⟩ : ∃ Z, Y * (s : Int) ^ (l.length - (i + 1)) = Z := ⟨_, rfl⟩
  have hXZ : X = Z * s := by
    rw [hXY, ← hZ, show l.length - i = (l.length - (i + 1)) + 1 by omega, Int.pow_succ, Int.mul_assoc]
  have hdiv : Int.tdiv X (s : Int) = Z := by
    rw [Int.tdiv_eq_ediv_of_nonneg hX0, hXZ, Int.mul_ediv_cancel _ (by omega)]
  have hZ0 : 0 ≤ Z := by
    rw [← hdiv, Int.tdiv_eq_ediv_of_nonneg hX0]; exact Int.ediv_nonneg hX0 (by omega)
  have hZw : Z * w ≤ X := by rw [hXZ]; exact Int.mul_le_mul_of_nonneg_left b2 hZ0
  have hZw0 : 0 ≤ Z * w := Int.mul_nonneg hZ0 b1
  have hZX : Z ≤ X := by
    have := Int.mul_le_mul_of_nonneg_left (show (1 : Int) ≤ s by omega) hZ0
    rw [hXZ]; omega
  have e : Y * w * (s : Int) ^ (l.length - (i + 1)) = Z * w := by rw [← hZ, Int.mul_assoc, Int.mul_comm w, ← Int.mul_assoc]
  refine ⟨?_, by rw [e]; exact hZw0, by rw [e]; omega, ?_⟩
  · rw [hdiv, wrap_in (a := Z) (by omega) (by omega), wrap_in (by omega) (by omega), e]
  · rw [drop_cons l i hi]
    simp only [FF]
    rw [hw, Int.mul_assoc]
/-- The last loop's product. -/
theorem part_loop (many : List Int) (rows : List (List Int)) (scale got want len j : Int) : ∀ (d i k : Nat) (X Y : Int), i + d = l.length → 0 ≤ X → X ≤ 65536 → X = Y * (s : Int) ^ (l.length - i) → d + 1 ≤ k → ∃ k', k ≤ k' + d + 1 ∧
    heraldlaw24_exact.l3 k many l (s : Int) scale got want X (i : Int) rows len j P Q = heraldlaw24_exact.l2 k' many l (s : Int) scale (wrap64 (got + Y * FF P s i (l.drop i) [])) want rows len (wrap64 (j + 1)) P Q := by
  have hlp := h.lp
  intro d
  induction d with
  | zero =>
    intro i k X Y hi h0 h1 hXY hk
    obtain ⟨k, rfl⟩ : ∃ m, k = m + 1 := ⟨k - 1, by omega⟩
    obtain rfl : i = l.length := by omega
    refine ⟨k, by omega, ?_⟩
    simp only [heraldlaw24_exact.l3]
    rw [if_neg (by omega), List.drop_length]
    simp only [FF, Int.mul_one]
    rw [hXY, Nat.sub_self, Int.pow_zero, Int.mul_one]
  | succ d ih =>
    intro i k X Y hi h0 h1 hXY hk
    obtain ⟨k, rfl⟩ : ∃ m, k = m + 1 := ⟨k - 1, by omega⟩
    obtain ⟨e1, e2, e3, e4⟩ := prod_step h hs4 hn3 l hl1 hlr i (by omega) X Y h0 h1 hXY
    obtain ⟨k', f1, f2⟩ := ih (i + 1) k _ (Y * rd (rd_L1 P (i : Int)) (rd l (i : Int))) (by omega) e2 e3 rfl (by omega)
    refine ⟨k', by omega, ?_⟩
    rw [e4] at f2
    rw [← f2]
    have hp := s_pos h
    have ht := hlr _ (rd_mem l i (by omega))
    have hwl := (h.wts i (by omega)).2.2
    simp only [heraldlaw24_exact.l3]
    have w1 := Aside0.mk (show wrap64 ((i : Int) + 1) = ((i + 1 : Nat) : Int) from (wrap_in (by omega) (by omega)).trans (by omega))
    rw [if_pos (by omega), if_neg (by omega), if_pos (by omega), if_pos (by omega), if_pos ht.1, if_pos (by rw [hwl]; exact ht.2), e1, w1.out]
theorem want_loop (many : List Int) (rows : List (List Int)) (scale : Int) (all : Int) : ∀ (d i k : Nat) (X Y : Int), i + d = l.length → 0 ≤ X → X ≤ 65536 → X = Y * (s : Int) ^ (l.length - i) → d + 1 ≤ k → ∃ k', k ≤ k' + d + 1 ∧
    heraldlaw24_exact.l1 k rows many l (s : Int) scale 0 X (l.length : Int) (i : Int) P Q = heraldlaw24_exact.l2 k' many l (s : Int) scale 0 (Y * FF P s i (l.drop i) []) rows (rows.length : Int) 0 P Q := by
  have hlp := h.lp
  intro d
  induction d with
  | zero =>
    intro i k X Y hi h0 h1 hXY hk
    obtain ⟨k, rfl⟩ : ∃ m, k = m + 1 := ⟨k - 1, by omega⟩
    obtain rfl : i = l.length := by omega
    refine ⟨k, by omega, ?_⟩
    simp only [heraldlaw24_exact.l1]
    rw [if_neg (by omega), List.drop_length]
    simp only [FF, Int.mul_one]
    rw [hXY, Nat.sub_self, Int.pow_zero, Int.mul_one]
  | succ d ih =>
    intro i k X Y hi h0 h1 hXY hk
    obtain ⟨k, rfl⟩ : ∃ m, k = m + 1 := ⟨k - 1, by omega⟩
    obtain ⟨e1, e2, e3, e4⟩ := prod_step h hs4 hn3 l hl1 hlr i (by omega) X Y h0 h1 hXY
    obtain ⟨k', f1, f2⟩ := ih (i + 1) k _ (Y * rd (rd_L1 P (i : Int)) (rd l (i : Int))) (by omega) e2 e3 rfl (by omega)
    refine ⟨k', by omega, ?_⟩
    rw [e4] at f2
    rw [← f2]
    have hp := s_pos h
    have ht := hlr _ (rd_mem l i (by omega))
    have hwl := (h.wts i (by omega)).2.2
    simp only [heraldlaw24_exact.l1]
    have w1 := Aside0.mk (show wrap64 ((i : Int) + 1) = ((i + 1 : Nat) : Int) from (wrap_in (by omega) (by omega)).trans (by omega))
    rw [if_pos (by omega), if_neg (by omega), if_pos (by omega), if_pos (by omega), if_pos (by omega), if_pos ht.1, if_pos (by rw [hwl]; exact ht.2), e1, w1.out]
/-- What has been counted of the first rows. -/
def wS (P : List (List Int)) (s : Nat) (many : List Int) (rows : List (List Int)) (l : List Int) (j : Nat) : Int := sm (fun j => rd many (j : Int) * FF P s 0 l (rd_L4 rows (j : Int))) j
variable (many : List Int) (rows : List (List Int)) (hmr : many.length = rows.length) (hmb : ∀ j : Nat, j < rows.length → 0 ≤ rd many (j : Int) ∧ rd many (j : Int) ≤ 256) (hrl : rows.length ≤ 256)
include hmr hmb hrl
theorem wS_range : ∀ j : Nat, j ≤ rows.length → 0 ≤ wS P s many rows l j ∧ wS P s many rows l j ≤ j * 65536
  | 0, _ => by simp [wS, sm]
  | j + 1, hj => by
    obtain ⟨a1, a2⟩ := wS_range j (by omega)
    obtain ⟨b1, b2⟩ := hmb j (by omega)
    obtain ⟨c1, c2⟩ := FF_range h l (rd_L4 rows (j : Int)) 0 (by omega) hlr
    have d := (pow_small h hs4 hn3 l hl1 hlr l.length (by omega)).2
    have e1 := Int.mul_nonneg b1 c1
    have e2 := Int.mul_le_mul b2 (Int.le_trans c2 d) c1 (by omega)
    unfold wS at a1 a2 ⊢
    simp only [sm]
    rw [Int.natCast_succ, Int.add_mul]
    omega
theorem rows_loop (want : Int) : ∀ (d j k : Nat), j + d = rows.length → 12 * d + 20 ≤ k →
    heraldlaw24_exact.l2 k many l (s : Int) ((s : Int) ^ l.length) (wS P s many rows l j) want rows (rows.length : Int) (j : Int) P Q = some (wS P s many rows l rows.length == want) := by
  have hm4 : l.length ≤ 4 := by omega
  obtain ⟨p1, p2⟩ := pow_small h hs4 hn3 l hl1 hlr l.length hm4
  intro d
  induction d with
  | zero =>
    intro j k hj hk
    obtain ⟨k, rfl⟩ : ∃ m, k = m + 1 := ⟨k - 1, by omega⟩
    obtain rfl : j = rows.length := by omega
    simp only [heraldlaw24_exact.l2]
    rw [if_neg (by omega)]
  | succ d ih =>
    intro j k hj hk
    obtain ⟨k, rfl⟩ : ∃ m, k = m + 4 := ⟨k - 4, by omega⟩
    obtain ⟨r1, r2⟩ := wS_range h hs4 hn3 l hl1 hlr many rows hmr hmb hrl (j + 1) (by omega)
    obtain ⟨r3, r4⟩ := wS_range h hs4 hn3 l hl1 hlr many rows hmr hmb hrl j (by omega)
    obtain ⟨b1, b2⟩ := hmb j (by omega)
    have hstep : wS P s many rows l (j + 1) = wS P s many rows l j + rd many (j : Int) * FF P s 0 l (rd_L4 rows (j : Int)) := rfl
    obtain ⟨row, hrow⟩ : ∃ row, rd_L4 rows (j : Int) = row := ⟨_, rfl⟩
    rw [hrow] at hstep
    have w1 := Aside0.mk (show wrap64 ((j : Int) + 1) = ((j + 1 : Nat) : Int) from (wrap_in (by omega) (by omega)).trans (by omega))
    have m1 := Int.mul_nonneg b1 (show (0 : Int) ≤ (s : Int) ^ l.length by omega)
    have m2 := Int.mul_le_mul b2 p2 (by omega) (by omega)
    have w2 := Aside0.mk (show wrap64 (rd many (j : Int) * (s : Int) ^ l.length) = rd many (j : Int) * (s : Int) ^ l.length from wrap_in (by omega) (by omega))
    have w3 := Aside0.mk (show wrap64 (wS P s many rows l (j + 1)) = wS P s many rows l (j + 1) from wrap_in (by omega) (by omega))
    have i1 : (j : Int) < (rows.length : Int) := by omega
    have i2 : (0 : Int) ≤ (j : Int) := by omega
    have i3 : (j : Int) < (many.length : Int) := by omega
    simp only [heraldlaw24_exact.l2]
    rw [if_pos i1, if_pos i2, if_pos i1, hrow]
    by_cases c : l.length ≤ row.length
    · have c1 : (row.length : Int) ≥ (l.length : Int) := by omega
      have c2 : (0 : Int) ≤ (l.length : Int) := by omega
      have c3 : (l.length : Int) ≤ (row.length : Int) := by omega
      have c4 : ¬ (row.length : Int) < (l.length : Int) := by omega
      rw [if_pos c1, if_pos c2, if_pos c3, Int.toNat_natCast, tok_alike (row.take l.length) l (by rw [List.length_take]; unfold maxLen; omega) (k + 3) (by rw [List.length_take]; omega)]
      simp only [Option.bind_some, heraldlaw24_exact.j3]
      obtain ⟨f1, f2⟩ := FF_long P s l row 0 c
      by_cases e : row.take l.length = l
      · rw [f1 e] at hstep
        rw [decide_eq_true e, if_pos rfl, if_pos i2, if_pos i3, w2.out, ← hstep, w3.out]
        simp only [heraldlaw24_exact.j4]
        rw [if_neg c4]
        simp only [heraldlaw24_exact.j5, Bool.false_eq_true, if_false]
        rw [w1.out]
        exact ih (j + 1) k (by omega) (by omega)
      · rw [f2 e, Int.mul_zero, Int.add_zero] at hstep
        rw [decide_eq_false e, if_neg (by simp)]
        simp only [heraldlaw24_exact.j4]
        rw [if_neg c4]
        simp only [heraldlaw24_exact.j5, Bool.false_eq_true, if_false]
        rw [w1.out, ← hstep]
        exact ih (j + 1) k (by omega) (by omega)
    · have c1 : ¬ (row.length : Int) ≥ (l.length : Int) := by omega
      have c2 : (row.length : Int) < (l.length : Int) := by omega
      have c3 : (0 : Int) ≤ (row.length : Int) := by omega
      have c5 : (row.length : Int) ≤ (l.length : Int) := by omega
      rw [if_neg c1]
      simp only [heraldlaw24_exact.j3, Bool.false_eq_true, if_false, heraldlaw24_exact.j4]
      rw [if_pos c2, if_pos c3, if_pos c5, Int.toNat_natCast, tok_alike row (l.take row.length) (by unfold maxLen; omega) (k + 1) (by omega)]
      simp only [Option.bind_some, heraldlaw24_exact.j5]
      obtain ⟨f1, f2⟩ := FF_short P s l row 0 (by omega)
      by_cases e : l.take row.length = row
      · rw [f1 e, Nat.zero_add] at hstep
        rw [decide_eq_true e.symm, if_pos rfl, if_pos i2, if_pos i3, w2.out]
        obtain ⟨k', g1, g2⟩ := part_loop h hs4 hn3 l hl1 hlr many rows ((s : Int) ^ l.length) (wS P s many rows l j) want (rows.length : Int) (j : Int) (l.length - row.length) row.length k (rd many (j : Int) * (s : Int) ^ l.length) (rd many (j : Int) * (s : Int) ^ row.length) (by omega) m1 (by omega) (by rw [Int.mul_assoc, ← Int.pow_add]; congr 2; omega) (by omega)
        rw [g2, Int.mul_assoc, ← hstep, w3.out, w1.out]
        exact ih (j + 1) k' (by omega) (by omega)
      · rw [f2 e, Int.mul_zero, Int.add_zero] at hstep
        rw [decide_eq_false (fun x => e x.symm), if_neg (by simp), w1.out, ← hstep]
        exact ih (j + 1) k (by omega) (by omega)
theorem scale_loop (all : Int) (ha0 : 0 ≤ all) (ha1 : all ≤ 256) : ∀ (d i k : Nat), i + d = l.length → d + 1 ≤ k → ∃ k', k ≤ k' + d + 1 ∧
    heraldlaw24_exact.l0 k rows many l all (s : Int) ((s : Int) ^ i) (l.length : Int) (i : Int) P Q = heraldlaw24_exact.l1 k' rows many l (s : Int) ((s : Int) ^ l.length) 0 (all * (s : Int) ^ l.length) (l.length : Int) 0 P Q := by
  have u_ := And.intro hmr (And.intro hmb hrl)
  intro d
  induction d with
  | zero =>
    intro i k hi hk
    obtain ⟨k, rfl⟩ : ∃ m, k = m + 1 := ⟨k - 1, by omega⟩
    obtain rfl : i = l.length := by omega
    obtain ⟨p1, p2⟩ := pow_small h hs4 hn3 l hl1 hlr l.length (by omega)
    refine ⟨k, by omega, ?_⟩
    simp only [heraldlaw24_exact.l0]
    have m1 := Int.mul_nonneg ha0 (show (0 : Int) ≤ (s : Int) ^ l.length by omega)
    have m2 := Int.mul_le_mul ha1 p2 (by omega) (by omega)
    rw [if_neg (by omega), wrap_in (by omega) (by omega)]
  | succ d ih =>
    intro i k hi hk
    obtain ⟨k, rfl⟩ : ∃ m, k = m + 1 := ⟨k - 1, by omega⟩
    obtain ⟨k', g1, g2⟩ := ih (i + 1) k (by omega) (by omega)
    obtain ⟨p1, p2⟩ := pow_small h hs4 hn3 l hl1 hlr (i + 1) (by omega)
    refine ⟨k', by omega, ?_⟩
    rw [← g2]
    simp only [heraldlaw24_exact.l0]
    have w1 := Aside0.mk (show wrap64 ((i : Int) + 1) = ((i + 1 : Nat) : Int) from (wrap_in (by omega) (by omega)).trans (by omega))
    have w2 := Aside0.mk (show wrap64 ((s : Int) ^ i * (s : Int)) = (s : Int) ^ (i + 1) from (congrArg wrap64 (show (s : Int) ^ i * (s : Int) = (s : Int) ^ (i + 1) from (Int.pow_succ (s : Int) i).symm)).trans ((wrap_in (a := (s : Int) ^ (i + 1)) (by omega) (by omega)).trans rfl))
    rw [if_pos (by omega), w1.out, w2.out]
theorem exact_val (all : Int) (ha0 : 0 ≤ all) (ha1 : all ≤ 256) (k : Nat) (hk : 4000 ≤ k) : heraldlaw24_exact.f k rows many P Q l all (s : Int) = some (wS P s many rows l rows.length == all * FF P s 0 l []) := by
  unfold heraldlaw24_exact.f
  obtain ⟨k1, g1, g2⟩ := scale_loop h hs4 hn3 l hl1 hlr many rows hmr hmb hrl all ha0 ha1 l.length 0 k (by omega) (by omega)
  rw [Int.pow_zero, show ((0 : Nat) : Int) = 0 from rfl] at g2
  rw [g2]
  obtain ⟨p1, p2⟩ := pow_small h hs4 hn3 l hl1 hlr l.length (by omega)
  have m1 := Int.mul_nonneg ha0 (show (0 : Int) ≤ (s : Int) ^ l.length by omega)
  have m2 := Int.mul_le_mul ha1 p2 (by omega) (by omega)
  obtain ⟨k2, g3, g4⟩ := want_loop h hs4 hn3 l hl1 hlr many rows ((s : Int) ^ l.length) all l.length 0 k1 (all * (s : Int) ^ l.length) all (by omega) m1 (by omega) (by rw [Nat.sub_zero]) (by omega)
  rw [show ((0 : Nat) : Int) = 0 from rfl, List.drop_zero] at g4
  rw [g4]
  have := rows_loop h hs4 hn3 l hl1 hlr many rows hmr hmb hrl (all * FF P s 0 l []) rows.length 0 k2 (by omega) (by omega)
  exact this
end
end Go.Proofs.Ytldbdifdldmgfaa.Pure
end

section
namespace Go.Proofs.Ytldbdifdldmgfaa.Pure
open Go.RowKit Go.Proofs.Ytldbdifdldmgfaa.PAll Go.Proofs.Ytldbdifdldmgfaa.Math Go.Proofs.YtldbdifdldmgfaaW.PrintWords Go.Proofs.YtldbdifdldmgfaaW.PrintLast Go.Proofs.YtldbdifdldmgfaaW.PrintMore
set_option linter.unusedVariables false
set_option linter.unusedSimpArgs false
/-- The rows met among the first v draws, and how many draws led to each. -/
structure St (P Q : List (List Int)) (s n v c : Nat) (rows : List (List Int)) (many : List Int) : Prop where
  lm : many.length = rows.length
  lr : rows.length ≤ c
  met : ∀ j : Nat, j < rows.length → ∃ w : Nat, rd_L4 rows (j : Int) = rowD P Q s n 0 w
  mb : ∀ j : Nat, j < rows.length → 0 ≤ rd many (j : Int) ∧ rd many (j : Int) ≤ v
  sum : ∀ φ : List Int → Int, sm (fun j => rd many (j : Int) * φ (rd_L4 rows (j : Int))) rows.length = sm (fun w => φ (rowD P Q s n 0 w)) v
theorem St.start (P Q : List (List Int)) (s n : Nat) : St P Q s n 0 0 [] [] := ⟨rfl, by simp, fun j hj => absurd hj (by simp), fun j hj => absurd hj (by simp), fun φ => rfl⟩
theorem St.wide {P Q : List (List Int)} {s n v c c' : Nat} {rows : List (List Int)} {many : List Int} (a : St P Q s n v c rows many) (h : c ≤ c') : St P Q s n v c' rows many := ⟨a.lm, by have := a.lr; omega, a.met, a.mb, a.sum⟩
theorem sm_bump (many : List Int) (g : Nat → Int) (i : Nat) (x : Int) : ∀ m, m ≤ many.length → sm (fun j => rd (many.set i x) (j : Int) * g j) m = sm (fun j => rd many (j : Int) * g j) m + if i < m then (x - rd many (i : Int)) * g i else 0
  | 0, _ => by simp [sm]
  | m + 1, hm => by
    simp only [sm]
    rw [sm_bump many g i x m (by omega)]
    by_cases e : i = m
    · subst e
      rw [rd_set_same _ _ _ (by omega), if_neg (by omega), if_pos (by omega), Int.sub_mul]
      omega
    · rw [rd_set_other _ _ _ _ (by omega) e]
      by_cases c : i < m
      · rw [if_pos c, if_pos (by omega)]; omega
      · rw [if_neg c, if_neg (by omega), Int.add_zero, Int.add_zero]
theorem St.hit {P Q : List (List Int)} {s n v c : Nat} {rows : List (List Int)} {many : List Int} (a : St P Q s n v c rows many) (i : Nat) (hi : i < rows.length) (hr : rd_L4 rows (i : Int) = rowD P Q s n 0 v) :
    St P Q s n (v + 1) c rows (many.set i (rd many (i : Int) + 1)) := by
  refine ⟨by simp [a.lm], a.lr, a.met, fun j hj => ?_, fun φ => ?_⟩
  · have h1 := a.mb j hj
    have h2 := a.lm
    by_cases e : i = j
    · subst e
      rw [rd_set_same _ _ _ (by omega)]
      omega
    · rw [rd_set_other _ _ _ _ (by omega) e]
      omega
  · have h2 := a.lm
    rw [sm_bump many (fun j => φ (rd_L4 rows (j : Int))) i _ rows.length (by omega), if_pos hi, a.sum φ, hr]
    simp only [sm]
    rw [show rd many (i : Int) + 1 - rd many (i : Int) = 1 by omega, Int.one_mul]
theorem L4_app (rows : List (List Int)) (r : List Int) (j : Nat) : (j < rows.length → rd_L4 (rows ++ [r]) (j : Int) = rd_L4 rows (j : Int)) ∧ (j = rows.length → rd_L4 (rows ++ [r]) (j : Int) = r) := by
  constructor
  · intro h; simp [rd_L4, List.getD_eq_getElem?_getD, List.getElem?_append_left h]
  · rintro rfl; simp [rd_L4, List.getD_eq_getElem?_getD]
theorem rd_app (many : List Int) (x : Int) (j : Nat) : (j < many.length → rd (many ++ [x]) (j : Int) = rd many (j : Int)) ∧ (j = many.length → rd (many ++ [x]) (j : Int) = x) := by
  constructor
  · intro h; simp [rd, List.getD_eq_getElem?_getD, List.getElem?_append_left h]
  · rintro rfl; simp [rd, List.getD_eq_getElem?_getD]
theorem St.new {P Q : List (List Int)} {s n v c : Nat} {rows : List (List Int)} {many : List Int} (a : St P Q s n v c rows many) :
    St P Q s n v (c + 1) (rows ++ [rowD P Q s n 0 v]) (many ++ [0]) := by
  have h2 := a.lm
  refine ⟨by simp [a.lm], by have := a.lr; simp; omega, fun j hj => ?_, fun j hj => ?_, fun φ => ?_⟩
  · rw [List.length_append, List.length_singleton] at hj
    by_cases c : j < rows.length
    · rw [(L4_app rows _ j).1 c]; exact a.met j c
    · rw [(L4_app rows _ j).2 (by omega)]; exact ⟨v, rfl⟩
  · rw [List.length_append, List.length_singleton] at hj
    by_cases c : j < rows.length
    · rw [(rd_app many 0 j).1 (by omega)]; exact a.mb j c
    · rw [(rd_app many 0 j).2 (by omega)]; omega
  · rw [List.length_append, List.length_singleton]
    simp only [sm]
    rw [(rd_app many 0 rows.length).2 (by omega), Int.zero_mul, Int.add_zero, ← a.sum φ]
    exact sm_congr _ fun j hj => by rw [(L4_app rows _ j).1 hj, (rd_app many 0 j).1 (by omega)]
end Go.Proofs.Ytldbdifdldmgfaa.Pure
end

section
namespace Go.Proofs.Ytldbdifdldmgfaa.Pure
open Go.RowKit Go.Proofs.Ytldbdifdldmgfaa.PAll Go.Proofs.Ytldbdifdldmgfaa.Math Go.Proofs.YtldbdifdldmgfaaW.PrintWords Go.Proofs.YtldbdifdldmgfaaW.PrintLast Go.Proofs.YtldbdifdldmgfaaW.PrintMore
set_option linter.unusedVariables false
set_option linter.unusedSimpArgs false
/-- The search for a row among those met. -/
theorem find_loop (P Q : List (List Int)) (x3 x4 x6 x123 x124 : Int) (rows : List (List Int)) (many r : List Int) (hr : r.length ≤ 4) (hl : ∀ j : Nat, j < rows.length → (rd_L4 rows (j : Int)).length ≤ 4) (hm : rows.length ≤ 256) : ∀ (d i k : Nat), i + d = rows.length → d + 10 ≤ k → ∃ k' i' : Nat, k ≤ k' + d + 1 ∧ (i' < rows.length ∧ rd_L4 rows (i' : Int) = r ∨ i' = rows.length) ∧
    hcp.l5 k x3 x4 x6 rows many r (i : Int) x123 x124 P Q = hcp.j10 k' x3 x4 x6 rows many r (i' : Int) x123 x124 P Q := by
  intro d
  induction d with
  | zero =>
    intro i k hi hk
    obtain ⟨k, rfl⟩ : ∃ m, k = m + 1 := ⟨k - 1, by omega⟩
    obtain rfl : i = rows.length := by omega
    refine ⟨k, rows.length, by omega, Or.inr rfl, ?_⟩
    simp only [hcp.l5]
    rw [if_neg (by omega)]
  | succ d ih =>
    intro i k hi hk
    obtain ⟨k, rfl⟩ : ∃ m, k = m + 1 := ⟨k - 1, by omega⟩
    have hli := hl i (by omega)
    have i1 : (i : Int) < (rows.length : Int) := by omega
    have i2 : (0 : Int) ≤ (i : Int) := by omega
    have w1 := Aside0.mk (show wrap64 ((i : Int) + 1) = ((i + 1 : Nat) : Int) from (wrap_in (by omega) (by omega)).trans (by omega))
    simp only [hcp.l5]
    rw [if_pos i1, if_pos i2, tok_alike (rd_L4 rows (i : Int)) r (by unfold maxLen; omega) k (by omega), Option.bind_some]
    by_cases e : rd_L4 rows (i : Int) = r
    · refine ⟨k, i, by omega, Or.inl ⟨by omega, e⟩, ?_⟩
      rw [decide_eq_true e, if_pos rfl]
    · obtain ⟨k', i', h1, h2, h3⟩ := ih (i + 1) k (by omega) (by omega)
      refine ⟨k', i', by omega, h2, ?_⟩
      rw [decide_eq_false e, if_neg (by simp), w1.out]
      exact h3
/-- The row's tokens all lie in range. -/
theorem range_loop (P Q : List (List Int)) (x3 x4 x6 x123 x124 : Int) (rows : List (List Int)) (many r : List Int) (L : Nat) (hp : 0 < P.length) (hL : (rd_L1 P 0).length = L) (hr : r.length ≤ 4) (hlr : ∀ t ∈ r, 0 ≤ t ∧ t < (L : Int)) : ∀ (d i k : Nat), i + d = r.length → d + 1 ≤ k → ∃ k' : Nat, k ≤ k' + d + 1 ∧
    hcp.l4 k x3 x4 x6 rows many r x123 x124 r (r.length : Int) (i : Int) P Q = hcp.l5 k' x3 x4 x6 rows many r 0 x123 x124 P Q := by
  intro d
  induction d with
  | zero =>
    intro i k hi hk
    obtain ⟨k, rfl⟩ : ∃ m, k = m + 1 := ⟨k - 1, by omega⟩
    obtain rfl : i = r.length := by omega
    refine ⟨k, by omega, ?_⟩
    simp only [hcp.l4]
    rw [if_neg (by omega)]
  | succ d ih =>
    intro i k hi hk
    obtain ⟨k, rfl⟩ : ∃ m, k = m + 1 := ⟨k - 1, by omega⟩
    obtain ⟨k', h1, h2⟩ := ih (i + 1) k (by omega) (by omega)
    refine ⟨k', by omega, ?_⟩
    have i1 : (i : Int) < (r.length : Int) := by omega
    have i2 : (0 : Int) ≤ (i : Int) := by omega
    have i3 : 0 < (P.length : Int) := by omega
    obtain ⟨t0, t1⟩ := hlr _ (rd_mem r i (by omega))
    have c1 : ¬ rd r (i : Int) < 0 := by omega
    have c2 : ¬ rd r (i : Int) ≥ ((rd_L1 P 0).length : Int) := by omega
    have w1 := Aside0.mk (show wrap64 ((i : Int) + 1) = ((i + 1 : Nat) : Int) from (wrap_in (by omega) (by omega)).trans (by omega))
    simp only [hcp.l4]
    rw [if_pos i1, if_pos i2, if_pos i1, if_neg c1, if_pos i3, if_neg c2, w1.out]
    exact h2
section
variable {P Q : List (List Int)} {s n L : Nat} (h : OkR P Q n s L)
include h
theorem pow_fit (hs4 : s ≤ 4) (hn3 : n ≤ 3) (j : Nat) (hj : j ≤ n + 1) : 1 ≤ s ^ j ∧ s ^ j ≤ 256 := by
  obtain ⟨a, b⟩ := pow_small h hs4 hn3 [] (by simp) (by simp) j (by omega)
  have e : ((s ^ j : Nat) : Int) = (s : Int) ^ j := by push_cast; rfl
  rw [← e] at a b
  omega
theorem row_small (v : Nat) : 1 ≤ (rowD P Q s n 0 v).length ∧ (rowD P Q s n 0 v).length ≤ n + 1 ∧ ∀ t ∈ rowD P Q s n 0 v, 0 ≤ t ∧ t < (L : Int) := by
  have := rowD_in h v n 0 (by omega)
  simpa using this
/-- A draw's digits, and the row that Chain tells of them. -/
theorem digit_loop (hn3 : n ≤ 3) (all : Int) (rows : List (List Int)) (many : List Int) (v : Nat) (hv : v ≤ 256) : ∀ (d i k : Nat), i + d = n + 1 → d + 2010 ≤ k → ∃ k' : Nat, k ≤ k' + d + 1 ∧
    hcp.l3 k (n : Int) (s : Int) all rows many (dgs s i v) ((v / s ^ i : Nat) : Int) (i : Int) all (v : Int) P Q = hcp.j7 k' (n : Int) (s : Int) all rows many (rowD P Q s n 0 v) all (v : Int) false P Q := by
  have hp := s_pos h
  intro d
  induction d with
  | zero =>
    intro i k hi hk
    obtain ⟨k, rfl⟩ : ∃ m, k = m + 1 := ⟨k - 1, by omega⟩
    obtain rfl : i = n + 1 := by omega
    obtain ⟨r1, r2, r3⟩ := row_small h v
    have w1 : wrap64 ((n : Int) + 1) = (n : Int) + 1 := wrap_in (by omega) (by omega)
    have w2 : wrap64 (((rowD P Q s n 0 v).length : Int) - 1) = ((rowD P Q s n 0 v).length : Int) - 1 := wrap_in (by omega) (by omega)
    refine ⟨k, by omega, ?_⟩
    simp only [hcp.l3]
    rw [if_neg (by omega), chain_row h (by omega) v k (by omega), Option.bind_some]
    simp only []
    have i1 : ¬ ((rowD P Q s n 0 v).length : Int) < 1 := by omega
    have i2 : ¬ ((rowD P Q s n 0 v).length : Int) > (n : Int) + 1 := by omega
    rw [if_pos True.intro, if_neg i1, w1, if_neg i2, w2, bne_self_eq_false]
  | succ d ih =>
    intro i k hi hk
    obtain ⟨k, rfl⟩ : ∃ m, k = m + 1 := ⟨k - 1, by omega⟩
    obtain ⟨k', h1, h2⟩ := ih (i + 1) k (by omega) (by omega)
    refine ⟨k', by omega, ?_⟩
    have i1 : (i : Int) ≤ (n : Int) := by omega
    have i2 : ¬ (s : Int) = 0 := by omega
    have i3 : (dgs s i v).length < 17592186044416 := by rw [dgs_len]; omega
    have w1 : wrap64 ((i : Int) + 1) = ((i + 1 : Nat) : Int) := (wrap_in (by omega) (by omega)).trans (by omega)
    have hw : v / s ^ (i + 1) = v / s ^ i / s := by rw [Nat.div_div_eq_div_mul, Nat.pow_succ]
    have hvi : v / s ^ i ≤ v := Nat.div_le_self _ _
    have hds := dgs_succ s i v
    rw [hw, hds] at h2
    obtain ⟨y, hy⟩ : ∃ y, v / s ^ i = y := ⟨_, rfl⟩
    obtain ⟨D, hD⟩ : ∃ D, dgs s i v = D := ⟨_, rfl⟩
    rw [hy, hD] at h2
    rw [hy] at hvi
    rw [hD] at i3
    rw [hy, hD]
    have e1 : Int.tmod (y : Int) (s : Int) = ((y % s : Nat) : Int) := by rw [Int.tmod_eq_emod_of_nonneg (by omega)]; rfl
    have hys : y / s ≤ y := Nat.div_le_self _ _
    have e2 : wrap64 (Int.tdiv (y : Int) (s : Int)) = ((y / s : Nat) : Int) := by
      have t : Int.tdiv (y : Int) (s : Int) = ((y / s : Nat) : Int) := by rw [Int.tdiv_eq_ediv_of_nonneg (by omega)]; rfl
      rw [t]
      clear e1 h2 hds hw
      generalize y / s = z at hys ⊢
      exact wrap_in (by omega) (by omega)
    simp only [hcp.l3]
    rw [if_pos i1, if_neg i2, if_pos i3, e1, e2, w1]
    exact h2
/-- One draw counted. -/
theorem draw_round (hs4 : s ≤ 4) (hn3 : n ≤ 3) (all : Int) (rows : List (List Int)) (many : List Int) (v : Nat) (hv : v < 256) (hall : (v : Int) < all) (a : St P Q s n v v rows many) (k : Nat) (hk : 3000 ≤ k) : ∃ (k' : Nat) (rows' : List (List Int)) (many' : List Int), k ≤ k' + 300 ∧ St P Q s n (v + 1) (v + 1) rows' many' ∧
    hcp.l2 k (n : Int) (s : Int) all rows many all (v : Int) P Q = hcp.l2 k' (n : Int) (s : Int) all rows' many' all ((v + 1 : Nat) : Int) P Q := by
  obtain ⟨k, rfl⟩ : ∃ m, k = m + 1 := ⟨k - 1, by omega⟩
  obtain ⟨r1, r2, r3⟩ := row_small h v
  obtain ⟨k1, f1, e1⟩ := digit_loop h hn3 all rows many v (by omega) (n + 1) 0 k (by omega) (by omega)
  have z0 : dgs s 0 v = [] := rfl
  rw [z0, Nat.pow_zero, Nat.div_one, show ((0 : Nat) : Int) = 0 from rfl] at e1
  obtain ⟨r, hr⟩ : ∃ r, rowD P Q s n 0 v = r := ⟨_, rfl⟩
  rw [hr] at r1 r2 r3 e1
  obtain ⟨k1, rfl⟩ : ∃ m, k1 = m + 1 := ⟨k1 - 1, by omega⟩
  have hlp := h.lp
  obtain ⟨k2, f2, e2⟩ := range_loop P Q (n : Int) (s : Int) all all (v : Int) rows many r L (by omega) (h.wts 0 (by omega)).2.2 (by omega) r3 r.length 0 k1 (by omega) (by omega)
  have alr := a.lr
  have alm := a.lm
  obtain ⟨k3, i', f3, g3, e3⟩ := find_loop P Q (n : Int) (s : Int) all all (v : Int) rows many r (by omega) (fun j hj => by obtain ⟨w, hw⟩ := a.met j hj; rw [hw]; have := row_small h w; omega) (by omega) rows.length 0 k2 (by omega) (by omega)
  obtain ⟨k3, rfl⟩ : ∃ m, k3 = m + 1 := ⟨k3 - 1, by omega⟩
  rw [show ((0 : Nat) : Int) = 0 from rfl] at e2 e3
  have E : hcp.l2 (k + 1) (n : Int) (s : Int) all rows many all (v : Int) P Q = hcp.j10 (k3 + 1) (n : Int) (s : Int) all rows many r (i' : Int) all (v : Int) P Q := by
    simp only [hcp.l2]
    rw [if_pos hall, e1]
    simp only [hcp.j7, Bool.false_eq_true, if_false]
    rw [e2, e3]
  have w1 := Aside0.mk (show wrap64 ((v : Int) + 1) = ((v + 1 : Nat) : Int) from (wrap_in (by omega) (by omega)).trans (by omega))
  rw [E]
  rcases g3 with ⟨c1, c2⟩ | rfl
  · have hmb := a.mb i' c1
    refine ⟨k3, rows, many.set i' (rd many (i' : Int) + 1), by omega, (a.hit i' c1 (by rw [c2, hr])).wide (by omega), ?_⟩
    simp only [hcp.j10]
    rw [if_neg (by omega), if_pos (by omega), if_pos (by omega), Int.toNat_natCast, wrap_in (by omega) (by omega), w1.out]
  · have b := a.new
    rw [hr] at b
    have c := b.hit rows.length (by simp) (by rw [(L4_app rows r rows.length).2 rfl, hr])
    have hmb := b.mb rows.length (by simp)
    refine ⟨k3, _, _, by omega, c.wide (by omega), ?_⟩
    have hz : ((many ++ [0] : List Int).length : Int) = (rows.length : Int) + 1 := by simp [alm]
    simp only [hcp.j10]
    rw [if_pos True.intro, if_pos (by omega), if_pos (by omega), Option.bind_some, if_pos (by omega), if_pos (by omega), Int.toNat_natCast, wrap_in (by omega) (by omega), w1.out]
theorem draws_loop (hs4 : s ≤ 4) (hn3 : n ≤ 3) (N : Nat) (hN : N ≤ 256) : ∀ (d v k : Nat) (rows : List (List Int)) (many : List Int), v + d = N → St P Q s n v v rows many → 300 * d + 4000 ≤ k → ∃ (k' : Nat) (rows' : List (List Int)) (many' : List Int), k ≤ k' + 300 * d + 1 ∧ St P Q s n N N rows' many' ∧
    hcp.l2 k (n : Int) (s : Int) (N : Int) rows many (N : Int) (v : Int) P Q = hcp.l6 k' (s : Int) (N : Int) rows' many' rows' (rows'.length : Int) 0 P Q := by
  intro d
  induction d with
  | zero =>
    intro v k rows many hv a hk
    obtain ⟨k, rfl⟩ : ∃ m, k = m + 1 := ⟨k - 1, by omega⟩
    obtain rfl : v = N := by omega
    refine ⟨k, rows, many, by omega, a, ?_⟩
    simp only [hcp.l2]
    rw [if_neg (by omega)]
  | succ d ih =>
    intro v k rows many hv a hk
    obtain ⟨k1, rows1, many1, f1, a1, e1⟩ := draw_round h hs4 hn3 (N : Int) rows many v (by omega) (by omega) a k (by omega)
    obtain ⟨k2, rows2, many2, f2, a2, e2⟩ := ih (v + 1) k1 rows1 many1 (by omega) a1 (by omega)
    have f3 : k ≤ k2 + (300 * (d + 1)) + 1 := by
      rw [Nat.mul_succ]
      exact Nat.le_trans f1 (by omega)
    exact ⟨k2, rows2, many2, f3, a2, e1.trans e2⟩
/-- Each beginning of a row met weighs what the product says. -/
theorem weighs (hs4 : s ≤ 4) (hn3 : n ≤ 3) (rows : List (List Int)) (many : List Int) (N : Nat) (eN : N = s ^ (n + 1)) (a : St P Q s n N N rows many) (l : List Int) (hl1 : l.length ≤ n + 1) (hlr : ∀ t ∈ l, 0 ≤ t ∧ t < (L : Int)) (k : Nat) (hk : 4000 ≤ k) : heraldlaw24_exact.f k rows many P Q l (N : Int) (s : Int) = some true := by
  obtain ⟨p1, p2⟩ := pow_fit h hs4 hn3 (n + 1) (by omega)
  rw [← eN] at p1 p2
  have alr := a.lr
  rw [exact_val h hs4 hn3 l hl1 hlr many rows a.lm (fun j hj => by have := a.mb j hj; omega) (by omega) (N : Int) (by omega) (by omega) k hk]
  have e1 : wS P s many rows l rows.length = sm (fun w => FF P s 0 l (rowD P Q s n 0 w)) N := a.sum (FF P s 0 l)
  have e2 := FF_sum h n 0 l (by omega) hl1 hlr
  rw [← eN] at e2
  have e3 : (N : Int) = (s : Int) ^ (n + 1) := by rw [eN]; push_cast; rfl
  rw [e1, e2, e3, beq_self_eq_true]
theorem parts_loop (hs4 : s ≤ 4) (hn3 : n ≤ 3) (rows : List (List Int)) (many : List Int) (N : Nat) (eN : N = s ^ (n + 1)) (a : St P Q s n N N rows many) (r : List Int) (hl1 : r.length ≤ n + 1) (hlr : ∀ t ∈ r, 0 ≤ t ∧ t < (L : Int)) (x225 x226 : Int) : ∀ (d i k : Nat), i + d = r.length + 1 → 4100 + d ≤ k → ∃ k' : Nat, k ≤ k' + d + 1 ∧
    hcp.l7 k (s : Int) (N : Int) rows many r (i : Int) rows x225 x226 P Q = hcp.l6 k' (s : Int) (N : Int) rows many rows x225 (wrap64 (x226 + 1)) P Q := by
  intro d
  induction d with
  | zero =>
    intro i k hi hk
    obtain ⟨k, rfl⟩ : ∃ m, k = m + 1 := ⟨k - 1, by omega⟩
    refine ⟨k, by omega, ?_⟩
    simp only [hcp.l7]
    rw [if_neg (by omega)]
  | succ d ih =>
    intro i k hi hk
    obtain ⟨k, rfl⟩ : ∃ m, k = m + 1 := ⟨k - 1, by omega⟩
    obtain ⟨k', f1, e1⟩ := ih (i + 1) k (by omega) (by omega)
    refine ⟨k', by omega, ?_⟩
    have w1 : wrap64 ((i : Int) + 1) = ((i + 1 : Nat) : Int) := (wrap_in (by omega) (by omega)).trans (by omega)
    simp only [hcp.l7]
    rw [if_pos (by omega), if_pos (by omega), Int.toNat_natCast, weighs h hs4 hn3 rows many N eN a (r.take i) (by rw [List.length_take]; omega) (fun t ht => hlr t (List.mem_of_mem_take ht)) k (by omega), Option.bind_some, if_pos rfl, w1]
    exact e1
theorem each_loop (hs4 : s ≤ 4) (hn3 : n ≤ 3) (rows : List (List Int)) (many : List Int) (N : Nat) (eN : N = s ^ (n + 1)) (a : St P Q s n N N rows many) (hN : N ≤ 256) : ∀ (d i k : Nat), i + d = rows.length → 4200 + 10 * d ≤ k →
    hcp.l6 k (s : Int) (N : Int) rows many rows (rows.length : Int) (i : Int) P Q = some true := by
  have alr := a.lr
  intro d
  induction d with
  | zero =>
    intro i k hi hk
    obtain ⟨k, rfl⟩ : ∃ m, k = m + 1 := ⟨k - 1, by omega⟩
    simp only [hcp.l6]
    rw [if_neg (by omega)]
  | succ d ih =>
    intro i k hi hk
    obtain ⟨k, rfl⟩ : ∃ m, k = m + 1 := ⟨k - 1, by omega⟩
    obtain ⟨w, hw⟩ := a.met i (by omega)
    obtain ⟨r1, r2, r3⟩ := row_small h w
    have w1 : wrap64 ((i : Int) + 1) = ((i + 1 : Nat) : Int) := (wrap_in (by omega) (by omega)).trans (by omega)
    obtain ⟨k', f1, e1⟩ := parts_loop h hs4 hn3 rows many N eN a (rowD P Q s n 0 w) r2 r3 (rows.length : Int) (i : Int) (rowD P Q s n 0 w).length 1 k (by omega) (by omega)
    rw [show ((1 : Nat) : Int) = 1 from rfl] at e1
    simp only [hcp.l6]
    rw [if_pos (by omega), if_pos (by omega), if_pos (by omega), hw, e1, w1]
    exact ih (i + 1) k' (by omega) (by omega)
theorem pow_loop (hs4 : s ≤ 4) (hn3 : n ≤ 3) : ∀ (d i k : Nat), i + d = n + 1 → d + 1 ≤ k → ∃ k' : Nat, k ≤ k' + d + 1 ∧
    hcp.l1 k (n : Int) (s : Int) ((s ^ i : Nat) : Int) ((n : Int) + 1) (i : Int) P Q = hcp.l2 k' (n : Int) (s : Int) ((s ^ (n + 1) : Nat) : Int) [] [] ((s ^ (n + 1) : Nat) : Int) 0 P Q := by
  intro d
  induction d with
  | zero =>
    intro i k hi hk
    obtain ⟨k, rfl⟩ : ∃ m, k = m + 1 := ⟨k - 1, by omega⟩
    obtain rfl : i = n + 1 := by omega
    refine ⟨k, by omega, ?_⟩
    simp only [hcp.l1]
    rw [if_neg (by omega)]
  | succ d ih =>
    intro i k hi hk
    obtain ⟨k, rfl⟩ : ∃ m, k = m + 1 := ⟨k - 1, by omega⟩
    obtain ⟨k', f1, e1⟩ := ih (i + 1) k (by omega) (by omega)
    refine ⟨k', by omega, ?_⟩
    obtain ⟨p1, p2⟩ := pow_fit h hs4 hn3 (i + 1) (by omega)
    have w1 : wrap64 ((i : Int) + 1) = ((i + 1 : Nat) : Int) := (wrap_in (by omega) (by omega)).trans (by omega)
    have w2 : wrap64 (((s ^ i : Nat) : Int) * (s : Int)) = ((s ^ (i + 1) : Nat) : Int) := by
      rw [← Int.natCast_mul, ← Nat.pow_succ]
      exact wrap_in (a := ((s ^ (i + 1) : Nat) : Int)) (by omega) (by omega)
    simp only [hcp.l1]
    rw [if_pos (by omega), w1, w2]
    exact e1
theorem all_true (hs4 : s ≤ 4) (hn3 : n ≤ 3) (k : Nat) (hk : 90000 ≤ k) : hcp.l1 k (n : Int) (s : Int) 1 (wrap64 ((n : Int) + 1)) 0 P Q = some true := by
  obtain ⟨k1, f1, e1⟩ := pow_loop h hs4 hn3 (n + 1) 0 k (by omega) (by omega)
  obtain ⟨p1, p2⟩ := pow_fit h hs4 hn3 (n + 1) (by omega)
  obtain ⟨N, eN⟩ : ∃ N, N = s ^ (n + 1) := ⟨_, rfl⟩
  rw [← eN] at p1 p2 e1
  obtain ⟨k2, rows, many, f2, a, e2⟩ := draws_loop h hs4 hn3 N p2 N 0 k1 [] [] (by omega) (St.start P Q s n) (by omega)
  rw [Nat.pow_zero, show ((0 : Nat) : Int) = 0 from rfl, show ((1 : Nat) : Int) = 1 from rfl] at e1
  rw [show ((0 : Nat) : Int) = 0 from rfl] at e2
  have alr := a.lr
  rw [wrap_in (by omega) (by omega), e1, e2]
  exact each_loop h hs4 hn3 rows many N eN a p2 rows.length 0 k2 (by omega) (by omega)
end
end Go.Proofs.Ytldbdifdldmgfaa.Pure
end

section
namespace Go.Proofs.Ytldbdifdldmgfaa.Pure
open Go.RowKit Go.Proofs.Ytldbdifdldmgfaa.PAll Go.Proofs.Ytldbdifdldmgfaa.Math Go.Proofs.YtldbdifdldmgfaaW.PrintWords Go.Proofs.YtldbdifdldmgfaaW.PrintLast Go.Proofs.YtldbdifdldmgfaaW.PrintMore
set_option linter.unusedVariables false
set_option linter.unusedSimpArgs false
/-- What a place of the row is found to be. -/
def Fits (P Q : List (List Int)) (n s L i : Nat) : Prop := (IsWts (rd_L1 P (i : Int)) ∧ (rd_L1 P (i : Int)).sum = (s : Int) ∧ (rd_L1 P (i : Int)).length = L) ∧ (i < n → IsWts (rd_L1 Q (i : Int)) ∧ (rd_L1 Q (i : Int)).sum = (s : Int) ∧ (rd_L1 Q (i : Int)).length = L)
theorem sum_is {l : List Int} {s : Nat} (hs : 0 < s) (h : (if IsWts l then l.sum else 0) = (s : Int)) : IsWts l ∧ l.sum = (s : Int) := by
  by_cases c : IsWts l
  · rw [if_pos c] at h; exact ⟨c, h⟩
  · rw [if_neg c] at h; omega
theorem look_loop (P Q : List (List Int)) (n s L : Nat) (hs : 0 < s) (hn3 : n ≤ 3) (hp : P.length = n + 1) (hq : Q.length = n) (hL : (rd_L1 P 0).length = L) : ∀ (d i k : Nat), i + d = n + 1 → (∀ t, t < i → Fits P Q n s L t) → 1000 + 2 * d ≤ k →
    hcp.l0 k (n : Int) (s : Int) ((n : Int) + 1) (i : Int) P Q = some true ∨ ((∀ t, t < n + 1 → Fits P Q n s L t) ∧ ∃ k', k ≤ k' + 2 * d + 1 ∧ hcp.l0 k (n : Int) (s : Int) ((n : Int) + 1) (i : Int) P Q = hcp.l1 k' (n : Int) (s : Int) 1 (wrap64 ((n : Int) + 1)) 0 P Q) := by
  intro d
  induction d with
  | zero =>
    intro i k hi hf hk
    obtain ⟨k, rfl⟩ : ∃ m, k = m + 1 := ⟨k - 1, by omega⟩
    refine Or.inr ⟨fun t ht => hf t (by omega), k, by omega, ?_⟩
    simp only [hcp.l0]
    rw [if_neg (by omega)]
  | succ d ih =>
    intro i k hi hf hk
    obtain ⟨k, rfl⟩ : ∃ m, k = m + 2 := ⟨k - 2, by omega⟩
    have i1 : (i : Int) < (n : Int) + 1 := by omega
    have i2 : (0 : Int) ≤ (i : Int) := by omega
    have i3 : (i : Int) < (P.length : Int) := by omega
    have i4 : (0 : Int) < (P.length : Int) := by omega
    have w1 := Aside0.mk (show wrap64 ((i : Int) + 1) = ((i + 1 : Nat) : Int) from (wrap_in (by omega) (by omega)).trans (by omega))
    have bad : hcp.j3 (k + 1) (n : Int) (s : Int) ((n : Int) + 1) (i : Int) true P Q = some true := by simp only [hcp.j3, if_true]
    have ok : Fits P Q n s L i → (hcp.j3 (k + 1) (n : Int) (s : Int) ((n : Int) + 1) (i : Int) false P Q = some true ∨ ((∀ t, t < n + 1 → Fits P Q n s L t) ∧ ∃ k', k + 2 ≤ k' + 2 * (d + 1) + 1 ∧ hcp.j3 (k + 1) (n : Int) (s : Int) ((n : Int) + 1) (i : Int) false P Q = hcp.l1 k' (n : Int) (s : Int) 1 (wrap64 ((n : Int) + 1)) 0 P Q)) := by
      intro hfi
      simp only [hcp.j3, Bool.false_eq_true, if_false]
      rw [w1.out]
      rcases ih (i + 1) k (by omega) (fun t ht => by
        by_cases e : t = i
        · rw [e]; exact hfi
        · exact hf t (by omega)) (by omega) with a | ⟨a, k', b, c⟩
      · exact Or.inl a
      · exact Or.inr ⟨a, k', by omega, c⟩
    simp only [hcp.l0]
    rw [if_pos i1, if_pos i2, if_pos i3, sum_some _ (k + 1) (by omega), Option.bind_some]
    by_cases c1 : (if IsWts (rd_L1 P (i : Int)) then (rd_L1 P (i : Int)).sum else 0) = (s : Int)
    · rw [if_pos c1]
      obtain ⟨g1, g2⟩ := sum_is hs c1
      by_cases c2 : ((rd_L1 P (i : Int)).length : Int) > 4
      · rw [if_pos c2]; exact Or.inl bad
      · rw [if_neg c2, if_pos i4]
        by_cases c3 : ((rd_L1 P (i : Int)).length : Int) = ((rd_L1 P 0).length : Int)
        · rw [if_pos c3]
          by_cases c4 : (i : Int) < (n : Int)
          · rw [if_pos c4, if_pos (show (i : Int) < (Q.length : Int) by omega), sum_some _ (k + 1) (by omega), Option.bind_some]
            by_cases c5 : (if IsWts (rd_L1 Q (i : Int)) then (rd_L1 Q (i : Int)).sum else 0) = (s : Int)
            · rw [if_pos c5]
              obtain ⟨g3, g4⟩ := sum_is hs c5
              by_cases c6 : ((rd_L1 Q (i : Int)).length : Int) = ((rd_L1 P 0).length : Int)
              · rw [show (((rd_L1 Q (i : Int)).length : Int) != ((rd_L1 P 0).length : Int)) = false from by rw [c6, bne_self_eq_false]]
                exact ok ⟨⟨g1, g2, by omega⟩, fun _ => ⟨g3, g4, by omega⟩⟩
              · rw [show (((rd_L1 Q (i : Int)).length : Int) != ((rd_L1 P 0).length : Int)) = true from bne_iff_ne.2 c6]
                exact Or.inl bad
            · rw [if_neg c5]; exact Or.inl bad
          · rw [if_neg c4]
            exact ok ⟨⟨g1, g2, by omega⟩, fun hlt => absurd hlt (by omega)⟩
        · rw [if_neg c3]; exact Or.inl bad
    · rw [if_neg c1]; exact Or.inl bad
theorem of_fits (P Q : List (List Int)) (n s L : Nat) (hp : P.length = n + 1) (hq : Q.length = n) (hf : ∀ t, t < n + 1 → Fits P Q n s L t) : OkR P Q n s L := by
  refine ⟨hp, hq, fun i hi => ?_, fun i hi => (hf i (by omega)).1⟩
  obtain ⟨⟨a, b, c⟩, d⟩ := hf i (by omega)
  obtain ⟨e, f, g⟩ := d hi
  exact ⟨a, e, b.trans f.symm, c.trans g.symm⟩
theorem from_look (P Q : List (List Int)) (n s : Nat) (hs : 0 < s) (hs4 : s ≤ 4) (hn3 : n ≤ 3) (hp : P.length = n + 1) (hq : Q.length = n) (k : Nat) (hk : 91000 ≤ k) : hcp.l0 k (n : Int) (s : Int) ((n : Int) + 1) 0 P Q = some true := by
  rcases look_loop P Q n s (rd_L1 P 0).length hs hn3 hp hq rfl (n + 1) 0 k (by omega) (fun t ht => absurd ht (by omega)) (by omega) with a | ⟨a, k', b, c⟩
  · exact a
  · have h := of_fits P Q n s _ hp hq a
    exact c.trans (all_true h hs4 hn3 k' (by omega))
theorem products_at (P Q : List (List Int)) (k : Nat) (hk : 92000 ≤ k) : hcp.f k P Q = some true := by
  unfold hcp.f
  rw [awake_some k (by omega), Option.bind_some, if_pos rfl]
  obtain ⟨k, rfl⟩ : ∃ m, k = m + 2 := ⟨k - 2, by omega⟩
  by_cases c1 : (Q.length : Int) > 3
  · rw [if_pos c1]
    simp only [hcp.j0, if_true]
  · rw [if_neg c1, wrap_in (by omega) (by omega)]
    by_cases c2 : (P.length : Int) = (Q.length : Int) + 1
    · rw [show ((P.length : Int) != (Q.length : Int) + 1) = false from by rw [c2, bne_self_eq_false]]
      simp only [hcp.j0, Bool.false_eq_true, if_false]
      rw [if_pos (by omega), sum_some _ (k + 1) (by omega), Option.bind_some]
      obtain ⟨t, ht⟩ : ∃ t, (if IsWts (rd_L1 P 0) then (rd_L1 P 0).sum else 0) = t := ⟨_, rfl⟩
      rw [ht]
      have two : ∀ s : Nat, 0 < s → s ≤ 4 → hcp.j1 (k + 1) (Q.length : Int) (s : Int) false P Q = some true := by
        intro s h1 h2
        simp only [hcp.j1, Bool.false_eq_true, if_false]
        rw [c2]
        exact from_look P Q Q.length s h1 h2 (by omega) (by omega) rfl k (by omega)
      by_cases c3 : t = 2
      · rw [if_pos c3, c3]
        exact two 2 (by omega) (by omega)
      · rw [if_neg c3]
        by_cases c4 : t = 4
        · rw [c4]
          exact two 4 (by omega) (by omega)
        · rw [show (t != 4) = true from bne_iff_ne.2 c4]
          simp only [hcp.j1, if_true]
    · rw [show ((P.length : Int) != (Q.length : Int) + 1) = true from bne_iff_ne.2 c2]
      simp only [hcp.j0, if_true]
theorem CoupleProducts (P Q : List (List Int)) : ∃ k, hcp.f k P Q = some true := ⟨92000, products_at P Q 92000 (by omega)⟩
end Go.Proofs.Ytldbdifdldmgfaa.Pure
end

section
namespace Go.Proofs.Ytldbdifdldmgfaa.Math
set_option linter.unusedSimpArgs false
open Go.RowKit Go.Deep Go.WideShapes Go.ChangeShapes Go.Joins Go.Proofs.Ytldbdifdldmgfaa.PAll Go.Proofs.YtldbdifdldmgfaaW.PrintWords Go.Proofs.YtldbdifdldmgfaaW.PrintLast Go.Proofs.YtldbdifdldmgfaaW.PrintMore
theorem rows_C {H : Type} {enc : TypeId × Value → H} {P : Program} {w : World} {base : Nat} {held : Bool}
    {t e q : TypeId} {k : IntKind} {fuel : Nat} {cs : List Value} {x : DataW H × List MemPlace} (ht : P.underlying t = some (.slice e)) (he : P.underlying e = some (.slice q)) (hq : P.underlying q = some (.int k))
    (ce : P.cellsOf e = 1) (cq : P.cellsOf q = 1) (h : DataW.trod enc P w base (fun _ => true) held fuel t cs = some x) :
    ∃ (A : Option Addr) (c : Nat) (xs : List (List Int)), cs = [.slice A xs.length c] ∧ xs.length ≤ c ∧ Kd.C (Kd.slice q (Kd.int k)) w A xs.length xs := by
  rcases open_int_rows ht he hq ce cq h with ⟨rfl, _⟩ | ⟨a, len, cap, A, L, C, Z, rfl, _, hl, hm, _, hr⟩
  · exact ⟨none, 0, [], rfl, Nat.le_refl _, Kd.C_nil _ _⟩
  · have hlen : ((List.range len).map fun r => (Z r).take (L r)).length = len := by simp
    refine ⟨some a, cap, (List.range len).map fun r => (Z r).take (L r), by rw [hlen], by rw [hlen]; exact hl, ?_⟩
    rw [hlen]
    refine ⟨hlen, by unfold maxLen at *; omega, fun hn => ⟨a, rfl, fun j p hj => ?_⟩⟩
    have hjl : j < len := by
      have := (List.getElem?_eq_some_iff.1 hj).1
      rwa [hlen] at this
    have hp : (Z j).take (L j) = p := by simpa [hjl] using hj
    obtain ⟨h1, h2, h3, h4, h5, h6, h7⟩ := hr j (by omega)
    have hpl : p.length = L j := by rw [← hp, List.length_take]; omega
    refine ⟨[.slice (A j) (L j) (C j)], rfl, ⟨A j, C j, by rw [hpl], by omega, ?_⟩, fun i u hu => ?_⟩
    · refine Kd.C_of_reads (d := (0 : Int)) (h1 := fun _ => rfl) ⟨rfl, by unfold maxLen at *; omega, fun hn2 => ?_⟩
      rw [hpl] at hn2
      cases hA : A j with
      | none => have := h6 hA; omega
      | some a' =>
        refine ⟨a', rfl, fun c hc => ?_⟩
        rw [hpl] at hc
        rw [(h7 a' hA).2 c (by omega), ← hp]
        simp [List.getD_eq_getElem?_getD, hc]
    · cases i with
      | zero =>
        have : Value.slice (A j) (L j) (C j) = u := by simpa using hu
        subst this
        simpa [Kd.slice] using h1
      | succ i => simp at hu
end Go.Proofs.Ytldbdifdldmgfaa.Math
end
