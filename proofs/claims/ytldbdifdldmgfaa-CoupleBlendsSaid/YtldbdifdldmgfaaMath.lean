/- Plain facts on rows of weights, with no program in sight but its small words. -/
import Derived.Test.YtldbdifdldmgfaaHGuess
namespace Go.Proofs.Ytldbdifdldmgfaa.Math
open Go.RowKit Go.Proofs.Ytldbdifdldmgfaa.PAll Go.Proofs.YtldbdifdldmgfaaW.PrintWords Go.Proofs.YtldbdifdldmgfaaW.PrintLast
set_option linter.unusedVariables false
set_option linter.unusedSimpArgs false

def isSum (s : Int) : Prop := s = 2 ∨ s = 4 ∨ s = 16 ∨ s = 256 ∨ s = 65536 ∨ s = 4294967296
instance (s : Int) : Decidable (isSum s) := by unfold isSum; exact inferInstance
def Fine (l : List Int) : Prop := ∀ x ∈ l, 0 ≤ x ∧ x ≤ 4294967296
instance (l : List Int) : Decidable (Fine l) := by unfold Fine; exact inferInstance
structure IsWts (l : List Int) : Prop where
  len1 : 1 ≤ l.length
  len2 : l.length ≤ 512
  fine : Fine l
  sum : isSum l.sum
instance (l : List Int) : Decidable (IsWts l) :=
  if h : 1 ≤ l.length ∧ l.length ≤ 512 ∧ Fine l ∧ isSum l.sum then isTrue ⟨h.1, h.2.1, h.2.2.1, h.2.2.2⟩
  else isFalse fun g => h ⟨g.len1, g.len2, g.fine, g.sum⟩

theorem wrap_in {a : Int} (h0 : -9223372036854775808 ≤ a) (h1 : a ≤ 9223372036854775807) : wrap64 a = a := by unfold wrap64; omega
theorem isSum_pos {s : Int} (h : isSum s) : 2 ≤ s ∧ s ≤ 4294967296 := by unfold isSum at h; omega

theorem rd_at (l : List Int) (i : Nat) (h : i < l.length) : rd l (i : Int) = l[i] := by simp [rd, h]
theorem drop_cons (l : List Int) (i : Nat) (h : i < l.length) : l.drop i = rd l (i : Int) :: l.drop (i + 1) := by
  rw [List.drop_eq_getElem_cons h, rd_at l i h]
theorem rd_mem (l : List Int) (i : Nat) (h : i < l.length) : rd l (i : Int) ∈ l := by rw [rd_at l i h]; exact List.getElem_mem h

/-- What lies ahead of token x. -/
def pre (l : List Int) (x : Nat) : Int := (l.take x).sum
theorem pre_zero (l : List Int) : pre l 0 = 0 := by simp [pre]
theorem sum_append (a b : List Int) : (a ++ b).sum = a.sum + b.sum := by
  induction a with
  | nil => simp
  | cons x a ih => simp [ih]; omega
theorem pre_succ (l : List Int) (x : Nat) (h : x < l.length) : pre l (x + 1) = pre l x + rd l (x : Int) := by
  unfold pre
  rw [List.take_succ_eq_append_getElem h, sum_append, rd_at l x h]
  simp
theorem pre_all (l : List Int) : pre l l.length = l.sum := by simp [pre]
theorem pre_mono (l : List Int) (hf : ∀ x ∈ l, 0 ≤ x) (a : Nat) : ∀ d, a + d ≤ l.length → pre l a ≤ pre l (a + d)
  | 0, _ => Int.le_refl _
  | d + 1, h => by
    have ih := pre_mono l hf a d (by omega)
    have hx := hf _ (rd_mem l (a + d) (by omega))
    rw [← Nat.add_assoc, pre_succ l (a + d) (by omega)]
    omega
theorem pre_le (l : List Int) (hf : ∀ x ∈ l, 0 ≤ x) {a b : Nat} (h : a ≤ b) (hb : b ≤ l.length) : pre l a ≤ pre l b := by
  have := pre_mono l hf a (b - a) (by omega)
  rwa [Nat.add_sub_cancel' h] at this
theorem pre_nonneg (l : List Int) (hf : ∀ x ∈ l, 0 ≤ x) (a : Nat) (h : a ≤ l.length) : 0 ≤ pre l a := by
  have := pre_le l hf (Nat.zero_le a) h
  rwa [pre_zero] at this
theorem pre_le_sum (l : List Int) (hf : ∀ x ∈ l, 0 ≤ x) (a : Nat) (h : a ≤ l.length) : pre l a ≤ l.sum := by
  rw [← pre_all]; exact pre_le l hf h (Nat.le_refl _)

/-- 'find' tells the stretch in which a draw lies. -/
theorem findL_from (l : List Int) (hf : ∀ x ∈ l, 0 ≤ x) (hs : l.sum ≤ 4294967296) : ∀ (n x : Nat) (u : Int), n = l.length - x → x ≤ l.length → 0 ≤ u → u < l.sum - pre l x →
    ∃ (y : Nat) (r : Int), findL (l.drop x) (x : Int) u = ((y : Int), r) ∧ x ≤ y ∧ y < l.length ∧ 0 ≤ r ∧ r < rd l (y : Int) ∧ pre l x + u = pre l y + r := by
  intro n
  induction n with
  | zero =>
    intro x u hn hx h0 hu
    obtain rfl : x = l.length := by omega
    rw [pre_all] at hu
    omega
  | succ n ih =>
    intro x u hn hx h0 hu
    have hlt : x < l.length := by omega
    have hp := pre_succ l x hlt
    have hx0 := hf _ (rd_mem l x hlt)
    have hpx := pre_nonneg l hf x hx
    rw [drop_cons l x hlt]
    unfold findL
    by_cases hq : u < rd l (x : Int)
    · rw [if_pos hq]
      exact ⟨x, u, rfl, Nat.le_refl _, hlt, h0, hq, rfl⟩
    · rw [if_neg hq, wrap_in (by omega) (by omega)]
      obtain ⟨y, r, hy, h1, h2, h3, h4, h5⟩ := ih (x + 1) (u - rd l (x : Int)) (by omega) (by omega) (by omega) (by omega)
      refine ⟨y, r, ?_, by omega, h2, h3, h4, by omega⟩
      rw [← hy]
      congr 1
theorem findL_tells (l : List Int) (hf : ∀ x ∈ l, 0 ≤ x) (hs : l.sum ≤ 4294967296) (u : Int) (h0 : 0 ≤ u) (hu : u < l.sum) :
    ∃ (y : Nat) (r : Int), findL l 0 u = ((y : Int), r) ∧ y < l.length ∧ 0 ≤ r ∧ r < rd l (y : Int) ∧ u = pre l y + r := by
  obtain ⟨y, r, h, _, h2, h3, h4, h5⟩ := findL_from l hf hs l.length 0 u (by omega) (by omega) h0 (by rw [pre_zero]; omega)
  rw [pre_zero] at h5
  exact ⟨y, r, h, h2, h3, h4, by omega⟩

/-- How many draws below u lie in the stretch that begins at a and has n draws. -/
def within (u a n : Int) : Int := if u ≤ a then 0 else if u - a ≤ n then u - a else n

/-- The counts of draws below u, token by token. -/
def cnt (l : List Int) (u : Int) : List Int := (List.range l.length).map fun x => within u (pre l x) (rd l (x : Int))
theorem cnt_length (l : List Int) (u : Int) : (cnt l u).length = l.length := by simp [cnt]
theorem cnt_rd (l : List Int) (u : Int) (x : Nat) (h : x < l.length) : rd (cnt l u) (x : Int) = within u (pre l x) (rd l (x : Int)) := by
  rw [rd_at _ _ (by rw [cnt_length]; exact h)]
  simp [cnt]
theorem list_ext_rd {a b : List Int} (hl : a.length = b.length) (h : ∀ x : Nat, x < a.length → rd a (x : Int) = rd b (x : Int)) : a = b := by
  refine List.ext_getElem hl fun i h1 h2 => ?_
  have := h i h1
  rwa [rd_at a i h1, rd_at b i h2] at this
theorem rd_set_same (l : List Int) (y : Nat) (v : Int) (h : y < l.length) : rd (l.set y v) (y : Int) = v := by
  rw [rd_at _ _ (by simpa using h)]; simp
theorem rd_set_other (l : List Int) (y x : Nat) (v : Int) (h : x < l.length) (hne : y ≠ x) : rd (l.set y v) (x : Int) = rd l (x : Int) := by
  rw [rd_at _ _ (by simpa using h), rd_at _ _ h]; simp [hne]
theorem cnt_zero (l : List Int) (hf : ∀ x ∈ l, 0 ≤ x) : cnt l 0 = List.replicate l.length 0 := by
  refine list_ext_rd (by simp [cnt]) fun x h => ?_
  rw [cnt_length] at h
  have := pre_nonneg l hf x (by omega)
  rw [cnt_rd l 0 x h]
  have e : rd (List.replicate l.length 0) (x : Int) = 0 := by simp [rd, List.getD_eq_getElem?_getD, List.getElem?_replicate, h]
  rw [e]
  unfold within
  rw [if_pos (by omega)]
theorem cnt_all (l : List Int) (hf : ∀ x ∈ l, 0 ≤ x) : cnt l l.sum = l := by
  refine list_ext_rd (by simp [cnt]) fun x h => ?_
  rw [cnt_length] at h
  have h1 := pre_le_sum l hf (x + 1) (by omega)
  have h2 := pre_succ l x h
  have h3 := hf _ (rd_mem l x h)
  rw [cnt_rd l _ x h]
  unfold within
  split
  · omega
  · split <;> omega
/-- One draw more. -/
theorem cnt_step (l : List Int) (hf : ∀ x ∈ l, 0 ≤ x) (u r : Int) (y : Nat) (hy : y < l.length) (h0 : 0 ≤ r) (h1 : r < rd l (y : Int)) (hu : u = pre l y + r) :
    cnt l (u + 1) = (cnt l u).set y (rd (cnt l u) (y : Int) + 1) := by
  refine list_ext_rd (by simp [cnt]) fun x h => ?_
  rw [cnt_length] at h
  rw [cnt_rd l _ x h]
  by_cases e : y = x
  · subst e
    rw [rd_set_same _ _ _ (by rw [cnt_length]; exact hy), cnt_rd l u y hy]
    unfold within
    split <;> split <;> (try split) <;> (try split) <;> omega
  · rw [rd_set_other _ _ _ _ (by rw [cnt_length]; exact h) e, cnt_rd l u x h]
    rcases Nat.lt_or_gt_of_ne e with g | g
    · have a1 := pre_le l hf (show y + 1 ≤ x by omega) (by omega)
      have a2 := pre_succ l y hy
      unfold within
      rw [if_pos (by omega), if_pos (by omega)]
    · have a1 := pre_le l hf (show x + 1 ≤ y by omega) (by omega)
      have a2 := pre_succ l x h
      have a3 := hf _ (rd_mem l x h)
      unfold within
      by_cases z : u ≤ pre l x
      · have : rd l (x : Int) = 0 := by omega
        rw [if_pos z]
        split
        · rfl
        · rw [if_neg (by omega)]; exact this
      · rw [if_neg (by omega), if_neg z]
        by_cases q : u - pre l x ≤ rd l (x : Int)
        · rw [if_pos q]
          by_cases q2 : u + 1 - pre l x ≤ rd l (x : Int)
          · omega
          · rw [if_neg q2]; omega
        · rw [if_neg q, if_neg (by omega)]
theorem cnt_range (l : List Int) (hf : ∀ x ∈ l, 0 ≤ x) (u : Int) (h0 : 0 ≤ u) (x : Nat) (h : x < l.length) : 0 ≤ rd (cnt l u) (x : Int) ∧ rd (cnt l u) (x : Int) ≤ rd l (x : Int) := by
  have h3 := hf _ (rd_mem l x h)
  rw [cnt_rd l u x h]
  unfold within
  split
  · omega
  · split <;> omega
theorem good_nn {l : List Int} (h : IsWts l) : ∀ x ∈ l, 0 ≤ x := fun x hx => (h.fine x hx).1
theorem good_sum {l : List Int} (h : IsWts l) : 2 ≤ l.sum ∧ l.sum ≤ 4294967296 := isSum_pos h.sum
theorem good_rd {l : List Int} (h : IsWts l) (x : Nat) (hx : x < l.length) : 0 ≤ rd l (x : Int) ∧ rd l (x : Int) ≤ 4294967296 := h.fine _ (rd_mem l x hx)

end Go.Proofs.Ytldbdifdldmgfaa.Math
