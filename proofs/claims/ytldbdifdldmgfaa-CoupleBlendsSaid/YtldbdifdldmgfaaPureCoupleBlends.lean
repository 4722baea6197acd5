/- For every two rows of weights and every part the law CoupleBlends returns true: Blend answers as the document's reference does, leaves what is handed in, sums to the same, and is p by all of it, q by nothing. Conditions: none but those of the given statement. -/
import Derived.Test.YtldbdifdldmgfaaEvBl
import Derived.Test.YtldbdifdldmgfaaPAllx24
namespace Go.Proofs.Ytldbdifdldmgfaa.Pure
open Go.RowKit Go.Proofs.Ytldbdifdldmgfaa.PAll Go.Proofs.Ytldbdifdldmgfaa.Math Go.Proofs.YtldbdifdldmgfaaW.PrintWords Go.Proofs.YtldbdifdldmgfaaW.PrintLast Go.Proofs.YtldbdifdldmgfaaW.PrintMore
set_option linter.unusedVariables false
set_option linter.unusedSimpArgs false

theorem blend_same (p q : List Int) (part : Int) (k : Nat) (hk : 400000 ≤ k) : heraldref24_Blend.f k p q part = couple_Blend.f k p q part := by
  unfold couple_Blend.f
  by_cases hP : Pair p q
  · rw [if_pos (errV_pair hP)]
    by_cases hp : part < 0 ∨ part > 65536
    · rw [if_pos hp]
      obtain ⟨k, rfl⟩ : ∃ m, k = m + 1 := ⟨k - 1, by omega⟩
      unfold heraldref24_Blend.f
      rw [together_some p q k (by omega), errV_pair hP]
      simp only [Option.bind_some, if_true]
      by_cases h : part < 0
      · rw [if_pos h]
        rfl
      · rw [if_neg h, decide_eq_true (by omega)]
        rfl
    · rw [if_neg hp]
      exact ref_blend p q part hP (by omega) (by omega) k hk
  · have he := errV_no hP
    rw [if_neg he]
    obtain ⟨k, rfl⟩ : ∃ m, k = m + 1 := ⟨k - 1, by omega⟩
    unfold heraldref24_Blend.f
    rw [together_some p q k (by omega)]
    simp only [Option.bind_some]
    rw [if_neg he]
theorem set_sum (l : List Int) (x : Nat) (v : Int) (h : x < l.length) : (l.set x v).sum = l.sum - rd l (x : Int) + v := by
  induction l generalizing x with
  | nil => simp at h
  | cons a l ih =>
    cases x with
    | zero => simp [rd]; omega
    | succ x =>
      have := ih x (by simpa using h)
      have e : rd (a :: l) ((x + 1 : Nat) : Int) = rd l (x : Int) := by simp [rd]
      rw [e]
      simp only [List.set_cons_succ, List.sum_cons, this]
      omega
theorem outZ_sum {lv : Int → Int} (f : Nat → Int) (n : Nat) (Z : List Int) (hZ : Sorted lv (rng 0 n) Z) : ∀ j : Nat, j ≤ n → (outZ f n Z j).sum = sumN f n + j
  | 0, _ => by rw [outZ_zero, listN_sum]; simp
  | j + 1, h => by
    obtain ⟨hl, z, hz, hr, hnot, htake⟩ := order_at hZ j (by omega)
    rw [← outZ_succ f n Z j z hz htake, set_sum _ _ _ (by unfold outZ; rw [listN_len]; exact hz), outZ_sum f n Z hZ j (by omega), outZ_rd _ _ _ _ _ hz hnot]
    omega
section
variable {p q : List Int} {part : Int} (hP : Pair p q) (h0 : 0 ≤ part) (h1 : part ≤ 65536)
include hP h0 h1
theorem blend_sum : (blendL p q part).sum = p.sum := by
  obtain ⟨Z, hZ⟩ := sorted_exists (fun x => rd (listN (br p q part) p.length) x) p.length
  have hm := missing_range p q part hP h0 h1
  obtain ⟨ms, hms⟩ := Int.eq_ofNat_of_zero_le hm.1
  rw [← outZ_blend p q part p.length ms rfl Z hZ hms, outZ_sum _ _ _ hZ ms (by omega)]
  omega
theorem blend_nn : ∀ x ∈ blendL p q part, 0 ≤ x := by
  intro x hx
  unfold blendL listN at hx
  obtain ⟨t, ht, rfl⟩ := List.mem_map.1 hx
  have := (bo_range p q part hP h0 h1 t (by simpa using ht)).1
  split <;> omega
end
theorem blend_len (p q : List Int) (part : Int) : (blendL p q part).length = p.length := by unfold blendL; rw [listN_len]
theorem blend_at (p q : List Int) (part : Int) (t : Nat) (ht : t < p.length) (hz : p.sum - sumN (bo p q part) p.length = 0) : rd (blendL p q part) (t : Int) = bo p q part t := by
  unfold blendL
  rw [listN_rd _ _ _ ht, hz, if_neg (by omega)]
  omega
theorem blend_all {p q : List Int} (hP : Pair p q) : blendL p q 65536 = p := by
  have e : ∀ t, bo p q 65536 t = rd p (t : Int) := fun t => by unfold bo bx; omega
  have hz : p.sum - sumN (bo p q 65536) p.length = 0 := by
    rw [sumN_congr p.length (fun t _ => e t), sumN_sum]; omega
  refine list_ext_rd (blend_len p q 65536) (fun t ht => ?_)
  rw [blend_len] at ht
  rw [blend_at p q 65536 t ht hz, e]
theorem blend_none {p q : List Int} (hP : Pair p q) : blendL p q 0 = q := by
  have e : ∀ t, bo p q 0 t = rd q (t : Int) := fun t => by unfold bo bx; omega
  have hz : p.sum - sumN (bo p q 0) p.length = 0 := by
    rw [sumN_congr p.length (fun t _ => e t), hP.len, sumN_sum, hP.same]; omega
  refine list_ext_rd ((blend_len p q 0).trans hP.len) (fun t ht => ?_)
  rw [blend_len] at ht
  rw [blend_at p q 0 t ht hz, e]
theorem sum_loop_bl {p q : List Int} (hP : Pair p q) (l : List Int) (hl : l.length = p.length) (hnn : ∀ x ∈ l, 0 ≤ x) (hs : l.sum = p.sum) : ∀ (d i k : Nat), i + d = l.length → d + 2000 ≤ k →
    heraldlaw24_CoupleBlends.l0 k p q (pre l i) l (l.length : Int) (i : Int) = some true := by
  have g1 := hP.wp.len1
  have g2 := hP.wp.len2
  have g3 := good_sum hP.wp
  intro d
  induction d with
  | zero =>
    intro i k hi hk
    obtain ⟨k, rfl⟩ : ∃ m, k = m + 1 := ⟨k - 1, by omega⟩
    obtain rfl : i = l.length := by omega
    simp only [heraldlaw24_CoupleBlends.l0]
    rw [if_neg (by omega)]
    have hA : couple_Blend.f k p q 65536 = some (p, 0) := by
      unfold couple_Blend.f
      rw [if_pos (errV_pair hP), if_neg (by omega), blend_all hP]
    have hB : couple_Blend.f k p q 0 = some (q, 0) := by
      unfold couple_Blend.f
      rw [if_pos (errV_pair hP), if_neg (by omega), blend_none hP]
    rw [hA, hB, sum_some p k (by omega), if_pos hP.wp, pre_all, hs]
    simp only [Option.bind_some, if_true]
    rw [same_some p p (by unfold maxLen; omega) k (by omega), same_some q q (by have := hP.len; unfold maxLen; omega) k (by have := hP.len; omega)]
    simp
  | succ d ih =>
    intro i k hi hk
    obtain ⟨k, rfl⟩ : ∃ m, k = m + 1 := ⟨k - 1, by omega⟩
    simp only [heraldlaw24_CoupleBlends.l0]
    have a := pre_nonneg l hnn (i + 1) (by omega)
    have b := pre_le_sum l hnn (i + 1) (by omega)
    have w1 := Aside0.mk (show wrap64 (pre l i + rd l (i : Int)) = pre l (i + 1) from by rw [← pre_succ l i (by omega), wrap_in (by omega) (by omega)])
    have w2 := Aside0.mk (show wrap64 ((i : Int) + 1) = ((i + 1 : Nat) : Int) from (wrap_in (by omega) (by omega)).trans (by omega))
    rw [if_pos (by omega), if_pos (by omega), if_pos (by omega), w1.out, w2.out]
    exact ih (i + 1) k (by omega) (by omega)
theorem CoupleBlends : heraldlaw24_CoupleBlends.Pure := by
  intro p q part m1 y1 _ m2 y2 _ _
  obtain ⟨k, hk⟩ : ∃ k, k = p.length + q.length + 400010 := ⟨_, rfl⟩
  refine ⟨k + 1, ?_⟩
  unfold heraldlaw24_CoupleBlends.f
  rw [awake_some (k + 1) (by omega)]
  simp only [Option.bind_some, if_true, List.length_nil, List.nil_append, Nat.zero_add]
  rw [if_pos (by omega), if_pos (by omega), blend_same p q part (k + 1) (by omega)]
  have fin : ∀ (l : List Int) (e : Int), couple_Blend.f (k + 1) p q part = some (l, e) → l.length ≤ 512 → (e = 0 → Pair p q ∧ l = blendL p q part ∧ 0 ≤ part ∧ part ≤ 65536) →
      ((couple_Blend.f (k + 1) p q part).bind fun bt511 => ((couple_Blend.f (k + 1) p q part).bind fun bt515 => ((heraldlaw24_same.f (k + 1) bt511.1 bt515.1).bind fun t519 => (if t519 = true then (if bt511.2 = bt515.2 then ((heraldlaw24_same.f (k + 1) p p).bind fun t520 => (if t520 = true then ((heraldlaw24_same.f (k + 1) q q).bind fun t521 => (heraldlaw24_CoupleBlends.j0 (k + 1) p q bt511.1 bt511.2 (!t521))) else (heraldlaw24_CoupleBlends.j0 (k + 1) p q bt511.1 bt511.2 true))) else (heraldlaw24_CoupleBlends.j0 (k + 1) p q bt511.1 bt511.2 true)) else (heraldlaw24_CoupleBlends.j0 (k + 1) p q bt511.1 bt511.2 true))))) = some true := by
    intro l e h hl hok
    rw [h]
    simp only [Option.bind_some]
    rw [same_some l l (by unfold maxLen; omega) (k + 1) (by omega), same_some p p m1 (k + 1) (by omega), same_some q q m2 (k + 1) (by omega)]
    simp only [Option.bind_some, decide_true, if_true, Bool.not_true, heraldlaw24_CoupleBlends.j0, Bool.false_eq_true, if_false]
    by_cases he : e = 0
    · rw [if_pos he]
      obtain ⟨hP, rfl, h0, h1⟩ := hok he
      have := sum_loop_bl hP (blendL p q part) (blend_len p q part) (blend_nn hP h0 h1) (blend_sum hP h0 h1) (blendL p q part).length 0 k (by omega) (by rw [blend_len]; omega)
      rw [pre_zero] at this
      exact this
    · rw [if_neg he]
  by_cases hP : Pair p q
  · by_cases hp : part < 0 ∨ part > 65536
    · exact fin [] 1 (by unfold couple_Blend.f; rw [if_pos (errV_pair hP), if_pos hp]) (by simp) (fun h => absurd h (by decide))
    · exact fin (blendL p q part) 0 (by unfold couple_Blend.f; rw [if_pos (errV_pair hP), if_neg hp]) (by rw [blend_len]; exact hP.wp.len2) (fun _ => ⟨hP, rfl, by omega, by omega⟩)
  · have he := errV_no hP
    exact fin [] (errV p q) (by unfold couple_Blend.f; rw [if_neg he]) (by simp) (fun h => absurd h he)
end Go.Proofs.Ytldbdifdldmgfaa.Pure
