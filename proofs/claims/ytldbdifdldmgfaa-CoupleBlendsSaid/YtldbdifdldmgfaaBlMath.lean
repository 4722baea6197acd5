/- Plain: the numbers of a blend: whole parts, rests, how many are missing. -/
import Derived.Test.YtldbdifdldmgfaaSoF
import Derived.Test.YtldbdifdldmgfaaEvB
namespace Go.Proofs.Ytldbdifdldmgfaa.Math
open Go.RowKit Go.Proofs.Ytldbdifdldmgfaa.PAll Go.Proofs.YtldbdifdldmgfaaW.PrintWords Go.Proofs.YtldbdifdldmgfaaW.PrintLast Go.Proofs.YtldbdifdldmgfaaW.PrintMore
set_option linter.unusedVariables false
set_option linter.unusedSimpArgs false

/-- A token's weight, 65536 times as great. -/
def bx (p q : List Int) (part : Int) (t : Nat) : Int := part * rd p (t : Int) + (65536 - part) * rd q (t : Int)
def bo (p q : List Int) (part : Int) (t : Nat) : Int := bx p q part t / 65536
def br (p q : List Int) (part : Int) (t : Nat) : Int := bx p q part t % 65536
def listN (f : Nat → Int) (n : Nat) : List Int := (List.range n).map f
theorem listN_len (f : Nat → Int) (n : Nat) : (listN f n).length = n := by simp [listN]
theorem listN_rd (f : Nat → Int) (n i : Nat) (h : i < n) : rd (listN f n) (i : Int) = f i := by simp [rd, listN, List.getD_eq_getElem?_getD, h]
/-- The first i of f, then zeros. -/
def halfN (f : Nat → Int) (n i : Nat) : List Int := listN (fun t => if t < i then f t else 0) n
theorem halfN_len (f : Nat → Int) (n i : Nat) : (halfN f n i).length = n := listN_len _ _
theorem halfN_zero (f : Nat → Int) (n : Nat) : halfN f n 0 = List.replicate n 0 := by
  apply List.ext_getElem
  · simp [halfN, listN]
  · intro i h1 h2; simp [halfN, listN]
theorem halfN_all (f : Nat → Int) (n : Nat) : halfN f n n = listN f n := by
  apply List.ext_getElem
  · simp [halfN, listN]
  · intro i h1 h2
    have : i < n := by simpa [halfN, listN] using h1
    simp [halfN, listN, this]
theorem halfN_succ (f : Nat → Int) (n i : Nat) (h : i < n) : (halfN f n i).set i (f i) = halfN f n (i + 1) := by
  apply List.ext_getElem
  · simp [halfN, listN]
  · intro j h1 h2
    have hj : j < n := by simpa [halfN, listN] using h2
    rw [List.getElem_set]
    by_cases e : i = j
    · subst e
      rw [if_pos rfl]
      simp [halfN, listN]
    · rw [if_neg e]
      simp only [halfN, listN, List.getElem_map, List.getElem_range]
      by_cases c : j < i
      · rw [if_pos c, if_pos (by omega)]
      · rw [if_neg c, if_neg (by omega)]
theorem halfN_rd (f : Nat → Int) (n i j : Nat) (h : j < n) : rd (halfN f n i) (j : Int) = if j < i then f j else 0 := listN_rd _ _ _ h
theorem rng_listN (n : Nat) : rng 0 n = listN (fun t => (t : Int)) n := by simp [rng, listN]
/-- The sum of f over the first i. -/
def sumN (f : Nat → Int) : Nat → Int
  | 0 => 0
  | i + 1 => sumN f i + f i
theorem sumN_add (f g : Nat → Int) : ∀ i, sumN (fun t => f t + g t) i = sumN f i + sumN g i
  | 0 => rfl
  | i + 1 => by simp only [sumN]; rw [sumN_add f g i]; omega
theorem sumN_mul (c : Int) (f : Nat → Int) : ∀ i, sumN (fun t => c * f t) i = c * sumN f i
  | 0 => by simp [sumN]
  | i + 1 => by simp only [sumN]; rw [sumN_mul c f i, Int.mul_add]
theorem sumN_congr {f g : Nat → Int} : ∀ i, (∀ t, t < i → f t = g t) → sumN f i = sumN g i
  | 0, _ => rfl
  | i + 1, h => by simp only [sumN]; rw [sumN_congr i (fun t ht => h t (by omega)), h i (by omega)]
theorem sumN_nonneg {f : Nat → Int} : ∀ i, (∀ t, t < i → 0 ≤ f t) → 0 ≤ sumN f i
  | 0, _ => Int.le_refl _
  | i + 1, h => by simp only [sumN]; have := sumN_nonneg i (fun t ht => h t (by omega)); have := h i (by omega); omega
theorem sumN_le {f g : Nat → Int} : ∀ i, (∀ t, t < i → f t ≤ g t) → sumN f i ≤ sumN g i
  | 0, _ => Int.le_refl _
  | i + 1, h => by simp only [sumN]; have := sumN_le i (fun t ht => h t (by omega)); have := h i (by omega); omega
theorem sumN_const (c : Int) : ∀ i : Nat, sumN (fun _ => c) i = c * i
  | 0 => by simp [sumN]
  | i + 1 => by simp only [sumN]; rw [sumN_const c i, Int.natCast_succ, Int.mul_add, Int.mul_one]
theorem sumN_pre (l : List Int) : ∀ i : Nat, i ≤ l.length → sumN (fun t => rd l (t : Int)) i = pre l i
  | 0, _ => by rw [pre_zero]; rfl
  | i + 1, h => by simp only [sumN]; rw [sumN_pre l i (by omega), pre_succ l i (by omega)]
theorem sumN_sum (l : List Int) : sumN (fun t => rd l (t : Int)) l.length = l.sum := by rw [sumN_pre l _ (Nat.le_refl _), pre_all]
section
variable (p q : List Int) (part : Int) (hP : Pair p q) (h0 : 0 ≤ part) (h1 : part ≤ 65536)
include hP h0 h1
theorem bx_parts (t : Nat) (ht : t < p.length) : 0 ≤ part * rd p (t : Int) ∧ part * rd p (t : Int) ≤ 281474976710656 ∧ 0 ≤ (65536 - part) * rd q (t : Int) ∧ (65536 - part) * rd q (t : Int) ≤ 281474976710656 := by
  have a := good_rd hP.wp t ht
  have b := good_rd hP.wq t (by rw [← hP.len]; exact ht)
  refine ⟨Int.mul_nonneg h0 a.1, ?_, Int.mul_nonneg (by omega) b.1, ?_⟩
  · have := Int.mul_le_mul h1 a.2 a.1 (by omega)
    omega
  · have := Int.mul_le_mul (show 65536 - part ≤ 65536 by omega) b.2 b.1 (by omega)
    omega
theorem bx_range (t : Nat) (ht : t < p.length) : 0 ≤ bx p q part t ∧ bx p q part t ≤ 562949953421312 := by
  have := bx_parts p q part hP h0 h1 t ht
  unfold bx; omega
theorem bo_range (t : Nat) (ht : t < p.length) : 0 ≤ bo p q part t ∧ bo p q part t ≤ 8589934592 := by
  have := bx_range p q part hP h0 h1 t ht
  unfold bo; omega
theorem br_range (t : Nat) : 0 ≤ br p q part t ∧ br p q part t < 65536 := by
  have u_ := And.intro hP (And.intro h0 h1)
  unfold br; omega
theorem bx_sum : sumN (bx p q part) p.length = 65536 * p.sum := by
  have u_ := And.intro h0 h1
  have e : sumN (bx p q part) p.length = sumN (fun t => part * rd p (t : Int) + (65536 - part) * rd q (t : Int)) p.length := rfl
  rw [e, sumN_add, sumN_mul, sumN_mul, sumN_sum]
  have : sumN (fun t => rd q (t : Int)) p.length = q.sum := by rw [hP.len, sumN_sum]
  rw [this, hP.same, ← Int.add_mul]
  congr 1; omega
/-- What is missing, 65536 times, is the sum of the rests. -/
theorem br_sum : sumN (br p q part) p.length = 65536 * (p.sum - sumN (bo p q part) p.length) := by
  have h := bx_sum p q part hP h0 h1
  have e : sumN (bx p q part) p.length = sumN (fun t => 65536 * bo p q part t + br p q part t) p.length :=
    sumN_congr _ (fun t _ => by unfold bo br; omega)
  rw [e, sumN_add, sumN_mul] at h
  omega
theorem missing_range : 0 ≤ p.sum - sumN (bo p q part) p.length ∧ p.sum - sumN (bo p q part) p.length < p.length := by
  have h := br_sum p q part hP h0 h1
  have a := sumN_nonneg (f := br p q part) p.length (fun t _ => (br_range p q part hP h0 h1 t).1)
  have b := sumN_le (f := br p q part) (g := fun _ => 65535) p.length (fun t _ => by have := (br_range p q part hP h0 h1 t).2; omega)
  rw [sumN_const] at b
  have := hP.wp.len1
  omega
theorem missing_at (i : Nat) (hi : i ≤ p.length) : -8589934592 * 512 ≤ p.sum - sumN (bo p q part) i ∧ p.sum - sumN (bo p q part) i ≤ 4294967296 := by
  have a := sumN_nonneg (f := bo p q part) i (fun t ht => (bo_range p q part hP h0 h1 t (by omega)).1)
  have b := sumN_le (f := bo p q part) (g := fun _ => 8589934592) i (fun t ht => (bo_range p q part hP h0 h1 t (by omega)).2)
  rw [sumN_const] at b
  have c := good_sum hP.wp
  have d := hP.wp.len2
  omega
end
/-- One more for each of the first j of an order. -/
def outZ (f : Nat → Int) (n : Nat) (Z : List Int) (j : Nat) : List Int := listN (fun t => f t + if (t : Int) ∈ Z.take j then 1 else 0) n
theorem outZ_zero (f : Nat → Int) (n : Nat) (Z : List Int) : outZ f n Z 0 = listN f n := by
  unfold outZ; congr 1; funext t; simp
theorem order_at {lv : Int → Int} {n : Nat} {Z : List Int} (h : Sorted lv (rng 0 n) Z) (j : Nat) (hj : j < n) : Z.length = n ∧ ∃ z : Nat, z < n ∧ rd Z (j : Int) = (z : Int) ∧ ¬ (z : Int) ∈ Z.take j ∧ Z.take (j + 1) = Z.take j ++ [(z : Int)] := by
  have hl : Z.length = n := by have := h.perm.length_eq; rw [rng_len] at this; omega
  have hm : rd Z (j : Int) ∈ Z := rd_mem Z j (by omega)
  have hr := (mem_rng 0 n _).1 (h.perm.mem_iff.1 hm)
  obtain ⟨z, hz⟩ := Int.eq_ofNat_of_zero_le (show 0 ≤ rd Z (j : Int) by omega)
  have ht : Z.take (j + 1) = Z.take j ++ [rd Z (j : Int)] := by
    rw [List.take_succ_eq_append_getElem (by omega), rd_at Z j (by omega)]
  refine ⟨hl, z, by omega, hz, ?_, by rw [ht, hz]⟩
  intro hc
  have hp := h.pair
  rw [← List.take_append_drop (j + 1) Z, List.pairwise_append, ht, List.pairwise_append] at hp
  have := hp.1.2.2 (z : Int) hc (rd Z (j : Int)) (by simp)
  rw [hz] at this
  unfold prec at this
  omega
/-- How many go ahead of t. -/
def rk (lv : Int → Int) (n : Nat) (t : Int) : Nat := ((rng 0 n).filter (fun s => decide (lv t < lv s ∨ (lv s = lv t ∧ s < t)))).length
theorem take_iff {lv : Int → Int} {n : Nat} {Z : List Int} (h : Sorted lv (rng 0 n) Z) (j : Nat) (t : Int) (ht : t ∈ rng 0 n) : t ∈ Z.take j ↔ rk lv n t < j := by
  obtain ⟨i, hi, rfl⟩ := List.getElem_of_mem (h.perm.mem_iff.2 ht)
  have hrow : Z = Z.take i ++ (Z[i] :: Z.drop (i + 1)) := by rw [← List.drop_eq_getElem_cons hi, List.take_append_drop]
  have hrk : rk lv n Z[i] = i := by
    unfold rk
    rw [← (h.perm.filter _).length_eq]
    have hp := h.pair
    rw [hrow, List.pairwise_append, List.pairwise_cons] at hp
    generalize hx : Z[i] = x at *
    rw [hrow, List.filter_append, List.filter_cons]
    have e1 : (Z.take i).filter (fun s => decide (lv x < lv s ∨ (lv s = lv x ∧ s < x))) = Z.take i := by
      apply List.filter_eq_self.2
      intro s hs
      have := hp.2.2 s hs x (by simp)
      unfold prec at this
      exact decide_eq_true this
    have e2 : (Z.drop (i + 1)).filter (fun s => decide (lv x < lv s ∨ (lv s = lv x ∧ s < x))) = [] := by
      apply List.filter_eq_nil_iff.2
      intro s hs
      have := hp.2.1.1 s hs
      unfold prec at this
      simp only [decide_eq_true_eq]
      omega
    rw [e1, e2, if_neg (by simp)]
    simp; omega
  rw [hrk]
  constructor
  · intro hc
    obtain ⟨k, hk, e⟩ := List.getElem_of_mem hc
    rw [List.length_take] at hk
    rw [List.getElem_take] at e
    rcases Nat.lt_trichotomy i k with h1 | h1 | h1
    · exfalso
      have := List.pairwise_iff_getElem.1 h.pair i k hi (by omega) h1
      rw [e] at this
      unfold prec at this
      omega
    · omega
    · exfalso
      have := List.pairwise_iff_getElem.1 h.pair k i (by omega) hi h1
      rw [e] at this
      unfold prec at this
      omega
  · intro hlt
    have : (Z.take j)[i]'(by rw [List.length_take]; omega) = Z[i] := by rw [List.getElem_take]
    rw [← this]
    exact List.getElem_mem _
/-- The blend. -/
def blendL (p q : List Int) (part : Int) : List Int :=
  listN (fun t => bo p q part t + if (rk (fun x => rd (listN (br p q part) p.length) x) p.length (t : Int) : Int) < p.sum - sumN (bo p q part) p.length then 1 else 0) p.length
theorem outZ_blend (p q : List Int) (part : Int) (n ms : Nat) (hn : p.length = n) (Z : List Int) (h : Sorted (fun x => rd (listN (br p q part) n) x) (rng 0 n) Z) (hm : p.sum - sumN (bo p q part) n = (ms : Int)) : outZ (bo p q part) n Z ms = blendL p q part := by
  subst hn
  unfold outZ blendL
  apply List.ext_getElem
  · simp [listN]
  · intro i h1 h2
    have hi : i < p.length := by simpa [listN] using h2
    simp only [listN, List.getElem_map, List.getElem_range]
    congr 1
    have hiff := take_iff h ms (i : Int) ((mem_rng 0 p.length _).2 (by omega))
    rw [hm]
    simp only [listN] at hiff
    by_cases c : (i : Int) ∈ Z.take ms
    · rw [if_pos c, if_pos (by have := hiff.1 c; omega)]
    · rw [if_neg c, if_neg (by intro h3; exact c (hiff.2 (by omega)))]
theorem outZ_rd (f : Nat → Int) (n : Nat) (Z : List Int) (j z : Nat) (hz : z < n) (hn : ¬ (z : Int) ∈ Z.take j) : rd (outZ f n Z j) (z : Int) = f z := by
  unfold outZ; rw [listN_rd _ _ _ hz, if_neg hn]; omega
theorem outZ_succ (f : Nat → Int) (n : Nat) (Z : List Int) (j z : Nat) (hz : z < n) (ht : Z.take (j + 1) = Z.take j ++ [(z : Int)]) : (outZ f n Z j).set z (f z + 1) = outZ f n Z (j + 1) := by
  unfold outZ
  apply List.ext_getElem
  · simp [listN]
  · intro i h1 h2
    have hi : i < n := by simpa [listN] using h2
    rw [List.getElem_set]
    simp only [listN, List.getElem_map, List.getElem_range, ht, List.mem_append, List.mem_singleton]
    by_cases e : z = i
    · subst e
      rw [if_pos rfl, if_pos (.inr rfl)]
    · rw [if_neg e]
      have e2 : ¬ (i : Int) = (z : Int) := by omega
      simp [e2]
end Go.Proofs.Ytldbdifdldmgfaa.Math
