/- Plain: the reference's Blend is the blend; it sums to the same; by all of it p, by nothing q. -/
import Derived.Test.YtldbdifdldmgfaaHBlend
import Derived.Test.YtldbdifdldmgfaaPAllx23
import Derived.Test.YtldbdifdldmgfaaEvA
namespace Go.Proofs.Ytldbdifdldmgfaa.Math
open Go.RowKit Go.Proofs.Ytldbdifdldmgfaa.PAll Go.Proofs.YtldbdifdldmgfaaW.PrintWords Go.Proofs.YtldbdifdldmgfaaW.PrintLast Go.Proofs.YtldbdifdldmgfaaW.PrintMore
set_option linter.unusedVariables false
set_option linter.unusedSimpArgs false

theorem sorted_exists (lv : Int → Int) (n : Nat) : ∃ Z, Sorted lv (rng 0 n) Z := by
  let le : Int → Int → Bool := fun a b => decide (lv b < lv a ∨ (lv a = lv b ∧ a ≤ b))
  refine ⟨(rng 0 n).mergeSort le, List.mergeSort_perm _ _, ?_⟩
  have h1 : ((rng 0 n).mergeSort le).Pairwise (fun a b => le a b = true) := by
    apply List.pairwise_mergeSort
    · intro a b c hab hbc
      simp only [le, decide_eq_true_eq] at *
      omega
    · intro a b
      simp only [le, Bool.or_eq_true, decide_eq_true_eq]
      omega
  have h2 : ((rng 0 n).mergeSort le).Pairwise (fun a b => a ≠ b) := by
    have h3 : (rng 0 n).Pairwise (fun a b => a ≠ b) := (rng_up 0 n).imp (fun h => by omega)
    exact (List.Perm.pairwise_iff (fun h => Ne.symm h) (List.mergeSort_perm _ _)).2 h3
  refine (h1.and h2).imp ?_
  intro a b h
  obtain ⟨h3, h4⟩ := h
  simp only [le, decide_eq_true_eq] at h3
  unfold prec
  omega
theorem listN_succ (f : Nat → Int) (i : Nat) : listN f (i + 1) = listN f i ++ [f i] := by
  unfold listN; rw [List.range_succ, List.map_append]; rfl
theorem listN_sum (f : Nat → Int) : ∀ n, (listN f n).sum = sumN f n
  | 0 => rfl
  | n + 1 => by rw [listN_succ, sum_append, listN_sum f n]; simp [sumN]
def restZ (f : Nat → Int) (n : Nat) (Z : List Int) (j : Nat) : List Int := listN (fun t => if (t : Int) ∈ Z.take j then -1 else f t) n
theorem restZ_zero (f : Nat → Int) (n : Nat) (Z : List Int) : restZ f n Z 0 = listN f n := by
  unfold restZ; simp
theorem restZ_succ (f : Nat → Int) (n : Nat) (Z : List Int) (j z : Nat) (hz : z < n) (ht : Z.take (j + 1) = Z.take j ++ [(z : Int)]) : (restZ f n Z j).set z (-1) = restZ f n Z (j + 1) := by
  unfold restZ
  apply List.ext_getElem
  · simp [listN]
  · intro i h1 h2
    rw [List.getElem_set]
    simp only [listN, List.getElem_map, List.getElem_range, ht, List.mem_append, List.mem_singleton]
    by_cases e : z = i
    · subst e
      rw [if_pos rfl, if_pos (.inr rfl)]
    · rw [if_neg e]
      have e2 : ¬ (i : Int) = (z : Int) := by omega
      simp only [e2, or_false]
/-- The first one of the greatest. -/
structure MF (r : List Int) (n z : Nat) : Prop where
  lt : z < n
  top : ∀ i : Nat, i < n → rd r (i : Int) ≤ rd r (z : Int) ∧ (i < z → rd r (i : Int) < rd r (z : Int))
theorem MF.one {r : List Int} {n z z' : Nat} (h : MF r n z) (h' : MF r n z') : z = z' := by
  rcases Nat.lt_trichotomy z z' with h1 | h1 | h1
  · have a := (h'.top z h.lt).2 h1
    have b := (h.top z' h'.lt).1
    omega
  · exact h1
  · have a := (h.top z' h'.lt).2 h1
    have b := (h'.top z h.lt).1
    omega
section
variable (p q : List Int) (part : Int) (hP : Pair p q) (h0 : 0 ≤ part) (h1 : part ≤ 65536)
include hP h0 h1
theorem step_vals (i : Nat) (hi : i < p.length) : wrap64 ((wrap64 (part * (rd p (i : Int)))) + (wrap64 ((wrap64 (65536 - part)) * (rd q (i : Int))))) = bx p q part i ∧
    wrap64 (Int.tdiv (bx p q part i) 65536) = bo p q part i ∧ Int.tmod (bx p q part i) 65536 = br p q part i := by
  obtain ⟨a, b, c, d⟩ := bx_parts p q part hP h0 h1 i hi
  have e := bx_range p q part hP h0 h1 i hi
  refine ⟨?_, ?_, ?_⟩
  · rw [wrap_in (a := part * rd p (i : Int)) (by omega) (by omega), wrap_in (a := 65536 - part) (by omega) (by omega), wrap_in (a := (65536 - part) * rd q (i : Int)) (by omega) (by omega), wrap_in (by omega) (by omega)]
    rfl
  · rw [Int.tdiv_eq_ediv_of_nonneg e.1, wrap_in (by omega) (by omega)]
    rfl
  · rw [Int.tmod_eq_emod_of_nonneg e.1]
    rfl
theorem ref_first (s : Int) (hs : s = p.sum) : ∀ (d i k : Nat), i + d = p.length → d + 1 ≤ k → ∃ k', k ≤ k' + d + 1 ∧
    heraldref24_Blend.l0 k p q part (listN (bo p q part) i) (listN (br p q part) i) (s - sumN (bo p q part) i) (p.length : Int) (i : Int) = heraldref24_Blend.l1 k' (listN (bo p q part) p.length) (listN (br p q part) p.length) (s - sumN (bo p q part) p.length) := by
  have hl2 := hP.wp.len2
  intro d
  induction d with
  | zero =>
    intro i k hi hk
    obtain ⟨k, rfl⟩ : ∃ m, k = m + 1 := ⟨k - 1, by omega⟩
    obtain rfl : i = p.length := by omega
    refine ⟨k, by omega, ?_⟩
    simp only [heraldref24_Blend.l0]
    rw [if_neg (by omega)]
  | succ d ih =>
    intro i k hi hk
    obtain ⟨k, rfl⟩ : ∃ m, k = m + 1 := ⟨k - 1, by omega⟩
    obtain ⟨k', e1, e2⟩ := ih (i + 1) k (by omega) (by omega)
    refine ⟨k', by omega, ?_⟩
    rw [← e2]
    simp only [heraldref24_Blend.l0]
    have hip : i < p.length := by omega
    obtain ⟨v1, v2, v3⟩ := step_vals p q part hP h0 h1 i hip
    have m1 := missing_at p q part hP h0 h1 (i + 1) (by omega)
    have c1 : (i : Int) < (p.length : Int) := by omega
    have c2 : (0 : Int) ≤ (i : Int) := by omega
    have c3 : (i : Int) < (q.length : Int) := by rw [← hP.len]; omega
    have c4 : (listN (bo p q part) i).length < 17592186044416 := by rw [listN_len]; omega
    have c5 : (listN (br p q part) i).length < 17592186044416 := by rw [listN_len]; omega
    have w1 := Aside0.mk (show wrap64 ((i : Int) + 1) = ((i + 1 : Nat) : Int) from (wrap_in (by omega) (by omega)).trans (by omega))
    have w2 := Aside0.mk (show wrap64 (s - sumN (bo p q part) i - bo p q part i) = s - sumN (bo p q part) (i + 1) from by
      have e : s - sumN (bo p q part) i - bo p q part i = s - sumN (bo p q part) (i + 1) := by simp only [sumN]; omega
      rw [e, hs, wrap_in (by omega) (by omega)])
    rw [if_pos c1, if_pos c2, if_pos c1, if_pos c3, if_pos c4, if_pos c5, v1, v2, v3, w1.out, w2.out, ← listN_succ, ← listN_succ]
theorem ref_scan (o r : List Int) (m : Int) (n : Nat) (hn : 0 < n) (hn2 : n ≤ 512) (ho : o.length = n) (hr : r.length = n) : ∀ (d i b k : Nat), i + d = n → b < n → (b < i ∨ (i = 0 ∧ b = 0)) → (∀ t : Nat, t < i → rd r (t : Int) ≤ rd r (b : Int) ∧ (t < b → rd r (t : Int) < rd r (b : Int))) → d + 1 ≤ k →
    ∃ k' z, k ≤ k' + d + 1 ∧ MF r n z ∧ heraldref24_Blend.l2 k o r m (b : Int) (n : Int) (i : Int) = heraldref24_Blend.l1 k' (o.set z (wrap64 (rd o (z : Int) + 1))) (r.set z (-1)) (wrap64 (m - 1)) := by
  have u_ := And.intro hP (And.intro h0 h1)
  intro d
  induction d with
  | zero =>
    intro i b k hi hb hbi hmf hk
    obtain ⟨k, rfl⟩ : ∃ m, k = m + 1 := ⟨k - 1, by omega⟩
    obtain rfl : i = n := by omega
    refine ⟨k, b, by omega, ⟨hb, hmf⟩, ?_⟩
    simp only [heraldref24_Blend.l2]
    rw [if_neg (by omega), if_pos (by omega), if_pos (by omega), if_pos (by omega), Int.toNat_natCast]
  | succ d ih =>
    intro i b k hi hb hbi hmf hk
    obtain ⟨k, rfl⟩ : ∃ m, k = m + 1 := ⟨k - 1, by omega⟩
    simp only [heraldref24_Blend.l2]
    have w1 := Aside0.mk (show wrap64 ((i : Int) + 1) = ((i + 1 : Nat) : Int) from (wrap_in (by omega) (by omega)).trans (by omega))
    rw [if_pos (by omega), if_pos (by omega), if_pos (by omega), if_pos (by omega), if_pos (by omega)]
    by_cases c : rd r (i : Int) > rd r (b : Int)
    · rw [if_pos c, w1.out]
      obtain ⟨k', z, e1, e2, e3⟩ := ih (i + 1) i k (by omega) (by omega) (by omega) (by
        intro t ht
        by_cases e : t = i
        · subst e; exact ⟨Int.le_refl _, fun h => absurd h (Nat.lt_irrefl _)⟩
        · have := hmf t (by omega); exact ⟨by omega, fun _ => by omega⟩) (by omega)
      exact ⟨k', z, by omega, e2, e3⟩
    · rw [if_neg c, w1.out]
      obtain ⟨k', z, e1, e2, e3⟩ := ih (i + 1) b k (by omega) (by omega) (by omega) (by
        intro t ht
        by_cases e : t = i
        · subst e; exact ⟨by omega, fun h => by omega⟩
        · exact hmf t (by omega)) (by omega)
      exact ⟨k', z, by omega, e2, e3⟩
theorem top_of (Z : List Int) (hZ : Sorted (fun x => rd (listN (br p q part) p.length) x) (rng 0 p.length) Z) (m : Nat) (hm : m < p.length) : ∃ z : Nat, MF (restZ (br p q part) p.length Z m) p.length z ∧ ¬ (z : Int) ∈ Z.take m ∧ Z.take (m + 1) = Z.take m ++ [(z : Int)] := by
  obtain ⟨hl, z, hz, hr, hnot, htake⟩ := order_at hZ m hm
  refine ⟨z, ⟨hz, ?_⟩, hnot, htake⟩
  intro i hi
  have ez : rd (restZ (br p q part) p.length Z m) (z : Int) = br p q part z := by unfold restZ; rw [listN_rd _ _ _ hz, if_neg hnot]
  have ei : rd (restZ (br p q part) p.length Z m) (i : Int) = if (i : Int) ∈ Z.take m then -1 else br p q part i := by unfold restZ; rw [listN_rd _ _ _ hi]
  rw [ez, ei]
  have bz := br_range p q part hP h0 h1 z
  by_cases c : (i : Int) ∈ Z.take m
  · rw [if_pos c]; exact ⟨by omega, fun _ => by omega⟩
  · rw [if_neg c]
    by_cases e : i = z
    · subst e; exact ⟨Int.le_refl _, fun h => absurd h (Nat.lt_irrefl _)⟩
    · have hmem : (i : Int) ∈ Z := hZ.perm.mem_iff.2 ((mem_rng 0 p.length _).2 (by omega))
      have hp := hZ.pair
      have hrow : Z = (Z.take m ++ [(z : Int)]) ++ Z.drop (m + 1) := by rw [← htake, List.take_append_drop]
      rw [hrow] at hmem hp
      rw [List.pairwise_append] at hp
      have hd : (i : Int) ∈ Z.drop (m + 1) := by
        simp only [List.mem_append, List.mem_singleton] at hmem
        rcases hmem with (h | h) | h
        · exact absurd h c
        · exact absurd h (by omega)
        · exact h
      have := hp.2.2 (z : Int) (by simp) (i : Int) hd
      unfold prec at this
      simp only [listN_rd _ _ _ hz, listN_rd _ _ _ hi] at this
      exact ⟨by omega, fun _ => by omega⟩
theorem ref_picks (Z : List Int) (hZ : Sorted (fun x => rd (listN (br p q part) p.length) x) (rng 0 p.length) Z) (ms : Nat) (hms : ms < p.length) : ∀ (d m k : Nat), m + d = ms → 600 * d + 1 ≤ k →
    heraldref24_Blend.l1 k (outZ (bo p q part) p.length Z m) (restZ (br p q part) p.length Z m) ((ms : Int) - (m : Int)) = some (outZ (bo p q part) p.length Z ms, 0) := by
  have hl1 := hP.wp.len1
  have hl2 := hP.wp.len2
  intro d
  induction d with
  | zero =>
    intro m k hm hk
    obtain ⟨k, rfl⟩ : ∃ m, k = m + 1 := ⟨k - 1, by omega⟩
    obtain rfl : m = ms := by omega
    simp only [heraldref24_Blend.l1]
    rw [if_neg (by omega)]
  | succ d ih =>
    intro m k hm hk
    obtain ⟨k, rfl⟩ : ∃ m, k = m + 1 := ⟨k - 1, by omega⟩
    simp only [heraldref24_Blend.l1]
    rw [if_pos (by omega)]
    have e1 : (outZ (bo p q part) p.length Z m).length = p.length := by unfold outZ; rw [listN_len]
    have e2 : (restZ (br p q part) p.length Z m).length = p.length := by unfold restZ; rw [listN_len]
    obtain ⟨k', z, f1, f2, f3⟩ := ref_scan p q part hP h0 h1 (outZ (bo p q part) p.length Z m) (restZ (br p q part) p.length Z m) ((ms : Int) - (m : Int)) p.length (by omega) hl2 e1 e2 p.length 0 0 k (by omega) (by omega) (.inr ⟨rfl, rfl⟩) (fun t ht => by omega) (by omega)
    obtain ⟨z', g1, g2, g3⟩ := top_of p q part hP h0 h1 Z hZ m (by omega)
    obtain rfl := f2.one g1
    rw [e2]
    rw [show ((0 : Nat) : Int) = 0 from rfl] at f3
    rw [f3]
    have hb := bo_range p q part hP h0 h1 z f2.lt
    rw [outZ_rd _ _ _ _ _ f2.lt g2, wrap_in (a := bo p q part z + 1) (by omega) (by omega), outZ_succ _ _ _ _ _ f2.lt g3, restZ_succ _ _ _ _ _ f2.lt g3, wrap_in (by omega) (by omega), show (ms : Int) - (m : Int) - 1 = (ms : Int) - ((m + 1 : Nat) : Int) by omega]
    exact ih (m + 1) k' (by omega) (by omega)
theorem ref_blend (k : Nat) (hk : 400000 ≤ k) : heraldref24_Blend.f k p q part = some (blendL p q part, 0) := by
  obtain ⟨k, rfl⟩ : ∃ m, k = m + 1 := ⟨k - 1, by omega⟩
  have hl1 := hP.wp.len1
  have hl2 := hP.wp.len2
  unfold heraldref24_Blend.f
  rw [together_some p q k (by omega), errV_pair hP]
  simp only [Option.bind_some, if_true]
  rw [if_neg (by omega), decide_eq_false (by omega)]
  simp only [heraldref24_Blend.j0, Bool.false_eq_true, if_false]
  rw [sum_some p k (by omega), if_pos hP.wp]
  simp only [Option.bind_some]
  obtain ⟨k', e1, e2⟩ := ref_first p q part hP h0 h1 p.sum rfl p.length 0 k (by omega) (by omega)
  have e3 : p.sum - sumN (bo p q part) 0 = p.sum := by simp [sumN]
  rw [e3] at e2
  rw [show listN (bo p q part) 0 = [] from rfl, show listN (br p q part) 0 = [] from rfl, show ((0 : Nat) : Int) = 0 from rfl] at e2
  rw [e2]
  obtain ⟨Z, hZ⟩ := sorted_exists (fun x => rd (listN (br p q part) p.length) x) p.length
  have hm := missing_range p q part hP h0 h1
  obtain ⟨ms, hms⟩ := Int.eq_ofNat_of_zero_le hm.1
  rw [hms, ← outZ_blend p q part p.length ms rfl Z hZ hms]
  have := ref_picks p q part hP h0 h1 Z hZ ms (by omega) ms 0 k' (by omega) (by omega)
  rw [outZ_zero, restZ_zero, show ((ms : Int) - ((0 : Nat) : Int)) = (ms : Int) by omega] at this
  exact this
end
end Go.Proofs.Ytldbdifdldmgfaa.Math
