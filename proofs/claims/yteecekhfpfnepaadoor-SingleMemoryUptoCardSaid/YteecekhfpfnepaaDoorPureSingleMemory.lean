/- The plain law of SingleMemory. -/
import Derived.Test.YteecekhfpfnepaaDoorMemW
namespace Go.Proofs.YteecekhfpfnepaaDoor.Pure
open Go.RowKit Go.Proofs.YteecekhfpfnepaaDoor.PAll Go.Proofs.YteecekhfpfnepaaDoor.Sg Go.Proofs.YteecekhfpfnepaaDoorW.PrintWords Go.Proofs.YteecekhfpfnepaaDoorW.PrintLast
set_option linter.unusedVariables false
set_option linter.unusedSimpArgs false

def mkAt (i : Int) : Int := IntKind.i8.wrap (wrap64 (i - 1))
/-- Three rows of m numbers, the first n of them marked. -/
structure Mk (m : Nat) (R : List (List Int)) (n : Nat) : Prop where
  three : R.length = 3
  len : ∀ i : Nat, i < 3 → (rd_L5 R (i : Int)).length = m
  mark : ∀ i : Nat, i < n → ∀ t : Nat, t < m → rd (rd_L5 R (i : Int)) (t : Int) = mkAt (i : Int)
theorem rows_at (R : List (List Int)) (i j : Nat) (r : List Int) (hi : i < R.length) : rd_L5 (R.set i r) (j : Int) = if i = j then r else rd_L5 R (j : Int) := by
  unfold rd_L5
  rw [Int.toNat_natCast, List.getD_eq_getElem?_getD, List.getD_eq_getElem?_getD, List.getElem?_set]
  by_cases e : i = j
  · subst e; simp [hi]
  · simp [e]
theorem num_at (l : List Int) (i j : Nat) (x : Int) (hi : i < l.length) : rd (l.set i x) (j : Int) = if i = j then x else rd l (j : Int) := by
  unfold rd
  rw [Int.toNat_natCast, List.getD_eq_getElem?_getD, List.getD_eq_getElem?_getD, List.getElem?_set]
  by_cases e : i = j
  · subst e; simp [hi]
  · simp [e]
theorem up64 (i : Nat) (h : i < 4611686018427387904) : wrap64 ((i : Int) + 1) = ((i + 1 : Nat) : Int) := (wrap_in (by omega) (by omega)).trans (by omega)
section
variable (x0 x3 : List Int) (m : Nat) (hm : m ≤ 1048576)
include hm
theorem mark_row (i : Nat) (hi : i < 3) : ∀ (d j k : Nat) (R : List (List Int)), j + d = m → Mk m R i → (∀ t : Nat, t < j → rd (rd_L5 R (i : Int)) (t : Int) = mkAt (i : Int)) → d + 1 ≤ k → ∃ (k' : Nat) (R' : List (List Int)), k ≤ k' + d + 1 ∧ Mk m R' (i + 1) ∧
    heraldlaw03_SingleMemory.l2 k x0 x3 R (i : Int) (j : Int) = heraldlaw03_SingleMemory.l1 k' x0 x3 R' ((i + 1 : Nat) : Int) := by
  intro d
  induction d with
  | zero =>
    intro j k R hj h hmk hk
    obtain ⟨k, rfl⟩ : ∃ q, k = q + 1 := ⟨k - 1, by omega⟩
    have h3 := h.three
    have hl := h.len i hi
    refine ⟨k, R, by omega, ⟨h.three, h.len, fun a ha t ht => ?_⟩, ?_⟩
    · by_cases e : a = i
      · subst e; exact hmk t (by omega)
      · exact h.mark a (by omega) t ht
    · simp only [heraldlaw03_SingleMemory.l2]
      rw [if_pos (by omega), if_pos (by omega), if_neg (by omega), up64 i (by omega)]
  | succ d ih =>
    intro j k R hj h hmk hk
    obtain ⟨k, rfl⟩ : ∃ q, k = q + 1 := ⟨k - 1, by omega⟩
    have h3 := h.three
    have hl := h.len i hi
    have hat := rows_at R i
    have hq : ∀ a : Nat, rd_L5 (R.set i ((rd_L5 R (i : Int)).set j (mkAt (i : Int)))) (a : Int) = if i = a then (rd_L5 R (i : Int)).set j (mkAt (i : Int)) else rd_L5 R (a : Int) := fun a => rows_at R i a _ (by omega)
    obtain ⟨k', R', e1, e2, e3⟩ := ih (j + 1) k (R.set i ((rd_L5 R (i : Int)).set j (mkAt (i : Int)))) (by omega)
      ⟨by simp [h.three], fun a ha => by
        rw [hq a]
        split
        · rw [List.length_set]; exact hl
        · exact h.len a ha,
       fun a ha t ht => by
        rw [hq a, if_neg (by omega)]
        exact h.mark a ha t ht⟩
      (fun t ht => by
        rw [hq i, if_pos rfl, num_at _ j t _ (by omega)]
        split
        · rfl
        · exact hmk t (by omega)) (by omega)
    refine ⟨k', R', by omega, e2, ?_⟩
    simp only [heraldlaw03_SingleMemory.l2]
    rw [if_pos (by omega), if_pos (by omega), if_pos (by omega), if_pos (by omega), up64 j (by omega), Int.toNat_natCast, Int.toNat_natCast]
    exact e3
theorem mark_all : ∀ (d i k : Nat) (R : List (List Int)), i + d = 3 → Mk m R i → (m + 2) * d + 1 ≤ k → ∃ (k' : Nat) (R' : List (List Int)), k ≤ k' + (m + 2) * d + 1 ∧ Mk m R' 3 ∧
    heraldlaw03_SingleMemory.l1 k x0 x3 R (i : Int) = heraldlaw03_SingleMemory.l3 k' x0 x3 R' 0 := by
  intro d
  induction d with
  | zero =>
    intro i k R hi h hk
    obtain ⟨k, rfl⟩ : ∃ q, k = q + 1 := ⟨k - 1, by omega⟩
    obtain rfl : i = 3 := by omega
    refine ⟨k, R, by omega, h, ?_⟩
    simp only [heraldlaw03_SingleMemory.l1]
    rw [if_neg (by omega)]
  | succ d ih =>
    intro i k R hi h hk
    rw [Nat.mul_succ] at hk ⊢
    obtain ⟨k, rfl⟩ : ∃ q, k = q + 1 := ⟨k - 1, by omega⟩
    obtain ⟨k1, R1, e1, e2, e3⟩ := mark_row x0 x3 m hm i (by omega) m 0 k R (by omega) h (fun t ht => absurd ht (by omega)) (by omega)
    obtain ⟨k2, R2, f1, f2, f3⟩ := ih (i + 1) k1 R1 (by omega) e2 (by omega)
    refine ⟨k2, R2, by omega, f2, ?_⟩
    simp only [heraldlaw03_SingleMemory.l1]
    rw [if_pos (by omega), show (0 : Int) = ((0 : Nat) : Int) from rfl, e3, f3]
    rfl
theorem grow_row (i : Nat) (hi : i < 3) (R : List (List Int)) : ∀ (d j k : Nat) (g : List Int), j + d = 20 → g.length ≤ m + j → d + 1 ≤ k → ∃ k' : Nat, k ≤ k' + d + 1 ∧
    heraldlaw03_SingleMemory.l4 k x0 x3 R (i : Int) g (j : Int) = heraldlaw03_SingleMemory.l3 k' x0 x3 R ((i + 1 : Nat) : Int) := by
  intro d
  induction d with
  | zero =>
    intro j k g hj hg hk
    obtain ⟨k, rfl⟩ : ∃ q, k = q + 1 := ⟨k - 1, by omega⟩
    refine ⟨k, by omega, ?_⟩
    simp only [heraldlaw03_SingleMemory.l4]
    rw [if_neg (by omega), up64 i (by omega)]
  | succ d ih =>
    intro j k g hj hg hk
    obtain ⟨k, rfl⟩ : ∃ q, k = q + 1 := ⟨k - 1, by omega⟩
    obtain ⟨k', e1, e2⟩ := ih (j + 1) k (g ++ [77]) (by omega) (by simp; omega) (by omega)
    refine ⟨k', by omega, ?_⟩
    simp only [heraldlaw03_SingleMemory.l4]
    rw [if_pos (by omega), if_pos (by omega), up64 j (by omega)]
    exact e2
theorem grow_all (R : List (List Int)) (h : Mk m R 3) : ∀ (d i k : Nat), i + d = 3 → 30 * d + 1 ≤ k → ∃ k' : Nat, k ≤ k' + 30 * d + 1 ∧
    heraldlaw03_SingleMemory.l3 k x0 x3 R (i : Int) = heraldlaw03_SingleMemory.l5 k' x0 x3 R 0 := by
  have h3 := h.three
  intro d
  induction d with
  | zero =>
    intro i k hi hk
    obtain ⟨k, rfl⟩ : ∃ q, k = q + 1 := ⟨k - 1, by omega⟩
    refine ⟨k, by omega, ?_⟩
    simp only [heraldlaw03_SingleMemory.l3]
    rw [if_neg (by omega)]
  | succ d ih =>
    intro i k hi hk
    rw [Nat.mul_succ] at hk ⊢
    obtain ⟨k, rfl⟩ : ∃ q, k = q + 1 := ⟨k - 1, by omega⟩
    have hl := h.len i (by omega)
    obtain ⟨k1, e1, e2⟩ := grow_row x0 x3 m hm i (by omega) R 20 0 k (rd_L5 R (i : Int)) (by omega) (by omega) (by omega)
    obtain ⟨k2, f1, f2⟩ := ih (i + 1) k1 (by omega) (by omega)
    refine ⟨k2, by omega, ?_⟩
    simp only [heraldlaw03_SingleMemory.l3]
    rw [if_pos (by omega), if_pos (by omega), if_pos (by omega), show (0 : Int) = ((0 : Nat) : Int) from rfl, e2, f2]
    rfl
theorem look_row (i : Nat) (hi : i < 3) (R : List (List Int)) (h : Mk m R 3) : ∀ (d j k : Nat), j + d = m → d + 1 ≤ k → ∃ k' : Nat, k ≤ k' + d + 1 ∧
    heraldlaw03_SingleMemory.l6 k x0 x3 R (i : Int) (j : Int) = heraldlaw03_SingleMemory.l5 k' x0 x3 R ((i + 1 : Nat) : Int) := by
  have h3 := h.three
  have hl := h.len i hi
  intro d
  induction d with
  | zero =>
    intro j k hj hk
    obtain ⟨k, rfl⟩ : ∃ q, k = q + 1 := ⟨k - 1, by omega⟩
    refine ⟨k, by omega, ?_⟩
    simp only [heraldlaw03_SingleMemory.l6]
    rw [if_pos (by omega), if_pos (by omega), if_neg (by omega), up64 i (by omega)]
  | succ d ih =>
    intro j k hj hk
    obtain ⟨k, rfl⟩ : ∃ q, k = q + 1 := ⟨k - 1, by omega⟩
    obtain ⟨k', e1, e2⟩ := ih (j + 1) k (by omega) (by omega)
    refine ⟨k', by omega, ?_⟩
    have hmk : rd (rd_L5 R (i : Int)) (j : Int) = IntKind.i8.wrap (wrap64 ((i : Int) - 1)) := h.mark i hi j (by omega)
    simp only [heraldlaw03_SingleMemory.l6]
    rw [if_pos (by omega), if_pos (by omega), if_pos (by omega), if_pos (by omega), if_pos hmk, up64 j (by omega)]
    exact e2
theorem look_all (R : List (List Int)) (h : Mk m R 3) (E : Option Bool) (K : Nat) (hE : ∀ k, K ≤ k → ((single_Quantise.f k x0).bind fun bt361 => ((heraldlaw03_awake.f k).bind fun t366 => (if t366 = true then ((heraldlaw03_rows.f k bt361.1 x3).bind fun t367 => (some t367)) else (some false)))) = E) :
    ∀ (d i k : Nat), i + d = 3 → (m + 2) * d + K + 1 ≤ k → heraldlaw03_SingleMemory.l5 k x0 x3 R (i : Int) = E := by
  intro d
  induction d with
  | zero =>
    intro i k hi hk
    obtain ⟨k, rfl⟩ : ∃ q, k = q + 1 := ⟨k - 1, by omega⟩
    simp only [heraldlaw03_SingleMemory.l5]
    rw [if_neg (by omega)]
    exact hE k (by omega)
  | succ d ih =>
    intro i k hi hk
    rw [Nat.mul_succ] at hk
    obtain ⟨k, rfl⟩ : ∃ q, k = q + 1 := ⟨k - 1, by omega⟩
    obtain ⟨k1, e1, e2⟩ := look_row x0 x3 m hm i (by omega) R h m 0 k (by omega) (by omega)
    simp only [heraldlaw03_SingleMemory.l5]
    rw [if_pos (by omega), show (0 : Int) = ((0 : Nat) : Int) from rfl, e2]
    exact ih (i + 1) k1 (by omega) (by omega)
end
theorem make_all (l0 : List Int) (hl : l0.length ≤ 1048576) (hw : ∀ a ∈ l0, 0 ≤ a ∧ a ≤ 4294967295) : ∀ (d i k : Nat), i + d = 3 → 2 * l0.length + 400 + d ≤ k → ∃ k' : Nat, k ≤ k' + d + 1 ∧
    heraldlaw03_SingleMemory.l0 k l0 (quantV l0).1 (quantV l0).2.2 (List.replicate i (quantV l0).1) (i : Int) = heraldlaw03_SingleMemory.l1 k' l0 (quantV l0).1 (List.replicate 3 (quantV l0).1) 0 := by
  have hle := quantV_length l0
  intro d
  induction d with
  | zero =>
    intro i k hi hk
    obtain ⟨k, rfl⟩ : ∃ q, k = q + 1 := ⟨k - 1, by omega⟩
    obtain rfl : i = 3 := by omega
    refine ⟨k, by omega, ?_⟩
    simp only [heraldlaw03_SingleMemory.l0]
    rw [if_neg (by omega)]
  | succ d ih =>
    intro i k hi hk
    obtain ⟨k, rfl⟩ : ∃ q, k = q + 1 := ⟨k - 1, by omega⟩
    obtain ⟨k', e1, e2⟩ := ih (i + 1) k (by omega) (by omega)
    refine ⟨k', by omega, ?_⟩
    simp only [heraldlaw03_SingleMemory.l0]
    rw [if_pos (by omega), quant_some l0 (by omega) hw k (by omega), Option.bind_some, rows_same _ (by omega) k (by omega), Option.bind_some, if_pos rfl, if_pos rfl, if_pos (by rw [List.length_replicate]; omega), up64 i (by omega), ← List.replicate_succ']
    exact e2
theorem SingleMemory (l0 : List Int) (hl : l0.length ≤ 1048576) (hw : ∀ x ∈ l0, (Lit.int .u32 x).wf = true) : ∃ k, heraldlaw03_SingleMemory.f k l0 = some true := by
  obtain ⟨k, hk⟩ : ∃ k, k = 10 * l0.length + 3000 := ⟨_, rfl⟩
  refine ⟨k, ?_⟩
  have hw2 : ∀ a ∈ l0, 0 ≤ a ∧ a ≤ 4294967295 := fun a ha => wf_u32 (hw a ha)
  have hle := quantV_length l0
  unfold heraldlaw03_SingleMemory.f
  simp only [Option.bind_some, List.nil_append, List.length_nil]
  rw [if_pos (by omega), refquant_some l0 (by omega) hw2 k (by omega), Option.bind_some]
  obtain ⟨k1, a1, a2⟩ := make_all l0 hl hw2 3 0 k (by omega) (by omega)
  have a3 : heraldlaw03_SingleMemory.l0 k l0 (quantV l0).1 (quantV l0).2.2 [] 0 = heraldlaw03_SingleMemory.l1 k1 l0 (quantV l0).1 (List.replicate 3 (quantV l0).1) 0 := a2
  obtain ⟨m, hmm⟩ : ∃ m, (quantV l0).1.length = m := ⟨_, rfl⟩
  have h0 : Mk m (List.replicate 3 (quantV l0).1) 0 := ⟨by simp, fun i hi => by
    have : rd_L5 (List.replicate 3 (quantV l0).1) (i : Int) = (quantV l0).1 := by
      unfold rd_L5
      rw [Int.toNat_natCast, List.getD_eq_getElem?_getD, List.getElem?_replicate, if_pos hi]; rfl
    rw [this, hmm], fun i hi => absurd hi (by omega)⟩
  obtain ⟨k2, R, b1, b2, b3⟩ := mark_all l0 (quantV l0).1 m (by omega) 3 0 k1 _ (by omega) h0 (by omega)
  obtain ⟨k3, c1, c2⟩ := grow_all l0 (quantV l0).1 m (by omega) R b2 3 0 k2 (by omega) (by omega)
  have hend : ∀ k, 2 * l0.length + 300 ≤ k → ((single_Quantise.f k l0).bind fun bt361 => ((heraldlaw03_awake.f k).bind fun t366 => (if t366 = true then ((heraldlaw03_rows.f k bt361.1 (quantV l0).1).bind fun t367 => (some t367)) else (some false)))) = some true := by
    intro k hk
    rw [quant_some l0 (by omega) hw2 k (by omega), Option.bind_some, awake_some k (by omega), Option.bind_some, if_pos rfl, rows_same _ (by omega) k (by omega), Option.bind_some]
  have d1 := look_all l0 (quantV l0).1 m (by omega) R b2 (some true) (2 * l0.length + 300) hend 3 0 k3 (by omega) (by omega)
  rw [a3]
  exact b3.trans (c2.trans d1)
end Go.Proofs.YteecekhfpfnepaaDoor.Pure
