/- The reference's Add is the model's. -/
import Derived.Test.YteecekhfpfnepaaSgAdd
namespace Go.Proofs.Yteecekhfpfnepaa.Sg
open Ieee
open Go.RowKit Go.Proofs.Yteecekhfpfnepaa.PAll Go.Proofs.YteecekhfpfnepaaW.PrintWords Go.Proofs.YteecekhfpfnepaaW.PrintLast Go.Proofs.YteecekhfpfnepaaW.PrintMore
set_option linter.unusedVariables false
set_option linter.unusedSimpArgs false

theorem sum_comm (x y : Datum) : x.sum y = y.sum x := by
  cases x with
  | nan => cases y <;> rfl
  | infinity s =>
    cases y with
    | nan => rfl
    | infinity t =>
      simp only [Datum.sum]
      by_cases c : s = t
      · subst c; rfl
      · rw [if_neg c, if_neg (fun h => c h.symm)]
    | number => rfl
  | number s m i =>
    cases y with
    | nan => rfl
    | infinity t => rfl
    | number t n j =>
      simp only [Datum.sum]
      rw [Int.min_comm j i, Int.add_comm (signed t n _), Bool.and_comm t s]
theorem zero_sum (s t : Bool) (n : Nat) (e f : Int) (hn : n ≠ 0) : arithV (((Datum.number s 0 e).sum (.number t n f)).map Ieee.single.write) = NR t n f := by
  simp only [Datum.sum, Option.map_some, arith_number]
  obtain ⟨B, hB⟩ : ∃ B, min e f = B := ⟨_, rfl⟩
  obtain ⟨u, hu⟩ : ∃ u, (f - B).toNat = u := ⟨_, rfl⟩
  have hp := pow_pos' u
  have e1 : signed s 0 (min e f - B).toNat = 0 := by unfold signed; cases s <;> simp
  rw [hB]
  have e1 : signed s 0 (e - B).toNat = 0 := by unfold signed; cases s <;> simp
  have e2 : signed t n (f - B).toNat = if t then -((n * 2 ^ u : Nat) : Int) else ((n * 2 ^ u : Nat) : Int) := by unfold signed; rw [hu, Nat.shiftLeft_eq]
  rw [e1, e2, Int.zero_add]
  have hx : 0 < n * 2 ^ u := Nat.mul_pos (by omega) hp
  have hr := rung_scale n u f
  rw [show f - (u : Int) = B from by omega] at hr
  unfold NR
  rw [← hr]
  obtain ⟨x, hx'⟩ : ∃ x, n * 2 ^ u = x := ⟨_, rfl⟩
  rw [hx'] at hx ⊢
  cases t
  · simp only [Bool.false_eq_true, if_false]
    rw [if_neg (by omega), decide_eq_false (by omega), Int.natAbs_natCast]
  · simp only [if_true]
    rw [if_neg (by omega), decide_eq_true (by omega), show (-(x : Int)).natAbs = x by omega]
theorem zeros_sum (s t : Bool) (e f : Int) : arithV (((Datum.number s 0 e).sum (.number t 0 f)).map Ieee.single.write) = if s then (if t then 2147483648 else 0) else 0 := by
  simp only [Datum.sum, Option.map_some, arith_number]
  have e1 : ∀ s : Bool, ∀ d, signed s 0 d = 0 := by intro s d; unfold signed; cases s <;> simp
  rw [e1, e1]
  cases s <;> cases t <;> simp [NR, sgn, rung]
theorem greater_place {a b : Int} {s t : Bool} {m n : Nat} {e f : Int} (fa : Fin32 a s m e) (fb : Fin32 b t n f) (hm : m ≠ 0) (hn : n ≠ 0) (h : sz n f (min e f) ≤ sz m e (min e f)) : f ≤ e := by
  by_cases c : f ≤ e
  · exact c
  · have hf := fb.form
    have he := (fin_small fa).2
    have hm1 := (fin_small fa).1
    rcases hf with ⟨_, h2⟩ | ⟨h2, h3, _, _⟩
    · omega
    · have hl2 : n.log2 = 23 := (Nat.log2_eq_iff (by omega)).2 ⟨by omega, by omega⟩
      have hl1 : m.log2 < 24 := (Nat.log2_lt hm).2 (by omega)
      have := sz_lt (base := min e f) hm hn (by omega) (by omega) (show (m.log2 : Int) + e < (n.log2 : Int) + f by omega)
      omega
theorem add_great {a b : Int} {s t : Bool} {m n : Nat} {e f : Int} (fa : Fin32 a s m e) (fb : Fin32 b t n f) (hm : m ≠ 0) (hn : n ≠ 0) (h : sz n f (min e f) ≤ sz m e (min e f)) (k : Nat) (hk : 100 ≤ k) :
    heraldref03_Add.j2 k s (m : Int) e t (n : Int) f = some (sumV s m e t n f) := by
  have hp := greater_place fa fb hm hn h
  obtain ⟨m1, e0, e1⟩ := fin_small fa
  obtain ⟨n1, f0, f1⟩ := fin_small fb
  obtain ⟨d, hd⟩ : ∃ d : Nat, e = f + d := ⟨(e - f).toNat, by omega⟩
  refine add_j2 s t m n d e f hd hm hn m1 n1 e1 f0 ?_ k hk
  unfold sz at h
  rw [show min e f = f by omega, show (f - f).toNat = 0 by omega, show (e - f).toNat = d by omega, Nat.shiftLeft_zero, Nat.shiftLeft_eq] at h
  exact h
theorem refAdd_some (a b : Int) (a0 : 0 ≤ a) (a1 : a < 4294967296) (b0 : 0 ≤ b) (b1 : b < 4294967296) (k : Nat) (hk : 130 ≤ k) : heraldref03_Add.f k a b = some (arithV (arithR .add a.toNat b.toNat)) := by
  obtain ⟨k, rfl⟩ : ∃ j, k = j + 2 := ⟨k - 2, by omega⟩
  have hM : arithR .add a.toNat b.toNat = ((Ieee.single.read a.toNat).sum (Ieee.single.read b.toNat)).map Ieee.single.write := rfl
  unfold heraldref03_Add.f
  rw [raw_some a a0 a1, raw_some b b0 b1, hM]
  simp only [Option.bind_some]
  rcases raw_cases a a0 a1 with ⟨ra, s, fa, da⟩ | ⟨s, ra, da, wa⟩ | ⟨s, m, e, ra, da, fa⟩ <;> rcases raw_cases b b0 b1 with ⟨rb, t, fb, db⟩ | ⟨t, rb, db, wb⟩ | ⟨t, n, f, rb, db, fb⟩ <;> rw [ra, rb, da, db]
  · simp [heraldref03_Add.j0, Datum.sum, arithV]
  · simp [heraldref03_Add.j0, Datum.sum, arithV]
  · simp [heraldref03_Add.j0, Datum.sum, arithV]
  · simp [heraldref03_Add.j0, Datum.sum, arithV]
  · by_cases c : s = t
    · subst c
      simp only [Datum.sum, if_true, Option.map_some, arith_inf]
      simp [heraldref03_Add.j0, wa]
    · simp only [Datum.sum, if_neg c, Option.map_none]
      have : (s != t) = true := by simpa using c
      simp [heraldref03_Add.j0, arithV, this, c]
  · simp only [Datum.sum, Option.map_some, arith_inf]
    simp [heraldref03_Add.j0, wa]
  · simp [heraldref03_Add.j0, Datum.sum, arithV]
  · simp only [Datum.sum, Option.map_some, arith_inf]
    simp [heraldref03_Add.j0, wb]
  · simp only [heraldref03_Add.j0, heraldref03_Add.j1]
    by_cases c : m = 0
    · subst c
      by_cases d : n = 0
      · subst d
        rw [zeros_sum]
        cases s <;> cases t <;> simp
      · rw [zero_sum s t n e f d, show NR t n f = b from fb.word.symm]
        simp [d]
    · by_cases d : n = 0
      · subst d
        rw [sum_comm, zero_sum t s m f e c, show NR s m e = a from fa.word.symm]
        simp [c]
      · obtain ⟨m1, e0, e1⟩ := fin_small fa
        obtain ⟨n1, f0, f1⟩ := fin_small fb
        have ha := ahead_some m n e f m1 n1 e0 (by omega) f0 (by omega) k (by omega)
        simp [c, d]
        rw [ha]
        simp only [Option.bind_some]
        by_cases g : (sz m e (min e f) : Int) < (sz n f (min e f) : Int)
        · rw [cmpI_lt g, if_pos (by omega), sum_comm]
          exact add_great fb fa d c (by rw [Int.min_comm f e]; omega) k (by omega)
        · rw [if_neg (by rcases Int.lt_or_eq_of_le (Int.not_lt.mp g) with h | h
                         · rw [cmpI_gt h]; omega
                         · rw [cmpI_eq h.symm]; omega)]
          exact add_great fa fb c d (by omega) k (by omega)
end Go.Proofs.Yteecekhfpfnepaa.Sg
