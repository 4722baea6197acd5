/- The reference's Compare is the model's order; the order's laws. -/
import Derived.Test.YteecekhfpfnepaaSgCmp
import Derived.Test.YteecekhfpfnepaaSgMul
import Derived.Test.YteecekhfpfnepaaPAllx14
namespace Go.Proofs.Yteecekhfpfnepaa.Sg
open Ieee
open Go.RowKit Go.Proofs.Yteecekhfpfnepaa.PAll Go.Proofs.YteecekhfpfnepaaW.PrintWords Go.Proofs.YteecekhfpfnepaaW.PrintLast Go.Proofs.YteecekhfpfnepaaW.PrintMore
set_option linter.unusedVariables false
set_option linter.unusedSimpArgs false

theorem cmpV_compare (x y : Int) : cmpV (some (compare x y)) = (cmpI x y, true) := by
  unfold cmpI
  by_cases c1 : x < y
  · rw [if_pos c1, show compare x y = .lt from by simp [compare, compareOfLessAndEq, c1]]; rfl
  · rw [if_neg c1]
    by_cases c2 : x > y
    · rw [if_pos c2, show compare x y = .gt from by simp [compare, compareOfLessAndEq, c1]; omega]; rfl
    · rw [if_neg c2, show compare x y = .eq from by simp [compare, compareOfLessAndEq, c1]; omega]; rfl
theorem signed_eq (s : Bool) (m : Nat) (e base : Int) : signed s m (e - base).toNat = if s then -(sz m e base : Int) else (sz m e base : Int) := rfl
theorem sz_pos (m : Nat) (e base : Int) : (sz m e base = 0 ↔ m = 0) := by
  unfold sz
  rw [Nat.shiftLeft_eq]
  have := pow_pos' (e - base).toNat
  constructor
  · intro h
    rcases Nat.mul_eq_zero.mp h with h | h <;> omega
  · intro h; rw [h, Nat.zero_mul]
/-- Signs and sizes, as the reference's end looks at them. -/
theorem cmp_end (s t : Bool) (m n : Nat) (e f : Int) (hm : m < 16777216) (hn : n < 16777216) (he0 : -149 ≤ e) (he1 : e ≤ 1000) (hf0 : -149 ≤ f) (hf1 : f ≤ 1000) (k : Nat) (hk : 120 ≤ k) :
    heraldref03_Compare.j2 k s (m : Int) e t (n : Int) f = some (cmpI (if s then -(sz m e (min e f) : Int) else (sz m e (min e f) : Int)) (if t then -(sz n f (min e f) : Int) else (sz n f (min e f) : Int)), true) := by
  obtain ⟨k, rfl⟩ : ∃ j, k = j + 3 := ⟨k - 3, by omega⟩
  have ha := ahead_some m n e f hm hn he0 he1 hf0 hf1 k (by omega)
  have zm := sz_pos m e (min e f)
  have zn := sz_pos n f (min e f)
  obtain ⟨x, hx⟩ : ∃ x, sz m e (min e f) = x := ⟨_, rfl⟩
  obtain ⟨y, hy⟩ : ∃ y, sz n f (min e f) = y := ⟨_, rfl⟩
  rw [hx] at ha zm ⊢
  rw [hy] at ha zn ⊢
  have h4 : ∀ s t : Bool, (s = true → m ≠ 0) → (t = true → n ≠ 0) → heraldref03_Compare.j4 (k + 1) s (m : Int) e t (n : Int) f = some (cmpI (if s then -(x : Int) else (x : Int)) (if t then -(y : Int) else (y : Int)), true) := by
    intro s t hs ht
    simp only [heraldref03_Compare.j4]
    cases s <;> cases t
    · rw [if_neg (by decide), ha]; rfl
    · have := ht rfl
      rw [if_pos (by decide), if_neg (by decide)]
      simp only [Bool.false_eq_true, if_false, if_true, Option.some.injEq, Prod.mk.injEq, and_true]
      rw [cmpI_gt (by omega)]
    · have := hs rfl
      rw [if_pos (by decide), if_pos rfl]
      simp only [Bool.false_eq_true, if_false, if_true, Option.some.injEq, Prod.mk.injEq, and_true]
      rw [cmpI_lt (by omega)]
    · rw [if_neg (by decide), ha]
      simp only [Option.bind_some, if_true, Option.some.injEq, Prod.mk.injEq, and_true]
      unfold cmpI
      by_cases c1 : (x : Int) < y
      · rw [if_pos c1, if_neg (by omega), if_pos (by omega)]; exact wrap_in (by omega) (by omega)
      · by_cases c2 : (x : Int) > y
        · rw [if_neg c1, if_pos c2, if_pos (by omega)]; exact wrap_in (by omega) (by omega)
        · rw [if_neg c1, if_neg c2, if_neg (by omega), if_neg (by omega)]; exact wrap_in (by omega) (by omega)
  have h3 : ∀ s t : Bool, (s = true → m ≠ 0) → heraldref03_Compare.j3 (k + 2) s (m : Int) e t (n : Int) f = some (cmpI (if s then -(x : Int) else (x : Int)) (if t then -(y : Int) else (y : Int)), true) := by
    intro s t hs
    simp only [heraldref03_Compare.j3]
    by_cases c : n = 0
    · rw [if_pos (by omega), h4 s false hs (by intro h; cases h)]
      have : y = 0 := zn.2 c
      subst this
      cases t <;> rfl
    · rw [if_neg (by omega), h4 s t hs (fun _ => c)]
  simp only [heraldref03_Compare.j2]
  by_cases c : m = 0
  · rw [if_pos (by omega), h3 false t (by intro h; cases h)]
    have : x = 0 := zm.2 c
    subst this
    cases s <;> rfl
  · rw [if_neg (by omega), h3 s t (fun _ => c)]
theorem refCompare_some (a b : Int) (a0 : 0 ≤ a) (a1 : a < 4294967296) (b0 : 0 ≤ b) (b1 : b < 4294967296) (k : Nat) (hk : 130 ≤ k) : heraldref03_Compare.f k a b = some (cmpV (FloatKind.f32.format.order a.toNat b.toNat)) := by
  obtain ⟨k, rfl⟩ : ∃ j, k = j + 2 := ⟨k - 2, by omega⟩
  have hM : FloatKind.f32.format.order a.toNat b.toNat = (Ieee.single.read a.toNat).order (Ieee.single.read b.toNat) := rfl
  unfold heraldref03_Compare.f
  rw [raw_some a a0 a1, raw_some b b0 b1, hM]
  simp only [Option.bind_some]
  rcases raw_cases a a0 a1 with ⟨ra, s, fa, da⟩ | ⟨s, ra, da, wa⟩ | ⟨s, m, e, ra, da, fa⟩ <;> rcases raw_cases b b0 b1 with ⟨rb, t, fb, db⟩ | ⟨t, rb, db, wb⟩ | ⟨t, n, f, rb, db, fb⟩ <;> rw [ra, rb, da, db]
  · simp [heraldref03_Compare.j0, Datum.order, cmpV]
  · simp [heraldref03_Compare.j0, Datum.order, cmpV]
  · simp [heraldref03_Compare.j0, Datum.order, cmpV]
  · simp [heraldref03_Compare.j0, Datum.order, cmpV]
  · have hj := cmp_end s t 1 1 1000 1000 (by omega) (by omega) (by omega) (by omega) (by omega) (by omega) k (by omega)
    simp only [heraldref03_Compare.j0, heraldref03_Compare.j1]
    simp only [Datum.order]
    have e1 : sz 1 1000 (min 1000 1000) = 1 := by decide
    rw [e1] at hj
    simp at hj ⊢
    rw [hj]
    cases s <;> cases t <;> decide
  · obtain ⟨n1, f0, f1⟩ := fin_small fb
    have hj := cmp_end s t 1 n 1000 f (by omega) n1 (by omega) (by omega) (by omega) (by omega) k (by omega)
    have hlt : n = 0 ∨ sz n f (min 1000 f) < sz 1 1000 (min 1000 f) := by
      by_cases c : n = 0
      · exact .inl c
      · have hl2 : n.log2 < 24 := (Nat.log2_lt c).2 (by omega)
        exact .inr (sz_lt c (by omega) (by omega) (by omega) (by have : (1 : Nat).log2 = 0 := by decide
                                                                 omega))
    have z1 := sz_pos 1 1000 (min 1000 f)
    have zn := sz_pos n f (min 1000 f)
    obtain ⟨x, hx⟩ : ∃ x, sz 1 1000 (min 1000 f) = x := ⟨_, rfl⟩
    obtain ⟨y, hy⟩ : ∃ y, sz n f (min 1000 f) = y := ⟨_, rfl⟩
    rw [hx] at hj hlt z1
    rw [hy] at hj hlt zn
    simp only [heraldref03_Compare.j0, heraldref03_Compare.j1]
    simp at hj ⊢
    rw [hj]
    have hxy : y < x := by
      rcases hlt with h | h
      · have := zn.2 h; omega
      · exact h
    cases s
    · simp only [Bool.false_eq_true, if_false]
      rw [cmpI_gt (by cases t <;> simp <;> omega)]
      rfl
    · simp only [if_true]
      rw [cmpI_lt (by cases t <;> simp <;> omega)]
      rfl
  · simp [heraldref03_Compare.j0, Datum.order, cmpV]
  · obtain ⟨m1, e0, e1⟩ := fin_small fa
    have hj := cmp_end s t m 1 e 1000 m1 (by omega) (by omega) (by omega) (by omega) (by omega) k (by omega)
    have hlt : m = 0 ∨ sz m e (min e 1000) < sz 1 1000 (min e 1000) := by
      by_cases c : m = 0
      · exact .inl c
      · have hl2 : m.log2 < 24 := (Nat.log2_lt c).2 (by omega)
        exact .inr (sz_lt c (by omega) (by omega) (by omega) (by have : (1 : Nat).log2 = 0 := by decide
                                                                 omega))
    have z1 := sz_pos 1 1000 (min e 1000)
    have zn := sz_pos m e (min e 1000)
    obtain ⟨x, hx⟩ : ∃ x, sz 1 1000 (min e 1000) = x := ⟨_, rfl⟩
    obtain ⟨y, hy⟩ : ∃ y, sz m e (min e 1000) = y := ⟨_, rfl⟩
    rw [hx] at hj hlt z1
    rw [hy] at hj hlt zn
    simp only [heraldref03_Compare.j0, heraldref03_Compare.j1]
    simp at hj ⊢
    rw [hj]
    have hxy : y < x := by
      rcases hlt with h | h
      · have := zn.2 h; omega
      · exact h
    cases t
    · simp only [Bool.false_eq_true, if_false]
      rw [cmpI_lt (by cases s <;> simp <;> omega)]
      rfl
    · simp only [if_true]
      rw [cmpI_gt (by cases s <;> simp <;> omega)]
      rfl
  · obtain ⟨m1, e0, e1⟩ := fin_small fa
    obtain ⟨n1, f0, f1⟩ := fin_small fb
    have hj := cmp_end s t m n e f m1 n1 (by omega) (by omega) (by omega) (by omega) k (by omega)
    simp only [heraldref03_Compare.j0, heraldref03_Compare.j1, Datum.order]
    rw [cmpV_compare, signed_eq, signed_eq, ← hj]
    simp
end Go.Proofs.Yteecekhfpfnepaa.Sg
