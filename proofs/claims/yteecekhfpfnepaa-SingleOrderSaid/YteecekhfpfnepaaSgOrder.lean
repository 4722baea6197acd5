/- The model's order is the order of whole numbers. -/
import Derived.Test.YteecekhfpfnepaaSgCompare
namespace Go.Proofs.Yteecekhfpfnepaa.Sg
open Ieee
open Go.RowKit Go.Proofs.Yteecekhfpfnepaa.PAll Go.Proofs.YteecekhfpfnepaaW.PrintWords Go.Proofs.YteecekhfpfnepaaW.PrintLast Go.Proofs.YteecekhfpfnepaaW.PrintMore
set_option linter.unusedVariables false
set_option linter.unusedSimpArgs false

def keyI (s : Bool) (m : Nat) (e : Int) : Int := if s then -(sz m e (-149) : Int) else (sz m e (-149) : Int)
def key : Datum → Option Int
  | .nan .. => none
  | .infinity s => some (keyI s 1 1000)
  | .number s m e => some (keyI s m e)
def cmpK : Option Int → Option Int → Int × Bool
  | some p, some q => (cmpI p q, true)
  | _, _ => (0, false)
theorem sz_scale (m : Nat) (e base : Int) (h : base ≤ e) (hb : -149 ≤ base) : sz m e (-149) = sz m e base * 2 ^ (base + 149).toNat := by
  unfold sz
  rw [Nat.shiftLeft_eq, Nat.shiftLeft_eq, Nat.mul_assoc, ← Nat.pow_add]
  congr 2
  omega
theorem cmpI_scale (x y c : Int) (hc : 0 < c) : cmpI (x * c) (y * c) = cmpI x y := by
  unfold cmpI
  by_cases c1 : x < y
  · rw [if_pos c1, if_pos (Int.mul_lt_mul_of_pos_right c1 hc)]
  · rw [if_neg c1, if_neg (by
      intro h
      have := Int.mul_le_mul_of_nonneg_right (show y ≤ x by omega) (Int.le_of_lt hc)
      omega)]
    by_cases c2 : x > y
    · rw [if_pos c2, if_pos (Int.mul_lt_mul_of_pos_right c2 hc)]
    · obtain rfl : x = y := by omega
      rw [if_neg c2, if_neg (by omega)]
theorem keyI_scale (s : Bool) (m : Nat) (e base : Int) (h : base ≤ e) (hb : -149 ≤ base) : keyI s m e = (if s then -(sz m e base : Int) else (sz m e base : Int)) * ((2 ^ (base + 149).toNat : Nat) : Int) := by
  unfold keyI
  rw [sz_scale m e base h hb]
  cases s <;> simp [Int.neg_mul]
theorem cmp_number (s t : Bool) (m n : Nat) (e f : Int) (he : -149 ≤ e) (hf : -149 ≤ f) : cmpV ((Datum.number s m e).order (.number t n f)) = (cmpI (keyI s m e) (keyI t n f), true) := by
  simp only [Datum.order]
  rw [cmpV_compare, signed_eq, signed_eq, keyI_scale s m e (min e f) (by omega) (by omega), keyI_scale t n f (min e f) (by omega) (by omega), cmpI_scale _ _ _ (by have := pow_pos' (min e f + 149).toNat; omega)]
theorem below_inf (n : Nat) (f : Int) (hn : n < 16777216) (hf0 : -149 ≤ f) (hf1 : f ≤ 104) : sz n f (-149) < sz 1 1000 (-149) := by
  by_cases c : n = 0
  · subst c
    have := sz_pos 1 1000 (-149)
    have h0 := sz_pos 0 f (-149)
    omega
  · have hl2 : n.log2 < 24 := (Nat.log2_lt c).2 (by omega)
    exact sz_lt c (by omega) (by omega) (by omega) (by have : (1 : Nat).log2 = 0 := by decide
                                                       omega)
theorem order_key (a b : Int) (a0 : 0 ≤ a) (a1 : a < 4294967296) (b0 : 0 ≤ b) (b1 : b < 4294967296) : single_Compare.f a b = some (cmpK (key (Ieee.single.read a.toNat)) (key (Ieee.single.read b.toNat))) := by
  show some (cmpV ((Ieee.single.read a.toNat).order (Ieee.single.read b.toNat))) = _
  congr 1
  have z1 := sz_pos 1 1000 (-149)
  rcases raw_cases a a0 a1 with ⟨ra, s, fa, da⟩ | ⟨s, ra, da, wa⟩ | ⟨s, m, e, ra, da, fa⟩ <;> rcases raw_cases b b0 b1 with ⟨rb, t, fb, db⟩ | ⟨t, rb, db, wb⟩ | ⟨t, n, f, rb, db, fb⟩ <;> rw [da, db]
  · rfl
  · rfl
  · rfl
  · rfl
  · simp only [key, cmpK, Datum.order]
    unfold keyI
    cases s <;> cases t <;> simp only [Bool.false_eq_true, if_true, if_false]
    · rw [cmpI_eq rfl]; rfl
    · rw [cmpI_gt (by omega)]; rfl
    · rw [cmpI_lt (by omega)]; rfl
    · rw [cmpI_eq rfl]; rfl
  · obtain ⟨n1, f0, f1⟩ := fin_small fb
    have := below_inf n f n1 f0 f1
    simp only [key, cmpK, Datum.order]
    unfold keyI
    cases s <;> cases t <;> simp only [Bool.false_eq_true, if_true, if_false]
    · rw [cmpI_gt (by omega)]; rfl
    · rw [cmpI_gt (by omega)]; rfl
    · rw [cmpI_lt (by omega)]; rfl
    · rw [cmpI_lt (by omega)]; rfl
  · rfl
  · obtain ⟨m1, e0, e1⟩ := fin_small fa
    have := below_inf m e m1 e0 e1
    simp only [key, cmpK, Datum.order]
    unfold keyI
    cases s <;> cases t <;> simp only [Bool.false_eq_true, if_true, if_false]
    · rw [cmpI_lt (by omega)]; rfl
    · rw [cmpI_gt (by omega)]; rfl
    · rw [cmpI_lt (by omega)]; rfl
    · rw [cmpI_gt (by omega)]; rfl
  · obtain ⟨m1, e0, e1⟩ := fin_small fa
    obtain ⟨n1, f0, f1⟩ := fin_small fb
    rw [cmp_number s t m n e f e0 f0]
    rfl
theorem cmpI_cases (x y : Int) : (cmpI x y = -1 ∧ x < y) ∨ (cmpI x y = 0 ∧ x = y) ∨ (cmpI x y = 1 ∧ y < x) := by
  unfold cmpI
  by_cases c1 : x < y
  · exact .inl ⟨if_pos c1, c1⟩
  · by_cases c2 : y < x
    · exact .inr (.inr ⟨by rw [if_neg c1, if_pos c2], c2⟩)
    · exact .inr (.inl ⟨by rw [if_neg c1, if_neg c2], by omega⟩)
end Go.Proofs.Yteecekhfpfnepaa.Sg
