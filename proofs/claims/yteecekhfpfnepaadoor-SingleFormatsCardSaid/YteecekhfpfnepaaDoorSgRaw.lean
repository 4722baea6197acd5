/- A single's bits, as the model and as the reference read them; there and back. -/
import Derived.Test.YteecekhfpfnepaaDoorSgNear
import Derived.Test.YteecekhfpfnepaaDoorHFloat
import Derived.Test.YteecekhfpfnepaaDoorHRaw
namespace Go.Proofs.YteecekhfpfnepaaDoor.Sg
open Ieee
open Go.RowKit Go.Proofs.YteecekhfpfnepaaDoor.PAll Go.Proofs.YteecekhfpfnepaaDoorW.PrintWords Go.Proofs.YteecekhfpfnepaaDoorW.PrintLast Go.Proofs.YteecekhfpfnepaaDoorW.PrintMore
set_option linter.unusedVariables false
set_option linter.unusedSimpArgs false

theorem k_weight : Ieee.single.signWeight = 2147483648 := by decide
theorem k_binade : Ieee.single.binade = 8388608 := by decide
theorem k_inf : Ieee.single.infRung = 2139095040 := by decide
theorem k_least : Ieee.single.leastPlace = -149 := by decide
theorem read_eq (a : Nat) (h : a < 4294967296) : Ieee.single.read a = if a / 8388608 % 256 = 255 then (if a % 8388608 = 0 then .infinity (decide (2147483648 ≤ a)) else .nan (decide (2147483648 ≤ a)) (a % 8388608))
    else if a / 8388608 % 256 = 0 then .number (decide (2147483648 ≤ a)) (a % 8388608) (-149) else .number (decide (2147483648 ≤ a)) (8388608 + a % 8388608) (((a / 8388608 % 256 : Nat) : Int) - 150) := by
  unfold Ieee.Format.read
  simp only [k_weight, k_binade, k_inf, k_least]
  have hs : (a / 2147483648 % 2 == 1) = decide (2147483648 ≤ a) := by
    by_cases c : 2147483648 ≤ a
    · rw [decide_eq_true c, beq_iff_eq]; omega
    · rw [decide_eq_false c]; simp; omega
  rw [hs]
  by_cases c1 : a / 8388608 % 256 = 255
  · rw [if_pos c1, if_neg (by omega), if_neg (by omega)]
    by_cases c2 : a % 8388608 = 0
    · rw [if_pos c2, if_pos (by omega)]
    · rw [if_neg c2, if_neg (by omega), show a % 2147483648 - 2139095040 = a % 8388608 from by omega]
  · rw [if_neg c1]
    by_cases c2 : a / 8388608 % 256 = 0
    · rw [if_pos c2, if_pos (by omega), show a % 2147483648 = a % 8388608 from by omega]
    · rw [if_neg c2, if_neg (by omega), if_pos (by omega), show a % 2147483648 % 8388608 = a % 8388608 from by omega, show a % 2147483648 / 8388608 = a / 8388608 % 256 from by omega]
      congr 1
      omega
/-- The number of a finite single. -/
structure Fin32 (a : Int) (s : Bool) (m : Nat) (e : Int) : Prop where
  word : a = sgn s + (rung m e : Int)
  form : (m < 8388608 ∧ e = -149) ∨ (8388608 ≤ m ∧ m < 16777216 ∧ -149 ≤ e ∧ e ≤ 104)
theorem rung_sub (m : Nat) (h : m < 8388608) : rung m (-149) = m := by
  by_cases h0 : m = 0
  · subst h0; rfl
  have h1 : m.log2 < 23 := (Nat.log2_lt h0).2 (by omega)
  rw [rung_eq m _ h0]
  have e1 : lastP m (-149) = -149 := by unfold lastP; omega
  rw [e1]
  unfold keptQ
  simp only [Int.sub_self, Int.toNat_zero, Nat.shiftLeft_zero, rhe_zero]
  omega
theorem rung_norm (m : Nat) (e : Int) (h : 8388608 ≤ m) (h2 : m < 16777216) (he : -149 ≤ e) (he2 : e ≤ 104) : (rung m e : Int) = (e + 149) * 8388608 + m := by
  have h1 : m.log2 = 23 := (Nat.log2_eq_iff (by omega)).2 ⟨by omega, by omega⟩
  rw [rung_eq m _ (by omega)]
  have e1 : lastP m e = e := by unfold lastP; omega
  rw [e1]
  unfold keptQ
  simp only [Int.sub_self, Int.toNat_zero, Nat.shiftLeft_zero, rhe_zero]
  omega
theorem raw_cases (a : Int) (h0 : 0 ≤ a) (h1 : a < 4294967296) :
    (rawV a = (2, false, 0, 0) ∧ ∃ s f, Ieee.single.read a.toNat = .nan s f) ∨ (∃ s, rawV a = (1, s, 0, 0) ∧ Ieee.single.read a.toNat = .infinity s ∧ a = sgn s + 2139095040) ∨
    (∃ (s : Bool) (m : Nat) (e : Int), rawV a = (0, s, (m : Int), e) ∧ Ieee.single.read a.toNat = .number s m e ∧ Fin32 a s m e) := by
  obtain ⟨n, rfl⟩ := Int.eq_ofNat_of_zero_le h0
  have hn : n < 4294967296 := by omega
  have hr := read_eq n hn
  have ed : decide ((2147483648 : Int) ≤ (n : Int)) = decide (2147483648 ≤ n) := by
    by_cases c : 2147483648 ≤ n
    · rw [decide_eq_true c, decide_eq_true (by omega)]
    · rw [decide_eq_false c, decide_eq_false (by omega)]
  have hsg : sgn (decide (2147483648 ≤ n)) = ((n / 2147483648 * 2147483648 : Nat) : Int) := by
    by_cases c : 2147483648 ≤ n
    · rw [decide_eq_true c]; show (2147483648 : Int) = _; omega
    · rw [decide_eq_false c]; show (0 : Int) = _; omega
  rw [Int.toNat_natCast, hr]
  unfold rawV
  rw [ed]
  by_cases c1 : n / 8388608 % 256 = 255
  · rw [if_pos c1, if_pos (by omega)]
    by_cases c2 : n % 8388608 = 0
    · rw [if_pos c2, if_pos (by omega)]
      exact .inr (.inl ⟨_, rfl, rfl, by rw [hsg]; omega⟩)
    · rw [if_neg c2, if_neg (by omega)]
      exact .inl ⟨rfl, _, _, rfl⟩
  · rw [if_neg c1, if_neg (by omega)]
    by_cases c2 : n / 8388608 % 256 = 0
    · rw [if_pos c2, if_pos (by omega)]
      refine .inr (.inr ⟨_, n % 8388608, -149, ?_, rfl, ?_, .inl ⟨by omega, rfl⟩⟩)
      · rw [show (n : Int) % 8388608 = ((n % 8388608 : Nat) : Int) from by omega]
      · rw [rung_sub _ (by omega), hsg]; omega
    · rw [if_neg c2, if_neg (by omega)]
      refine .inr (.inr ⟨_, 8388608 + n % 8388608, ((n / 8388608 % 256 : Nat) : Int) - 150, ?_, rfl, ?_, .inr ⟨by omega, by omega, by omega, by omega⟩⟩)
      · rw [show (8388608 + (n : Int) % 8388608) = ((8388608 + n % 8388608 : Nat) : Int) from by omega, show (n : Int) / 8388608 % 256 = ((n / 8388608 % 256 : Nat) : Int) from by omega]
      · rw [rung_norm _ _ (by omega) (by omega) (by omega) (by omega), hsg]; omega
theorem raw_some (a : Int) (h0 : 0 ≤ a) (h1 : a < 4294967296) : heraldref03_raw.f a = some (rawV a) := by unfold heraldref03_raw.f; rw [if_pos ⟨h0, h1⟩]
/-- The bits of a word that is none: as they are. -/
theorem word_cast (s : Bool) (r : Nat) : ((Ieee.single.word s r : Nat) : Int) = sgn s + (r : Int) := by
  unfold Ieee.Format.word sgn
  rw [k_weight]
  cases s <;> simp
theorem back_word (s : Bool) (r : Nat) (h : r ≤ 2139095040) : backV (Ieee.single.word s r) = sgn s + (r : Int) := by
  have hw := word_cast s r
  have hs : sgn s = 0 ∨ sgn s = 2147483648 := by cases s <;> simp [sgn]
  have hlt : Ieee.single.word s r < 4294967296 := by omega
  have hr := read_eq _ hlt
  obtain ⟨x, hx⟩ : ∃ x, Ieee.single.word s r = x := ⟨_, rfl⟩
  rw [hx] at hw hlt hr ⊢
  unfold backV
  have ho : (FloatKind.f32.format.order x x == some .eq) = true := by
    show ((Ieee.single.read x).order (Ieee.single.read x) == some .eq) = true
    rw [hr]
    by_cases c1 : x / 8388608 % 256 = 255
    · rw [if_pos c1, if_pos (by omega)]
      simp [Ieee.Datum.order, compare, compareOfLessAndEq]
    · rw [if_neg c1]
      split <;> simp [Ieee.Datum.order, compare, compareOfLessAndEq]
  rw [if_pos ho, hw]
theorem arith_number (s : Bool) (m : Nat) (e : Int) : arithV (some (Ieee.single.write (.number s m e))) = NR s m e := by
  show backV (Ieee.single.nearest s m e) = _
  rw [nearest_eq, back_word s _ (rung_le m e)]; rfl
theorem arith_inf (s : Bool) : arithV (some (Ieee.single.write (.infinity s))) = sgn s + 2139095040 := by
  show backV (Ieee.single.word s Ieee.single.infRung) = _
  rw [k_inf, back_word s _ (by omega)]; rfl
theorem product_comm (x y : Datum) : x.product y = y.product x := by
  cases x <;> cases y <;> simp [Datum.product, Bool.xor_comm, Nat.mul_comm, Int.add_comm]
end Go.Proofs.YteecekhfpfnepaaDoor.Sg
