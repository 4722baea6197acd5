/- Numbers of rows of digits; rows with the same number. -/
import Derived.Test.YtljlpkadjngpoaaEvAt
namespace Go.Proofs.Ytljlpkadjngpoaa.Math
open Go.RowKit Go.Proofs.Ytljlpkadjngpoaa.PAll Go.Proofs.YtljlpkadjngpoaaW.PrintWords Go.Proofs.YtljlpkadjngpoaaW.PrintLast Go.Proofs.YtljlpkadjngpoaaW.PrintMore
set_option linter.unusedVariables false
set_option linter.unusedSimpArgs false

/-- The number of a row of digits, the first one the greatest. -/
def num (R : Int) (l : List Int) : Int := l.foldl (fun v x => v * R + x) 0
theorem num_nil (R : Int) : num R [] = 0 := rfl
theorem num_snoc (R : Int) (l : List Int) (x : Int) : num R (l ++ [x]) = num R l * R + x := by simp [num]
theorem snoc_cases (l : List Int) : l = [] ∨ ∃ a x, l = a ++ [x] := by
  rcases List.eq_nil_or_concat l with h | ⟨a, x, h⟩
  · exact .inl h
  · exact .inr ⟨a, x, by rw [h]; simp⟩
theorem num_range (R : Int) (hR : 0 < R) : ∀ (n : Nat) (l : List Int), l.length = n → (∀ x ∈ l, 0 ≤ x ∧ x < R) → 0 ≤ num R l ∧ num R l < R ^ n := by
  intro n
  induction n with
  | zero =>
    intro l hl _
    obtain rfl : l = [] := List.length_eq_zero_iff.mp hl
    exact ⟨Int.le_refl _, by rw [num_nil, Int.pow_zero]; omega⟩
  | succ n ih =>
    intro l hl h
    rcases snoc_cases l with rfl | ⟨a, x, rfl⟩
    · simp at hl
    · obtain ⟨h0, h1⟩ := ih a (by simpa using hl) (fun y hy => h y (by simp [hy]))
      obtain ⟨x0, x1⟩ := h x (by simp)
      rw [num_snoc, Int.pow_succ]
      refine ⟨Int.add_nonneg (Int.mul_nonneg h0 (by omega)) x0, ?_⟩
      have : (num R a + 1) * R ≤ R ^ n * R := Int.mul_le_mul_of_nonneg_right (by omega) (by omega)
      rw [Int.add_mul] at this
      omega
theorem num_inj (R : Int) (hR : 0 < R) : ∀ (n : Nat) (l m : List Int), l.length = n → m.length = n → (∀ x ∈ l, 0 ≤ x ∧ x < R) → (∀ x ∈ m, 0 ≤ x ∧ x < R) → num R l = num R m → l = m := by
  intro n
  induction n with
  | zero =>
    intro l m hl hm _ _ _
    rw [List.length_eq_zero_iff.mp hl, List.length_eq_zero_iff.mp hm]
  | succ n ih =>
    intro l m hl hm h g e
    rcases snoc_cases l with rfl | ⟨a, x, rfl⟩
    · simp at hl
    rcases snoc_cases m with rfl | ⟨c, y, rfl⟩
    · simp at hm
    rw [num_snoc, num_snoc] at e
    obtain ⟨x0, x1⟩ := h x (by simp)
    obtain ⟨y0, y1⟩ := g y (by simp)
    have e1 : (num R a * R + x) % R = (num R c * R + y) % R := by rw [e]
    rw [Int.add_comm, Int.add_mul_emod_self_right, Int.add_comm (num R c * R), Int.add_mul_emod_self_right, Int.emod_eq_of_lt x0 x1, Int.emod_eq_of_lt y0 y1] at e1
    subst e1
    have e2 : num R a * R = num R c * R := by omega
    have e3 : num R a = num R c := Int.eq_of_mul_eq_mul_right (by omega) e2
    rw [ih a c (by simpa using hl) (by simpa using hm) (fun z hz => h z (by simp [hz])) (fun z hz => g z (by simp [hz])) e3]
theorem take_snoc (l : List Int) (i : Nat) (h : i < l.length) : l.take (i + 1) = l.take i ++ [rd l i] := by
  rw [List.take_add_one]
  simp [rd, List.getD_eq_getElem?_getD, h]
theorem rd_snoc (o : List Int) (x : Int) (i : Int) (h : i = (o.length : Int)) : rd (o ++ [x]) i = x := by
  subst h
  simp [rd, List.getD_eq_getElem?_getD]
theorem set_snoc (o : List Int) (x v : Int) (i : Nat) (h : i = o.length) : (o ++ [x]).set i v = o ++ [v] := by
  subst h
  simp
theorem rd_mem (l : List Int) (i : Int) (h0 : 0 ≤ i) (h : i < (l.length : Int)) : rd l i ∈ l := by
  have h' : i.toNat < l.length := by omega
  simp [rd, List.getD_eq_getElem?_getD, h']
theorem pow_pos' (n : Nat) : (0 : Int) < 2 ^ n := Int.pow_pos (by omega)
theorem pow_add' (a c : Nat) : (2 : Int) ^ (a + c) = 2 ^ a * 2 ^ c := Int.pow_add _ _ _
/-- A byte whose last bits are free takes more bits there. -/
theorem or_bits (x p : Int) (r n : Nat) (hr : r ≤ 8) (hn : n ≤ r) (x0 : 0 ≤ x) (x1 : x ≤ 255) (hx : x % 2 ^ r = 0) (p0 : 0 ≤ p) (p1 : p < 2 ^ n) :
    bits .or .u8 x (p * 2 ^ (r - n) % 256) = x + p * 2 ^ (r - n) ∧ x + p * 2 ^ (r - n) ≤ 255 := by
  obtain ⟨a, rfl⟩ := Int.eq_ofNat_of_zero_le x0
  obtain ⟨c, rfl⟩ := Int.eq_ofNat_of_zero_le p0
  have hc : c < 2 ^ n := by exact_mod_cast p1
  have hq : c * 2 ^ (r - n) < 2 ^ r := by
    have e : 2 ^ r = 2 ^ n * 2 ^ (r - n) := by rw [← Nat.pow_add]; congr 1; omega
    rw [e]
    exact Nat.mul_lt_mul_of_pos_right hc (Nat.two_pow_pos _)
  have hr2 : 2 ^ r ≤ 2 ^ 8 := Nat.pow_le_pow_right (by omega) hr
  have hx' : a % 2 ^ r = 0 := by exact_mod_cast hx
  have ha : a = 2 ^ r * (a / 2 ^ r) := by have := Nat.div_add_mod a (2 ^ r); omega
  have hpq : ((c : Int) * 2 ^ (r - n)) = ((c * 2 ^ (r - n) : Nat) : Int) := by push_cast; rfl
  rw [hpq]
  obtain ⟨q, hq_⟩ : ∃ q, c * 2 ^ (r - n) = q := ⟨_, rfl⟩
  rw [hq_] at hq ⊢
  have hadd : a ||| q = a + q := by
    rw [ha]
    exact (Nat.two_pow_add_eq_or_of_lt hq _).symm
  have hdiv : 2 ^ 8 = 2 ^ r * 2 ^ (8 - r) := by rw [← Nat.pow_add]; congr 1; omega
  have hle : a + q < 256 := by
    have h1 : a / 2 ^ r < 2 ^ (8 - r) := by
      apply Nat.div_lt_of_lt_mul
      rw [← hdiv]
      omega
    have h2 : 2 ^ r * (a / 2 ^ r + 1) ≤ 2 ^ r * 2 ^ (8 - r) := Nat.mul_le_mul_left _ h1
    rw [← hdiv, Nat.mul_add, ← ha] at h2
    omega
  refine ⟨?_, by omega⟩
  rw [show ((q : Int) % 256) = ((q : Nat) : Int) from by omega]
  show IntKind.u8.wrap ((BitVec.ofInt 8 (a : Int) ||| BitVec.ofInt 8 (q : Int)).toNat : Int) = _
  rw [BitVec.toNat_or, BitVec.ofInt_natCast, BitVec.ofInt_natCast, BitVec.toNat_ofNat, BitVec.toNat_ofNat, Nat.mod_eq_of_lt (by omega), Nat.mod_eq_of_lt (by omega), hadd]
  show ((a + q : Nat) : Int) % 256 = _
  omega
/-- The bytes that hold some bits, their number, and what is free behind them. -/
structure Inv (out : List Int) (room : Nat) (cnt : Int) (M : Int) : Prop where
  len : 8 * (out.length : Int) = cnt + room
  low : room ≤ 7
  bytes : ∀ x ∈ out, 0 ≤ x ∧ x < 256
  numb : Math.num 256 out = M * 2 ^ room
/-- Some bits more into the last byte. -/
theorem Inv.step {o : List Int} {x : Int} {r : Nat} {cnt M : Int} (hr : r ≤ 8) (hlen : 8 * ((o.length : Int) + 1) = cnt + r) (hb : ∀ y ∈ o ++ [x], 0 ≤ y ∧ y < 256) (hn : Math.num 256 (o ++ [x]) = M * 2 ^ r)
    (p : Int) (n : Nat) (h1 : 1 ≤ n) (hnr : n ≤ r) (p0 : 0 ≤ p) (p1 : p < 2 ^ n) :
    ∃ v, bits .or .u8 x (p * 2 ^ (r - n) % 256) = v ∧ Inv (o ++ [v]) (r - n) (cnt + n) (M * 2 ^ n + p) := by
  obtain ⟨x0, x1⟩ := hb x (by simp)
  have hd : (256 : Int) = 2 ^ (8 - r) * 2 ^ r := by rw [← pow_add', show 8 - r + r = 8 by omega]; rfl
  have hx : x % 2 ^ r = 0 := by
    rw [num_snoc, hd, ← Int.mul_assoc] at hn
    have : x = (M - Math.num (2 ^ (8 - r) * 2 ^ r) o * 2 ^ (8 - r)) * 2 ^ r := by rw [Int.sub_mul]; omega
    rw [this, Int.mul_emod_left]
  obtain ⟨e1, e2⟩ := or_bits x p r n hr hnr x0 (by omega) hx p0 p1
  refine ⟨_, e1, ⟨by simp; omega, by omega, ?_, ?_⟩⟩
  · intro y hy
    rcases List.mem_append.mp hy with hy | hy
    · exact hb y (by simp [hy])
    · obtain rfl : y = _ := by simpa using hy
      have := Int.mul_nonneg p0 (Int.le_of_lt (pow_pos' (r - n)))
      omega
  · rw [num_snoc] at hn ⊢
    have : (2 : Int) ^ r = 2 ^ n * 2 ^ (r - n) := by rw [← pow_add']; congr 1; omega
    rw [Int.add_mul, Int.mul_assoc, ← this]
    omega
end Go.Proofs.Ytljlpkadjngpoaa.Math
