/- Rows while they are sorted: the blocks of a row. -/
import Derived.Test.YtldbdifdldmgfaaSoE
namespace Go.Proofs.Ytldbdifdldmgfaa.PAll
open Go.RowKit Go.Proofs.Ytldbdifdldmgfaa.Math Go.Proofs.YtldbdifdldmgfaaW.PrintWords Go.Proofs.YtldbdifdldmgfaaW.PrintLast Go.Proofs.YtldbdifdldmgfaaW.PrintMore
set_option linter.unusedVariables false
set_option linter.unusedSimpArgs false

theorem merges (w0 : World) (g gb n cap : Nat) (lv : Int → Int) (hC : Cmps w0 g gb n lv) (hlv : ∀ x, 0 ≤ lv x ∧ lv x ≤ 65536) (hn2 : n ≤ 512) : ∀ M : Nat, Merges w0 g gb n cap lv M := by
  intro M
  induction M with
  | zero => intro L X Y R W a m b h; omega
  | succ M ih =>
    intro L X Y R W a m b hlt hX hY H hn ha hm hb hT
    by_cases h1 : X.length = 1
    · obtain ⟨x, rfl⟩ := List.length_eq_one_iff.1 h1
      exact merge_left w0 W g gb n cap a m b lv L Y R x H hC hlv (by simpa using hn) ha (by simpa using hm) (by simpa using hb) hT hn2
    · by_cases h2 : Y.length = 1
      · obtain ⟨y, rfl⟩ := List.length_eq_one_iff.1 h2
        exact merge_right w0 W g gb n cap a m b lv L X R y H hC hlv (by simpa using hn) ha hm (by simpa using hb) (by omega) hT hn2
      · refine merge_main w0 W g gb n cap a m b lv L X Y R H hC hlv hn ha hm hb (by omega) (by omega) hT hn2 ?_
        intro L' X' Y' R' W' a' m' b' hlt'
        exact ih L' X' Y' R' W' a' m' b' (by omega)
def rng (lo hi : Nat) : List Int := (List.range (hi - lo)).map fun i => ((lo + i : Nat) : Int)
theorem rng_len (lo hi : Nat) : (rng lo hi).length = hi - lo := by simp [rng]
theorem mem_rng (lo hi : Nat) (x : Int) : x ∈ rng lo hi ↔ (lo : Int) ≤ x ∧ x < (hi : Int) := by
  simp only [rng, List.mem_map, List.mem_range]
  constructor
  · rintro ⟨i, hi, rfl⟩; omega
  · intro h; exact ⟨(x - lo).toNat, by omega, by omega⟩
theorem rng_append (a m b : Nat) (h1 : a ≤ m) (h2 : m ≤ b) : rng a m ++ rng m b = rng a b := by
  apply List.ext_getElem
  · simp [rng_len]; omega
  · intro i h3 h4
    simp only [List.getElem_append, rng, List.getElem_map, List.getElem_range, List.length_map, List.length_range]
    split <;> omega
theorem rng_up (lo hi : Nat) : (rng lo hi).Pairwise (· < ·) := by
  rw [rng, List.pairwise_map]
  exact List.pairwise_lt_range.imp (fun h => by omega)
def seg (l : List Int) (lo hi : Nat) : List Int := (l.drop lo).take (hi - lo)
theorem seg_len (l : List Int) (lo hi : Nat) (h : hi ≤ l.length) : (seg l lo hi).length = hi - lo := by simp [seg]; omega
theorem row_cut (l : List Int) (a m b : Nat) (h1 : a ≤ m) (h2 : m ≤ b) : l = l.take a ++ (seg l a m ++ (seg l m b ++ l.drop b)) := by
  have e1 : seg l m b ++ l.drop b = l.drop m := by
    unfold seg
    have : l.drop b = (l.drop m).drop (b - m) := by rw [List.drop_drop]; congr 1; omega
    rw [this, List.take_append_drop]
  have e2 : seg l a m ++ l.drop m = l.drop a := by
    unfold seg
    have : l.drop m = (l.drop a).drop (m - a) := by rw [List.drop_drop]; congr 1; omega
    rw [this, List.take_append_drop]
  rw [e1, e2, List.take_append_drop]
theorem row_cut1 (l : List Int) (a b : Nat) (h1 : a ≤ b) : l = l.take a ++ (seg l a b ++ l.drop b) := by
  have := row_cut l a b b h1 (Nat.le_refl _)
  simpa [seg] using this
section
variable (l Z : List Int) (a b : Nat) (hab : a ≤ b) (hb : b ≤ l.length) (hZ : Z.length = b - a)
include hab hb hZ
theorem new_len : (l.take a ++ (Z ++ l.drop b)).length = l.length := by simp; omega
theorem new_ahead (s e : Nat) (h : e ≤ a) : seg (l.take a ++ (Z ++ l.drop b)) s e = seg l s e := by
  have u_ := hZ
  apply list_ext_at
  · simp [seg]; omega
  · intro q hq
    simp only [seg, List.length_take, List.length_drop] at hq
    unfold seg
    rw [atN_take _ _ _ (by omega), atN_take _ _ _ (by omega), atN_drop, atN_drop, atN_append, if_pos (by simp; omega), atN_take _ _ _ (by omega)]
theorem new_behind (s e : Nat) (h : b ≤ s) : seg (l.take a ++ (Z ++ l.drop b)) s e = seg l s e := by
  apply list_ext_at
  · simp [seg]; omega
  · intro q hq
    simp only [seg, List.length_take, List.length_drop] at hq
    unfold seg
    have e0 : (l.take a).length = a := by simp; omega
    rw [atN_take _ _ _ (by omega), atN_take _ _ _ (by omega), atN_drop, atN_drop, atN_append, if_neg (by omega), atN_append, if_neg (by omega), atN_drop]
    congr 1; omega
theorem new_at : seg (l.take a ++ (Z ++ l.drop b)) a b = Z := by
  have e0 : (l.take a).length = a := by simp; omega
  unfold seg
  rw [List.drop_append_of_le_length (by omega), List.drop_of_length_le (by omega), List.nil_append, List.take_append_of_le_length (by omega), List.take_of_length_le (by omega)]
end
/-- A block is sorted, and holds the numbers of its places. -/
def Blk (lv : Int → Int) (l : List Int) (s e : Nat) : Prop := Sorted lv (rng s e) (seg l s e)
def BsTo (lv : Int → Int) (n bs t : Nat) (l : List Int) : Prop := ∀ q : Nat, q * bs < t → Blk lv l (q * bs) (min (q * bs + bs) n)
def BsFrom (lv : Int → Int) (n bs t : Nat) (l : List Int) : Prop := ∀ q : Nat, t ≤ q * bs → q * bs < n → Blk lv l (q * bs) (min (q * bs + bs) n)
theorem Blk.two {lv : Int → Int} {l : List Int} {n a m b : Nat} (h1 : Blk lv l a m) (h2 : Blk lv l m b) (ham : a ≤ m) (hmb : m ≤ b) (hb : b ≤ n) : Two lv n (seg l a m) (seg l m b) := by
  have m1 : ∀ x ∈ seg l a m, (a : Int) ≤ x ∧ x < (m : Int) := fun x hx => (mem_rng a m x).1 (h1.perm.mem_iff.1 hx)
  have m2 : ∀ x ∈ seg l m b, (m : Int) ≤ x ∧ x < (b : Int) := fun x hx => (mem_rng m b x).1 (h2.perm.mem_iff.1 hx)
  exact ⟨h1.pair, h2.pair, fun x hx y hy => by have := m1 x hx; have := m2 y hy; omega, fun x hx => by have := m1 x hx; omega, fun y hy => by have := m2 y hy; omega⟩
theorem Blk.one {lv : Int → Int} {l Z : List Int} {a m b : Nat} (h1 : Blk lv l a m) (h2 : Blk lv l m b) (ham : a ≤ m) (hmb : m ≤ b) (hb : b ≤ l.length) (hz : Sorted lv (seg l a m ++ seg l m b) Z) : Blk lv (l.take a ++ (Z ++ l.drop b)) a b ∧ Z.length = b - a := by
  have hZ : Z.length = b - a := by
    have := hz.perm.length_eq
    rw [List.length_append, seg_len _ _ _ (by omega), seg_len _ _ _ (by omega)] at this
    omega
  refine ⟨?_, hZ⟩
  unfold Blk
  rw [new_at l Z a b (by omega) hb hZ, ← rng_append a m b ham hmb]
  exact ⟨hz.perm.trans (h1.perm.append h2.perm), hz.pair⟩
/-- One more pair of blocks has been merged. -/
theorem BsTo.step {lv : Int → Int} {l Z : List Int} {n bs a b q0 : Nat} (hl : l.length = n) (hbs : 0 < bs) (ha : a = q0 * (2 * bs)) (hb : b = min (a + 2 * bs) n) (han : a < n) (hZ : Z.length = b - a) (h : BsTo lv n (2 * bs) a l) (hnew : Blk lv (l.take a ++ (Z ++ l.drop b)) a b) : BsTo lv n (2 * bs) (a + 2 * bs) (l.take a ++ (Z ++ l.drop b)) := by
  intro q hq
  by_cases e : q = q0
  · subst e
    rw [← ha, ← hb]
    exact hnew
  · have hlt : q < q0 := by
      rcases Nat.lt_or_ge q q0 with h1 | h1
      · exact h1
      · exfalso
        have h2 : (q0 + 1) * (2 * bs) ≤ q * (2 * bs) := Nat.mul_le_mul_right _ (by omega)
        rw [Nat.succ_mul] at h2
        omega
    have h2 : (q + 1) * (2 * bs) ≤ q0 * (2 * bs) := Nat.mul_le_mul_right _ (by omega)
    rw [Nat.succ_mul] at h2
    have := h q (by omega)
    unfold Blk at this ⊢
    rw [new_ahead l Z a b (by omega) (by omega) hZ _ _ (by omega)]
    exact this
theorem BsFrom.step {lv : Int → Int} {l Z : List Int} {n bs a b t : Nat} (hl : l.length = n) (hab : a ≤ b) (hbn : b ≤ n) (hat : a ≤ t) (hbt : b ≤ t) (hZ : Z.length = b - a) (h : BsFrom lv n bs a l) : BsFrom lv n bs t (l.take a ++ (Z ++ l.drop b)) := by
  intro q hq hqn
  have := h q (by omega) hqn
  unfold Blk at this ⊢
  rw [new_behind l Z a b hab (by omega) hZ _ _ (by omega)]
  exact this
theorem BsTo.all {lv : Int → Int} {n bs t : Nat} {l : List Int} (h : BsTo lv n bs t l) (ht : n ≤ t) : BsFrom lv n bs 0 l := fun q _ hq => h q (by omega)
theorem BsTo.mono {lv : Int → Int} {n bs t t' : Nat} {l : List Int} (h : BsTo lv n bs t l) (ht : t' ≤ t) : BsTo lv n bs t' l := fun q hq => h q (by omega)
end Go.Proofs.Ytldbdifdldmgfaa.PAll
