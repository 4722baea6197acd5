/- What the program's Make makes. -/
import Derived.Test.YtljlpkadjngpoaaEvNum
import Derived.Test.YtljlpkadjngpoaaPAllx3
namespace Go.Proofs.Ytljlpkadjngpoaa.Math
open Go.RowKit Go.Proofs.Ytljlpkadjngpoaa.PAll Go.Proofs.YtljlpkadjngpoaaW.PrintWords Go.Proofs.YtljlpkadjngpoaaW.PrintLast Go.Proofs.YtljlpkadjngpoaaW.PrintMore
set_option linter.unusedVariables false
set_option linter.unusedSimpArgs false

theorem mn_nat (a c : Nat) : mn (a : Int) (c : Int) = ((min a c : Nat) : Int) := by unfold mn; split <;> omega
theorem shr_nat (u : Int) (s : Nat) (hs : s ≤ 64) : shr .i64 u (s : Int) = u / 2 ^ s := by
  unfold shr; rw [show min (s : Int).toNat IntKind.i64.bits = s from by show min (s : Int).toNat 64 = s; omega]
theorem shl_nat (u : Int) (s : Nat) (hs : s ≤ 64) : shl .i64 u (s : Int) = wrap64 (u * 2 ^ s) := by
  unfold shl; rw [show min (s : Int).toNat IntKind.i64.bits = s from by show min (s : Int).toNat 64 = s; omega, IntKind.wrap_i64]; unfold wrap64; generalize u * 2 ^ s = z; omega
theorem pow_le8 (n : Nat) (h : n ≤ 8) : (2 : Int) ^ n ≤ 256 := by
  rcases (show n = 0 ∨ n = 1 ∨ n = 2 ∨ n = 3 ∨ n = 4 ∨ n = 5 ∨ n = 6 ∨ n = 7 ∨ n = 8 by omega) with rfl | rfl | rfl | rfl | rfl | rfl | rfl | rfl | rfl <;> decide
/-- The bits of a draw that go into the last byte. -/
theorem piece_eq (u : Int) (d n : Nat) (hn : n ≤ 8) (hnd : n ≤ d) (hd : d ≤ 32) (u0 : 0 ≤ u) (u1 : u < 4294967296) :
    bits .and .i64 (shr .i64 u (wrap64 ((d : Int) - (n : Int)))) (wrap64 (wrap64 (2 ^ (n : Int).toNat) - 1)) = u / 2 ^ (d - n) % 2 ^ n := by
  have hp := pow_le8 n hn
  have hp1 := pow_pos' n
  rw [Int.toNat_natCast, wrap_in (a := 2 ^ n) (by omega) (by omega), wrap_in (a := 2 ^ n - 1) (by omega) (by omega), wrap_in (a := (d : Int) - n) (by omega) (by omega), show (d : Int) - (n : Int) = ((d - n : Nat) : Int) from by omega, shr_nat _ _ (by omega)]
  have h1 : 0 ≤ u / 2 ^ (d - n) := Int.ediv_nonneg u0 (Int.le_of_lt (pow_pos' _))
  have h2 : u / 2 ^ (d - n) ≤ u := Int.ediv_le_self _ u0
  exact and_mask _ n (by omega) h1 (by omega)
theorem piece_eq2 (u : Int) (d n : Nat) (hn : n ≤ 8) (hnd : n ≤ d) (hd : d ≤ 32) (u0 : 0 ≤ u) (u1 : u < 4294967296) :
    bits .and .i64 (shr .i64 u (wrap64 ((d : Int) - (n : Int)))) (wrap64 (shl .i64 1 (n : Int) - 1)) = u / 2 ^ (d - n) % 2 ^ n := by
  rw [shl_nat _ _ (by omega), Int.one_mul]
  exact piece_eq u d n hn hnd hd u0 u1
theorem piece_place (p : Int) (r n : Nat) (hr : r ≤ 8) (hn : n ≤ r) (p0 : 0 ≤ p) (p1 : p < 2 ^ n) : shl .i64 p (wrap64 ((r : Int) - (n : Int))) = p * 2 ^ (r - n) := by
  rw [wrap_in (a := (r : Int) - n) (by omega) (by omega), show (r : Int) - (n : Int) = ((r - n : Nat) : Int) from by omega, shl_nat _ _ (by omega), wrap_in]
  · have := Int.mul_nonneg p0 (Int.le_of_lt (pow_pos' (r - n))); omega
  · have h1 := pow_le8 n (by omega)
    have h2 := pow_le8 (r - n) (by omega)
    have := Int.mul_le_mul (a := p) (b := 2 ^ (r - n)) (c := 256) (d := 256) (by omega) h2 (Int.le_of_lt (pow_pos' _)) (by omega)
    omega
theorem draw_split (P u : Int) (B d n : Nat) (hd : d ≤ B) (hn : n ≤ d) : (P * 2 ^ (B - d) + u / 2 ^ d) * 2 ^ n + u / 2 ^ (d - n) % 2 ^ n = P * 2 ^ (B - (d - n)) + u / 2 ^ (d - n) := by
  have e1 : (2 : Int) ^ (B - (d - n)) = 2 ^ (B - d) * 2 ^ n := by rw [← pow_add']; congr 1; omega
  have e2 : (2 : Int) ^ d = 2 ^ (d - n) * 2 ^ n := by rw [← pow_add']; congr 1; omega
  rw [e1, e2, ← Int.ediv_ediv_of_nonneg (Int.le_of_lt (pow_pos' _)), Int.add_mul, Int.mul_assoc]
  have := Int.mul_ediv_add_emod (u / 2 ^ (d - n)) (2 ^ n)
  rw [Int.mul_comm (2 ^ n)] at this
  omega

theorem make_in (b : Int) (l : List Int) (i u P C : Int) (hb : IsBits b) (hC0 : 0 ≤ C) (hC : C + b ≤ 1099511627776) (u0 : 0 ≤ u) (u1 : u < 4294967296) (K : Nat) (Good : ByteArray × Int → Prop)
    (next : ∀ out room, Inv out room (C + b) (P * 2 ^ b.toNat + u) → ∀ k, K ≤ k → ∃ r, tape_Make.l0 k b out (room : Int) l (l.length : Int) (wrap64 (i + 1)) = some r ∧ Good r) :
    ∀ (N d : Nat) (out : List Int) (room : Nat), d ≤ N → d ≤ b.toNat → Inv out room (C + (b - d)) (P * 2 ^ (b.toNat - d) + u / 2 ^ d) → ∀ k, K + d + 1 ≤ k → ∃ r, tape_Make.l1 k b out (room : Int) u (d : Int) l (l.length : Int) i = some r ∧ Good r := by
  have hbb : 1 ≤ b ∧ b ≤ 32 := by unfold IsBits at hb; omega
  intro N
  induction N with
  | zero =>
    intro d out room hN hd hI k hk
    obtain ⟨k, rfl⟩ : ∃ m, k = m + 1 := ⟨k - 1, by omega⟩
    obtain rfl : d = 0 := by omega
    simp only [tape_Make.l1]
    rw [if_neg (by omega)]
    refine next out room ?_ k (by omega)
    simpa using hI
  | succ N ih =>
    intro d out room hN hd hI k hk
    by_cases hz : d = 0
    · subst hz
      obtain ⟨k, rfl⟩ : ∃ m, k = m + 1 := ⟨k - 1, by omega⟩
      simp only [tape_Make.l1]
      rw [if_neg (by omega)]
      refine next out room ?_ k (by omega)
      simpa using hI
    obtain ⟨k, rfl⟩ : ∃ m, k = m + 1 := ⟨k - 1, by omega⟩
    have hlen := hI.len
    have hlow := hI.low
    simp only [tape_Make.l1]
    rw [if_pos (by omega)]
    by_cases hr : room = 0
    · subst hr
      rw [if_pos (by rfl), if_pos (by omega)]
      simp only [Option.bind_some]
      obtain ⟨n, hn⟩ : ∃ n, min d 8 = n := ⟨_, rfl⟩
      have hm8 : mn (d : Int) 8 = (n : Int) := by rw [← hn]; exact mn_nat d 8
      have hl1 : wrap64 (((out ++ [0]).length : Int) - 1) = (out.length : Int) := by rw [wrap_in] <;> simp <;> omega
      have hm : wrap64 ((d : Int) - (n : Int)) = ((d - n : Nat) : Int) := by rw [wrap_in] <;> omega
      have hm' : wrap64 (8 - (n : Int)) = ((8 - n : Nat) : Int) := by rw [wrap_in] <;> omega
      have p0 : 0 ≤ u / 2 ^ (d - n) % 2 ^ n := Int.emod_nonneg _ (by have := pow_pos' n; omega)
      have p1 : u / 2 ^ (d - n) % 2 ^ n < 2 ^ n := Int.emod_lt_of_pos _ (pow_pos' n)
      rw [hl1, hm8, piece_eq u d n (by omega) (by omega) (by omega) u0 u1, show (8 : Int) = ((8 : Nat) : Int) from rfl, piece_place _ 8 n (by omega) (by omega) p0 p1, hm, show (((8 : Nat) : Int)) = 8 from rfl, hm', rd_snoc out 0 _ rfl, set_snoc _ _ _ _ (by omega)]
      obtain ⟨v, hv, hI2⟩ := Inv.step (o := out) (x := 0) (r := 8) (cnt := C + (b - d)) (M := P * 2 ^ (b.toNat - d) + u / 2 ^ d) (by omega) (by omega) (by
          intro y hy
          rcases List.mem_append.mp hy with hy | hy
          · exact hI.bytes y hy
          · obtain rfl : y = 0 := by simpa using hy
            omega) (by rw [num_snoc, hI.numb, Int.pow_zero]; omega) _ n (by omega) (by omega) p0 p1
      rw [hv, if_pos (by omega), if_pos (by simp; omega), if_pos (by omega), if_pos (by omega), if_pos (by omega)]
      rw [draw_split P u b.toNat d n (by omega) (by omega)] at hI2
      refine ih (d - n) _ (8 - n) (by omega) (by omega) ?_ k (by omega)
      rw [show C + (b - ((d - n : Nat) : Int)) = C + (b - d) + n from by omega]
      exact hI2
    · rw [if_neg (by omega)]
      rcases snoc_cases out with rfl | ⟨o, x, rfl⟩
      · simp at hlen; omega
      have hol : ((o ++ [x]).length : Int) = (o.length : Int) + 1 := by simp
      obtain ⟨n, hn⟩ : ∃ n, min d room = n := ⟨_, rfl⟩
      have hm8 : mn (d : Int) (room : Int) = (n : Int) := by rw [← hn]; exact mn_nat d room
      have hl1 : wrap64 (((o ++ [x]).length : Int) - 1) = (o.length : Int) := by rw [wrap_in] <;> omega
      have hm : wrap64 ((d : Int) - (n : Int)) = ((d - n : Nat) : Int) := by rw [wrap_in] <;> omega
      have hm' : wrap64 ((room : Int) - (n : Int)) = ((room - n : Nat) : Int) := by rw [wrap_in] <;> omega
      have p0 : 0 ≤ u / 2 ^ (d - n) % 2 ^ n := Int.emod_nonneg _ (by have := pow_pos' n; omega)
      have p1 : u / 2 ^ (d - n) % 2 ^ n < 2 ^ n := Int.emod_lt_of_pos _ (pow_pos' n)
      rw [hl1, hm8, piece_eq2 u d n (by omega) (by omega) (by omega) u0 u1, piece_place _ room n (by omega) (by omega) p0 p1, hm, hm', rd_snoc o x _ rfl, set_snoc _ _ _ _ (by omega)]
      obtain ⟨v, hv, hI2⟩ := Inv.step (o := o) (x := x) (r := room) (cnt := C + (b - d)) (M := P * 2 ^ (b.toNat - d) + u / 2 ^ d) (by omega) (by omega) hI.bytes hI.numb _ n (by omega) (by omega) p0 p1
      rw [hv, if_pos (by omega), if_pos (by omega), if_pos (by omega), if_pos (by omega), if_pos (by omega)]
      rw [draw_split P u b.toNat d n (by omega) (by omega)] at hI2
      refine ih (d - n) _ (room - n) (by omega) (by omega) ?_ k (by omega)
      rw [show C + (b - ((d - n : Nat) : Int)) = C + (b - d) + n from by omega]
      exact hI2
end Go.Proofs.Ytljlpkadjngpoaa.Math
