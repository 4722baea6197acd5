/- What the program's Make and the reference's Make make: the same. -/
import Derived.Test.YtljlpkadjngpoaaEvMake
import Derived.Test.YtljlpkadjngpoaaPAllx4
namespace Go.Proofs.Ytljlpkadjngpoaa.Math
open Go.RowKit Go.Proofs.Ytljlpkadjngpoaa.PAll Go.Proofs.YtljlpkadjngpoaaW.PrintWords Go.Proofs.YtljlpkadjngpoaaW.PrintLast Go.Proofs.YtljlpkadjngpoaaW.PrintMore
set_option linter.unusedVariables false
set_option linter.unusedSimpArgs false

def Fits (b : Int) (l : List Int) : Prop := ∀ x ∈ l, 0 ≤ x ∧ x < 2 ^ b.toNat
def Made (b : Int) (l : List Int) (r : ByteArray × Int) : Prop :=
  (Fits b l ∧ ∃ out room, r = (strOfNums out, 0) ∧ Inv out room (b * l.length) (num (2 ^ b.toNat) l)) ∨ (¬ Fits b l ∧ r = (⟨#[]⟩, 1))
theorem pow_b (b : Int) (hb : IsBits b) : (2 : Int) ^ b.toNat ≤ 4294967296 := by
  rcases hb with rfl | rfl | rfl | rfl | rfl | rfl <;> decide
theorem mul_bits (b i n : Int) (hb : IsBits b) (h0 : 0 ≤ i) (h : i ≤ n) (hn : n ≤ 8388608) : 0 ≤ b * i ∧ b * i ≤ 268435456 := by
  rcases hb with rfl | rfl | rfl | rfl | rfl | rfl <;> omega
theorem Fits.snoc {b : Int} {l : List Int} {i : Nat} (h : i < l.length) (h1 : Fits b (l.take i)) (u0 : 0 ≤ rd l i) (u1 : rd l i < 2 ^ b.toNat) : Fits b (l.take (i + 1)) := by
  intro x hx
  rw [take_snoc l i h] at hx
  rcases List.mem_append.mp hx with hx | hx
  · exact h1 x hx
  · obtain rfl : x = _ := by simpa using hx
    exact ⟨u0, u1⟩
theorem make_out (b : Int) (l : List Int) (hb : IsBits b) (hl : l.length ≤ 8388608) :
    ∀ (e i : Nat) (out : List Int) (room : Nat), i + e = l.length → Inv out room (b * i) (num (2 ^ b.toNat) (l.take i)) → Fits b (l.take i) → ∀ k, 40 * e + 5 ≤ k →
    ∃ r, tape_Make.l0 k b out (room : Int) l (l.length : Int) (i : Int) = some r ∧ Made b l r := by
  have hbb : 1 ≤ b ∧ b ≤ 32 := by unfold IsBits at hb; omega
  have hbn : b = (b.toNat : Int) := by omega
  intro e
  induction e with
  | zero =>
    intro i out room he hI hF k hk
    obtain ⟨k, rfl⟩ : ∃ m, k = m + 1 := ⟨k - 1, by omega⟩
    obtain rfl : i = l.length := by omega
    simp only [tape_Make.l0]
    rw [if_neg (by omega)]
    rw [List.take_length] at hI hF
    exact ⟨_, rfl, .inl ⟨hF, out, room, rfl, hI⟩⟩
  | succ e ih =>
    intro i out room he hI hF k hk
    obtain ⟨k, rfl⟩ : ∃ m, k = m + 1 := ⟨k - 1, by omega⟩
    obtain ⟨k, rfl⟩ : ∃ m, k = m + 1 := ⟨k - 1, by omega⟩
    have hi : i < l.length := by omega
    have hm := rd_mem l i (by omega) (by omega)
    simp only [tape_Make.l0]
    rw [if_pos (by omega), if_pos (by omega), if_pos (by omega)]
    by_cases u0 : rd l i < 0
    · rw [if_pos u0]
      simp only [tape_Make.j1]
      rw [if_pos trivial]
      exact ⟨_, rfl, .inr ⟨fun h => by have := (h _ hm).1; omega, rfl⟩⟩
    · rw [if_neg u0, if_pos (by omega)]
      simp only [tape_Make.j1]
      rw [hbn, shr_nat _ _ (by omega), ← hbn]
      have hp := pow_b b hb
      have hp1 := pow_pos' b.toNat
      by_cases u1 : rd l i < 2 ^ b.toNat
      · rw [Int.ediv_eq_zero_of_lt (by omega) u1, if_neg (by decide)]
        have hmb := mul_bits b i l.length hb (by omega) (by omega) (by omega)
        have hin := make_in b l i (rd l i) (num (2 ^ b.toNat) (l.take i)) (b * i) hb hmb.1 (by omega) (by omega) (by omega) (40 * e + 5) (Made b l) (by
          intro out' room' hI' k' hk'
          rw [wrap_in (a := (i : Int) + 1) (by omega) (by omega), show ((i : Int) + 1) = ((i + 1 : Nat) : Int) from by omega]
          refine ih (i + 1) out' room' (by omega) ?_ (hF.snoc hi (by omega) u1) k' hk'
          rw [take_snoc l i hi, num_snoc, show b * ((i + 1 : Nat) : Int) = b * i + b from by rw [Int.natCast_add, Int.mul_add]; omega]
          exact hI') b.toNat b.toNat out room (Nat.le_refl _) (Nat.le_refl _) (by
          rw [Nat.sub_self, Int.pow_zero, Int.ediv_eq_zero_of_lt (by omega) u1, ← hbn, show b * i + (b - b) = b * i from by omega, show num (2 ^ b.toNat) (l.take i) * 1 + 0 = num (2 ^ b.toNat) (l.take i) from by omega]
          exact hI) k (by omega)
        rw [← hbn] at hin
        exact hin
      · rw [if_pos (by
          have : 1 ≤ rd l i / 2 ^ b.toNat := by
            rw [Int.le_ediv_iff_mul_le hp1]; omega
          simp; omega)]
        exact ⟨_, rfl, .inr ⟨fun h => by have := (h _ hm).2; omega, rfl⟩⟩
theorem make_some (b : Int) (l : List Int) (hb : IsBits b) (hl : l.length ≤ 8388608) (k : Nat) (hk : 40 * l.length + 5 ≤ k) : ∃ r, tape_Make.f k b l = some r ∧ Made b l r := by
  unfold tape_Make.f
  rw [isBits_some, decide_eq_true hb]
  simp only [Option.bind_some, if_true]
  refine make_out b l hb hl l.length 0 [] 0 (by omega) ⟨by simp, by omega, by simp, by simp [num]⟩ (by intro x hx; simp at hx) k hk
theorem make_no (b : Int) (l : List Int) (hb : ¬ IsBits b) (k : Nat) : tape_Make.f k b l = some (⟨#[]⟩, 230) := by
  unfold tape_Make.f
  rw [isBits_some, decide_eq_false hb]
  rfl

def Bit01 (l : List Int) : Prop := ∀ x ∈ l, 0 ≤ x ∧ x < 2
theorem Bit01.snoc {l : List Int} (h : Bit01 l) {x : Int} (x0 : 0 ≤ x) (x1 : x < 2) : Bit01 (l ++ [x]) := by
  intro y hy
  rcases List.mem_append.mp hy with hy | hy
  · exact h y hy
  · obtain rfl : y = x := by simpa using hy
    exact ⟨x0, x1⟩
set_option maxHeartbeats 4000000 in
theorem ref_byte (all out : List Int) (hB : Bit01 all) (p : Nat) (hp : p + 8 ≤ all.length) (hl : all.length ≤ 1099511627776) (ho : out.length ≤ 1099511627776) (hn : num 256 out = num 2 (all.take p)) (K : Nat) (Good : ByteArray × Int → Prop)
    (next : ∀ v, 0 ≤ v → v < 256 → num 256 (out ++ [v]) = num 2 (all.take (p + 8)) → ∀ k, K ≤ k → ∃ r, heraldref23_Make.l3 k all (out ++ [v]) ((p + 8 : Nat) : Int) = some r ∧ Good r) :
    ∀ (d j : Nat) (v : Int), j + d = 8 → 0 ≤ v → v < 2 ^ j → num 2 (all.take (p + j)) = num 256 out * 2 ^ j + v → ∀ k, K + d + 1 ≤ k → ∃ r, heraldref23_Make.l4 k all out (p : Int) v (j : Int) = some r ∧ Good r := by
  intro d
  induction d with
  | zero =>
    intro j v hj v0 v1 he k hk
    obtain ⟨k, rfl⟩ : ∃ m, k = m + 1 := ⟨k - 1, by omega⟩
    obtain rfl : j = 8 := by omega
    have v1' : v < 256 := by rw [show (2 : Int) ^ 8 = 256 from by decide] at v1; exact v1
    simp only [heraldref23_Make.l4]
    rw [if_neg (by omega), if_pos (by omega), show v % 256 = v from by omega, wrap_in (by omega) (by omega), show (p : Int) + 8 = ((p + 8 : Nat) : Int) from by omega]
    refine next v v0 v1' ?_ k (by omega)
    rw [num_snoc, he, show (2 : Int) ^ 8 = 256 from by decide]
  | succ d ih =>
    intro j v hj v0 v1 he k hk
    obtain ⟨k, rfl⟩ : ∃ m, k = m + 1 := ⟨k - 1, by omega⟩
    have hp8 := pow_le8 j (by omega)
    have hs : (2 : Int) ^ (j + 1) = 2 ^ j * 2 := Int.pow_succ _ _
    obtain ⟨z, hz⟩ : ∃ z : Int, 2 ^ j = z := ⟨_, rfl⟩
    rw [hz] at v1 he hp8 hs
    have q1 : (0 : Int) ≤ ((p + j : Nat) : Int) := Int.natCast_nonneg _
    have q2 : ((p + j : Nat) : Int) < (all.length : Int) := Int.ofNat_lt.mpr (by omega)
    obtain ⟨x0, x1⟩ := hB _ (rd_mem all _ q1 q2)
    have hw : wrap64 ((p : Int) + (j : Int)) = ((p + j : Nat) : Int) := by rw [wrap_in] <;> omega
    obtain ⟨x, hx⟩ : ∃ x, rd all ((p + j : Nat) : Int) = x := ⟨_, rfl⟩
    simp only [heraldref23_Make.l4]
    rw [hx] at x0 x1
    rw [if_pos (by omega), hw, if_pos q1, if_pos q2, hx, wrap_in (a := 2 * v) (by omega) (by omega), wrap_in (a := 2 * v + x) (by omega) (by omega), wrap_in (a := (j : Int) + 1) (by omega) (by omega), show (j : Int) + 1 = ((j + 1 : Nat) : Int) from by omega]
    have e1 : num 2 (all.take (p + (j + 1))) = num 256 out * 2 ^ (j + 1) + (2 * v + x) := by
      rw [← Nat.add_assoc, take_snoc all (p + j) (Int.ofNat_lt.mp q2), num_snoc, he, hs, hx, ← Int.mul_assoc]
      generalize num 256 out * z = y
      clear he hn next ih hs v1 hp8
      omega
    have e2 : 2 * v + x < 2 ^ (j + 1) := by rw [hs]; omega
    have e3 : 0 ≤ 2 * v + x := by omega
    have e4 : j + 1 + d = 8 := by omega
    have e5 : K + d + 1 ≤ k := by omega
    exact ih (j + 1) _ e4 e3 e2 e1 k e5
theorem ref_bytes (all : List Int) (hB : Bit01 all) (hl : all.length ≤ 1099511627776) (Good : ByteArray × Int → Prop)
    (fin : ∀ out, (∀ x ∈ out, 0 ≤ x ∧ x < 256) → 8 * out.length = all.length → num 256 out = num 2 all → Good (strOfNums out, 0)) :
    ∀ (e : Nat) (out : List Int), 8 * out.length + 8 * e = all.length → (∀ x ∈ out, 0 ≤ x ∧ x < 256) → num 256 out = num 2 (all.take (8 * out.length)) → ∀ k, 10 * e + 1 ≤ k → ∃ r, heraldref23_Make.l3 k all out ((8 * out.length : Nat) : Int) = some r ∧ Good r := by
  intro e
  induction e with
  | zero =>
    intro out he hb hn k hk
    obtain ⟨k, rfl⟩ : ∃ m, k = m + 1 := ⟨k - 1, by omega⟩
    simp only [heraldref23_Make.l3]
    rw [if_neg (by omega)]
    rw [show 8 * out.length = all.length by omega, List.take_length] at hn
    exact ⟨_, rfl, fin out hb (by omega) hn⟩
  | succ e ih =>
    intro out he hb hn k hk
    obtain ⟨k, rfl⟩ : ∃ m, k = m + 1 := ⟨k - 1, by omega⟩
    simp only [heraldref23_Make.l3]
    rw [if_pos (by omega)]
    refine ref_byte all out hB (8 * out.length) (by omega) hl (by omega) hn (10 * e + 1) Good ?_ 8 0 0 (by omega) (by omega) (by decide) (by rw [Int.pow_zero, Nat.add_zero, hn]; omega) k (by omega)
    intro v v0 v1 hnv k' hk'
    have hlen : (out ++ [v]).length = out.length + 1 := by simp
    have := ih (out ++ [v]) (by omega) (by
      intro y hy
      rcases List.mem_append.mp hy with hy | hy
      · exact hb y hy
      · obtain rfl : y = v := by simpa using hy
        exact ⟨v0, v1⟩) (by rw [hlen, show 8 * (out.length + 1) = 8 * out.length + 8 by omega]; exact hnv) k' hk'
    rw [hlen, show 8 * (out.length + 1) = 8 * out.length + 8 by omega] at this
    exact this
theorem ref_pad (b : Int) (l : List Int) (c : Nat) (hc : (c : Int) = b * l.length) (hF : Fits b l) (hcl : c ≤ 268435456) : ∀ (e p : Nat) (all : List Int), all.length = c + p → p + e ≤ 7 → (c + p + e) % 8 = 0 → Bit01 all → num 2 all = num (2 ^ b.toNat) l * 2 ^ p → ∀ k, 10 * (c + 8) + e + 2 ≤ k →
    ∃ r, heraldref23_Make.l2 k all = some r ∧ Made b l r := by
  intro e
  induction e with
  | zero =>
    intro p all ha hp hm hB hn k hk
    obtain ⟨k, rfl⟩ : ∃ m, k = m + 1 := ⟨k - 1, by omega⟩
    simp only [heraldref23_Make.l2]
    rw [if_neg (by omega)]
    have := ref_bytes all hB (by omega) (Made b l) (fun out hb hlen hn' => .inl ⟨hF, out, p, rfl, by omega, by omega, hb, by rw [hn', hn]⟩) (all.length / 8) [] (by simp; omega) (by simp) (by simp [num]) k (by omega)
    exact this
  | succ e ih =>
    intro p all ha hp hm hB hn k hk
    obtain ⟨k, rfl⟩ : ∃ m, k = m + 1 := ⟨k - 1, by omega⟩
    simp only [heraldref23_Make.l2]
    rw [if_pos (by omega), if_pos (by omega)]
    refine ih (p + 1) (all ++ [0]) (by simp; omega) (by omega) (by omega) (hB.snoc (by omega) (by omega)) ?_ k (by omega)
    rw [num_snoc, hn, Int.pow_succ, Int.mul_assoc]; omega
theorem u64_wrap_in (a : Int) (h0 : 0 ≤ a) (h1 : a ≤ 9223372036854775807) : IntKind.u64.wrap a = a := by
  show a % 18446744073709551616 = a
  omega
theorem ref_draw (b : Int) (l : List Int) (i : Nat) (hi : i < l.length) (P : Int) (C : Nat) (hb : IsBits b) (hC : C ≤ 268435456) (hl : l.length ≤ 8388608) (u0 : 0 ≤ rd l i) (K : Nat) (Good : ByteArray × Int → Prop)
    (next : ∀ all, Bit01 all → (all.length : Int) = C + b → num 2 all = P * 2 ^ b.toNat + rd l i → ∀ k, K ≤ k → ∃ r, heraldref23_Make.l0 k b l all ((i + 1 : Nat) : Int) = some r ∧ Good r) :
    ∀ (d : Nat) (all : List Int), d ≤ b.toNat → Bit01 all → (all.length : Int) = C + (b - d) → num 2 all = P * 2 ^ (b.toNat - d) + rd l i / 2 ^ d → ∀ k, K + d + 1 ≤ k → ∃ r, heraldref23_Make.l1 k b l all (i : Int) ((d : Int) - 1) = some r ∧ Good r := by
  have hbb : 1 ≤ b ∧ b ≤ 32 := by unfold IsBits at hb; omega
  intro d
  induction d with
  | zero =>
    intro all hd hB ha hn k hk
    obtain ⟨k, rfl⟩ : ∃ m, k = m + 1 := ⟨k - 1, by omega⟩
    simp only [heraldref23_Make.l1]
    rw [if_neg (by omega), wrap_in (by omega) (by omega), show (i : Int) + 1 = ((i + 1 : Nat) : Int) from by omega]
    exact next all hB (by omega) (by simpa using hn) k (by omega)
  | succ d ih =>
    intro all hd hB ha hn k hk
    obtain ⟨k, rfl⟩ : ∃ m, k = m + 1 := ⟨k - 1, by omega⟩
    have hdd : ((d + 1 : Nat) : Int) - 1 = (d : Int) := by omega
    rw [hdd]
    simp only [heraldref23_Make.l1]
    rw [if_pos (by omega), if_pos (by omega), if_pos (by omega), u64_wrap_in (d : Int) (by omega) (by omega), if_pos (by omega), if_pos (by omega), shr_nat _ _ (by omega), Int.tmod_eq_emod_of_nonneg (Int.ediv_nonneg u0 (Int.le_of_lt (pow_pos' _))), wrap_in (a := (d : Int) - 1) (by omega) (by omega)]
    refine ih _ (by omega) (hB.snoc (by omega) (by omega)) (by simp; omega) ?_ k (by omega)
    rw [num_snoc, hn]
    have := draw_split P (rd l i) b.toNat (d + 1) 1 (by omega) (by omega)
    rw [show d + 1 - 1 = d by omega, show (2 : Int) ^ 1 = 2 from rfl] at this
    exact this
theorem ref_out (b : Int) (l : List Int) (hb : IsBits b) (hl : l.length ≤ 8388608) (hw : ∀ x ∈ l, x ≤ 9223372036854775807) :
    ∀ (e i : Nat) (all : List Int), i + e = l.length → Bit01 all → (all.length : Int) = b * i → num 2 all = num (2 ^ b.toNat) (l.take i) → Fits b (l.take i) → ∀ k, 40 * e + 3000000000 ≤ k →
    ∃ r, heraldref23_Make.l0 k b l all (i : Int) = some r ∧ Made b l r := by
  have hbb : 1 ≤ b ∧ b ≤ 32 := by unfold IsBits at hb; omega
  have hbn : b = (b.toNat : Int) := by omega
  intro e
  induction e with
  | zero =>
    intro i all he hB ha hn hF k hk
    obtain ⟨k, rfl⟩ : ∃ m, k = m + 1 := ⟨k - 1, by omega⟩
    obtain rfl : i = l.length := by omega
    simp only [heraldref23_Make.l0]
    rw [if_neg (by omega)]
    rw [List.take_length] at hn hF
    have hmb := mul_bits b l.length l.length hb (by omega) (by omega) (by omega)
    exact ref_pad b l all.length ha hF (by omega) ((8 - all.length % 8) % 8) 0 all (by omega) (by omega) (by omega) hB (by rw [hn, Int.pow_zero]; omega) k (by omega)
  | succ e ih =>
    intro i all he hB ha hn hF k hk
    obtain ⟨k, rfl⟩ : ∃ m, k = m + 1 := ⟨k - 1, by omega⟩
    obtain ⟨k, rfl⟩ : ∃ m, k = m + 1 := ⟨k - 1, by omega⟩
    have hi : i < l.length := by omega
    have hm := rd_mem l i (by omega) (by omega)
    have hmb := mul_bits b i l.length hb (by omega) (by omega) (by omega)
    simp only [heraldref23_Make.l0]
    rw [if_pos (by omega), if_pos (by omega)]
    by_cases u0 : rd l i < 0
    · rw [if_pos u0]
      simp only [heraldref23_Make.j1]
      rw [if_pos trivial]
      exact ⟨_, rfl, .inr ⟨fun h => by have := (h _ hm).1; omega, rfl⟩⟩
    · have hp := pow_b b hb
      have hp1 := pow_pos' b.toNat
      have hsh : shl .i64 1 b = 2 ^ b.toNat := by rw [hbn, shl_nat _ _ (by omega), ← hbn, Int.one_mul, wrap_in (by omega) (by omega)]
      rw [if_neg u0, u64_wrap_in b (by omega) (by omega), if_pos (by omega), hsh]
      simp only [heraldref23_Make.j1]
      by_cases u1 : rd l i < 2 ^ b.toNat
      · rw [if_neg (by simp; omega), wrap_in (a := b - 1) (by omega) (by omega)]
        have := ref_draw b l i hi (num (2 ^ b.toNat) (l.take i)) all.length hb (by omega) hl (by omega) (40 * e + 3000000000) (Made b l) (by
          intro all' hB' ha' hn' k' hk'
          refine ih (i + 1) all' (by omega) hB' (by rw [ha', ha, Int.natCast_add, Int.mul_add]; omega) ?_ (hF.snoc hi (by omega) u1) k' hk'
          rw [take_snoc l i hi, num_snoc, hn']) b.toNat all (Nat.le_refl _) hB (by omega) (by
          rw [Nat.sub_self, Int.pow_zero, Int.ediv_eq_zero_of_lt (by omega) u1, hn]; omega) k (by omega)
        rw [← hbn] at this
        exact this
      · rw [if_pos (by simp; omega)]
        exact ⟨_, rfl, .inr ⟨fun h => by have := (h _ hm).2; omega, rfl⟩⟩
theorem refMake_some (b : Int) (l : List Int) (hb : IsBits b) (hl : l.length ≤ 8388608) (hw : ∀ x ∈ l, x ≤ 9223372036854775807) (k : Nat) (hk : 3400000000 ≤ k) : ∃ r, heraldref23_Make.f k b l = some r ∧ Made b l r := by
  unfold heraldref23_Make.f
  rw [may_some, decide_eq_true hb]
  simp only [Option.bind_some, if_true]
  refine ref_out b l hb hl hw l.length 0 [] (by omega) (by intro x hx; simp at hx) (by simp) (by simp [num]) (by intro x hx; simp at hx) k (by omega)
theorem refMake_no (b : Int) (l : List Int) (hb : ¬ IsBits b) (k : Nat) : heraldref23_Make.f k b l = some (⟨#[]⟩, 230) := by
  unfold heraldref23_Make.f
  rw [may_some, decide_eq_false hb]
  rfl
theorem Inv.same {o o' : List Int} {r r' : Nat} {c M : Int} (h : Inv o r c M) (h' : Inv o' r' c M) : o = o' := by
  have h1 := h.len
  have h2 := h'.len
  have h3 := h.low
  have h4 := h'.low
  obtain rfl : r = r' := by omega
  exact num_inj 256 (by omega) o.length o o' rfl (by omega) h.bytes h'.bytes (by rw [h.numb, h'.numb])
theorem Made.same {b : Int} {l : List Int} {r r' : ByteArray × Int} (h : Made b l r) (h' : Made b l r') : r = r' := by
  rcases h with ⟨hF, o, m, rfl, hI⟩ | ⟨hF, rfl⟩ <;> rcases h' with ⟨hF', o', m', rfl, hI'⟩ | ⟨hF', rfl⟩
  · rw [hI.same hI']
  · exact absurd hF hF'
  · exact absurd hF' hF
  · rfl
end Go.Proofs.Ytljlpkadjngpoaa.Math
