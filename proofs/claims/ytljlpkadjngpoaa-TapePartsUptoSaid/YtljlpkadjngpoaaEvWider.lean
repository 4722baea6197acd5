/- Plain: the wider draws: the same on both sides. -/
import Derived.Test.YtljlpkadjngpoaaEvWide
namespace Go.Proofs.Ytljlpkadjngpoaa.Math
open Go.RowKit Go.Proofs.Ytljlpkadjngpoaa.PAll Go.Proofs.YtljlpkadjngpoaaW.PrintWords Go.Proofs.YtljlpkadjngpoaaW.PrintLast Go.Proofs.YtljlpkadjngpoaaW.PrintMore
set_option linter.unusedVariables false
set_option linter.unusedSimpArgs false

/-- The number of t draws from place o on. -/
def wideV (b : Int) (l : List Int) (o : Nat) : Nat → Int
  | 0 => 0
  | t + 1 => wideV b l o t * 2 ^ b.toNat + rd l ((o + t : Nat) : Int)
def outsV (b : Int) (l : List Int) (e J : Nat) : List Int := (List.range J).map fun q => wideV b l (q * e) e
theorem outsV_succ (b : Int) (l : List Int) (e J : Nat) : outsV b l e (J + 1) = outsV b l e J ++ [wideV b l (J * e) e] := by
  unfold outsV; rw [List.range_succ, List.map_append]; rfl
theorem outsV_len (b : Int) (l : List Int) (e J : Nat) : (outsV b l e J).length = J := by simp [outsV]
theorem wide_step (w d P Q : Int) (hP : 0 < P) (w0 : 0 ≤ w) (w1 : w < Q) (d0 : 0 ≤ d) (d1 : d < P) : 0 ≤ w * P + d ∧ w * P + d < Q * P := by
  have h1 := Int.mul_nonneg w0 (Int.le_of_lt hP)
  have h2 := Int.mul_le_mul_of_nonneg_right (show w + 1 ≤ Q by omega) (Int.le_of_lt hP)
  rw [Int.add_mul, Int.one_mul] at h2
  omega
theorem wideV_range (b : Int) (l : List Int) (hF : ∀ x ∈ l, 0 ≤ x ∧ x < 2 ^ b.toNat) (o : Nat) : ∀ t : Nat, o + t ≤ l.length → 0 ≤ wideV b l o t ∧ wideV b l o t < 2 ^ (b.toNat * t)
  | 0, _ => by simp [wideV]
  | t + 1, h => by
    obtain ⟨h0, h1⟩ := wideV_range b l hF o t (by omega)
    have hm := hF _ (rd_mem l ((o + t : Nat) : Int) (by omega) (by omega))
    rw [wideV, Nat.mul_add, Nat.mul_one, Int.pow_add]
    exact wide_step _ _ _ _ (pow_pos' _) h0 h1 hm.1 hm.2
theorem or_part (w d : Int) (m : Nat) (w0 : 0 ≤ w) (w1 : w * 2 ^ m ≤ 9223372036854775807) (d0 : 0 ≤ d) (d1 : d < 2 ^ m) (hm : m ≤ 62) : Go.bits .or .i64 (w * 2 ^ m) d = w * 2 ^ m + d := by
  obtain ⟨a, rfl⟩ := Int.eq_ofNat_of_zero_le w0
  obtain ⟨c, rfl⟩ := Int.eq_ofNat_of_zero_le d0
  have hc : c < 2 ^ m := by
    have : ((c : Nat) : Int) < ((2 ^ m : Nat) : Int) := by push_cast; exact d1
    omega
  have hp : (2 : Nat) ^ m ≤ 2 ^ 62 := Nat.pow_le_pow_right (by omega) hm
  have e := Nat.shiftLeft_add_eq_or_of_lt (i := m) (b := c) hc a
  rw [Nat.shiftLeft_eq] at e
  have e1 : (a : Int) * 2 ^ m = ((a * 2 ^ m : Nat) : Int) := by push_cast; rfl
  rw [e1] at w1 ⊢
  rw [i64_or_nat _ _ (by omega) (by omega), ← e]
  omega
theorem each_some (b cc : Int) (hb : IsBits b) (ht : IsBits cc) (h : b ≤ cc) : ∃ e : Nat, 1 ≤ e ∧ e ≤ 32 ∧ wrap64 (Int.tdiv cc b) = (e : Int) ∧ b.toNat * e = cc.toNat := by
  refine ⟨(cc / b).toNat, ?_⟩
  unfold IsBits at hb ht
  rcases hb with rfl | rfl | rfl | rfl | rfl | rfl <;> rcases ht with rfl | rfl | rfl | rfl | rfl | rfl <;> first | (exfalso; omega) | (refine ⟨by decide, by decide, ?_, by decide⟩; rw [Int.tdiv_eq_ediv_of_nonneg (by decide), wrap_in (by decide) (by decide)]; decide)
theorem rd_cut (l : List Int) (o e t : Nat) (h : t < e) (h2 : o + e ≤ l.length) : rd ((l.drop o).take e) (t : Int) = rd l ((o + t : Nat) : Int) := by
  have h3 : o + t < l.length := by omega
  unfold rd
  rw [Int.toNat_natCast, Int.toNat_natCast]
  simp [List.getD_eq_getElem?_getD, List.getElem?_drop, h, h3]
theorem shl_one (m : Nat) (hm : m ≤ 32) : shl .i64 1 (m : Int) = 2 ^ m := by
  have h1 := shl_nat 1 m (by omega)
  have h0 := pow_pos' m
  have h2 : (2 : Int) ^ m ≤ 2 ^ 32 := by
    have h9 := Nat.pow_le_pow_right (n := 2) (by omega) hm
    exact_mod_cast h9
  rw [show (2 : Int) ^ 32 = 4294967296 from rfl] at h2
  rw [Int.one_mul] at h1
  rw [h1, wrap_in (by omega) (by omega)]
section
variable (b cc : Int) (l : List Int) (e : Nat) (hb : IsBits b) (ht : IsBits cc) (he : 1 ≤ e) (he2 : e ≤ 32) (hbe : b.toNat * e = cc.toNat) (hF : ∀ x ∈ l, 0 ≤ x ∧ x < 2 ^ b.toNat) (hl : l.length ≤ 8388608)
include hb ht he he2 hbe hF hl
theorem wide_fits (o t : Nat) (h : o + t ≤ l.length) (h2 : t ≤ e) : 0 ≤ wideV b l o t ∧ wideV b l o t < 4294967296 := by
  have u_ := And.intro hb (And.intro he (And.intro he2 hl))
  obtain ⟨h0, h1⟩ := wideV_range b l hF o t h
  have hp : (2 : Int) ^ (b.toNat * t) ≤ 2 ^ 32 := by
    have : b.toNat * t ≤ 32 := Nat.le_trans (Nat.mul_le_mul_left _ h2) (by rw [hbe]; unfold IsBits at ht; omega)
    have h9 := Nat.pow_le_pow_right (n := 2) (by omega) this
    exact_mod_cast h9
  rw [show (2 : Int) ^ 32 = 4294967296 from rfl] at hp
  omega
theorem wide_next (o t : Nat) (h : o + t < l.length) (h2 : t < e) : wideV b l o t * 2 ^ b.toNat ≤ 4294967296 ∧ 0 ≤ wideV b l o t * 2 ^ b.toNat ∧ 0 ≤ rd l ((o + t : Nat) : Int) ∧ rd l ((o + t : Nat) : Int) < 2 ^ b.toNat := by
  obtain ⟨h0, h1⟩ := wide_fits b cc l e hb ht he he2 hbe hF hl o (t + 1) (by omega) (by omega)
  obtain ⟨h3, h4⟩ := wide_fits b cc l e hb ht he he2 hbe hF hl o t (by omega) (by omega)
  rw [wideV] at h1
  have hm := hF _ (rd_mem l ((o + t : Nat) : Int) (by omega) (by omega))
  exact ⟨by omega, Int.mul_nonneg h3 (Int.le_of_lt (pow_pos' _)), hm.1, hm.2⟩
theorem tape_in (j : Nat) (hj : j * e + e ≤ l.length) (out : List Int) (ho : out.length ≤ 8388608) : ∀ (d t k : Nat), t + d = e → d + 1 ≤ k →
    ∃ k', k ≤ k' + d + 1 ∧ tape_Wider.l1 k b cc (l.drop (j * e)) out (e : Int) (wideV b l (j * e) t) ((l.drop (j * e)).take e) (((l.drop (j * e)).take e).length : Int) (t : Int) = tape_Wider.l0 k' b cc ((l.drop (j * e)).drop e) (out ++ [wideV b l (j * e) e]) (e : Int) := by
  have hbb : 1 ≤ b ∧ b ≤ 32 := by unfold IsBits at hb; omega
  have hlen : ((l.drop (j * e)).take e).length = e := by simp; omega
  intro d
  induction d with
  | zero =>
    intro t k htd hk
    obtain ⟨k, rfl⟩ : ∃ m, k = m + 1 := ⟨k - 1, by omega⟩
    obtain rfl : t = e := by omega
    refine ⟨k, by omega, ?_⟩
    simp only [tape_Wider.l1]
    rw [if_neg (by omega), if_pos (by omega), if_pos (by omega), if_pos (by simp; omega), Int.toNat_natCast]
  | succ d ih =>
    intro t k htd hk
    obtain ⟨k, rfl⟩ : ∃ m, k = m + 1 := ⟨k - 1, by omega⟩
    obtain ⟨k', h1, h2⟩ := ih (t + 1) k (by omega) (by omega)
    refine ⟨k', by omega, ?_⟩
    rw [← h2]
    simp only [tape_Wider.l1]
    obtain ⟨n0, n1, n2, n3⟩ := wide_next b cc l e hb ht he he2 hbe hF hl (j * e) t (by omega) (by omega)
    have hw := wide_fits b cc l e hb ht he he2 hbe hF hl (j * e) t (by omega) (by omega)
    have hsh : shl .i64 (wideV b l (j * e) t) b = wideV b l (j * e) t * 2 ^ b.toNat := by
      have := shl_nat (wideV b l (j * e) t) b.toNat (by omega)
      rw [show ((b.toNat : Nat) : Int) = b by omega] at this
      rw [this, wrap_in (by omega) (by omega)]
    rw [if_pos (by omega), if_pos (by omega), if_pos (by omega), if_pos (by omega), hsh, rd_cut l (j * e) e t (by omega) hj, or_part _ _ _ hw.1 (by omega) n2 n3 (by omega), wrap_in (a := (t : Int) + 1) (by omega) (by omega)]
    rfl
theorem ref_in (j : Nat) (hj : j * e + e ≤ l.length) (out : List Int) (ho : out.length ≤ 8388608) : ∀ (d t k : Nat), t + d = e → d + 1 ≤ k →
    ∃ k', k ≤ k' + d + 1 ∧ heraldref23_Wider.l1 k b cc l out (e : Int) ((j * e : Nat) : Int) (wideV b l (j * e) t) (t : Int) = heraldref23_Wider.l0 k' b cc l (out ++ [wideV b l (j * e) e]) (e : Int) (((j + 1) * e : Nat) : Int) := by
  have hbb : 1 ≤ b ∧ b ≤ 32 := by unfold IsBits at hb; omega
  intro d
  induction d with
  | zero =>
    intro t k htd hk
    obtain ⟨k, rfl⟩ : ∃ m, k = m + 1 := ⟨k - 1, by omega⟩
    obtain rfl : t = e := by omega
    refine ⟨k, by omega, ?_⟩
    simp only [heraldref23_Wider.l1]
    rw [if_neg (by omega), if_pos (by omega), wrap_in (by omega) (by omega), Nat.succ_mul, Int.natCast_add]
  | succ d ih =>
    intro t k htd hk
    obtain ⟨k, rfl⟩ : ∃ m, k = m + 1 := ⟨k - 1, by omega⟩
    obtain ⟨k', h1, h2⟩ := ih (t + 1) k (by omega) (by omega)
    refine ⟨k', by omega, ?_⟩
    rw [← h2]
    simp only [heraldref23_Wider.l1]
    obtain ⟨n0, n1, n2, n3⟩ := wide_next b cc l e hb ht he he2 hbe hF hl (j * e) t (by omega) (by omega)
    have hw := wide_fits b cc l e hb ht he he2 hbe hF hl (j * e) (t + 1) (by omega) (by omega)
    have hpb := pow_b b hb
    rw [wideV] at hw
    have c0 : (t : Int) < (e : Int) := by omega
    have c1 : (0 : Int) ≤ ((j * e + t : Nat) : Int) := by omega
    have c2 : ((j * e + t : Nat) : Int) < (l.length : Int) := by omega
    have c3 : 0 ≤ b := by omega
    have hsh : shl .i64 1 b = 2 ^ b.toNat := by
      have h1 := shl_one b.toNat (by omega)
      rwa [show ((b.toNat : Nat) : Int) = b by omega] at h1
    have HS := Aside0.mk hsh
    clear hsh
    have w1 := Aside0.mk (show wrap64 (wideV b l (j * e) t * 2 ^ b.toNat) = wideV b l (j * e) t * 2 ^ b.toNat from wrap_in (by omega) (by omega))
    have w2 := Aside0.mk (show wrap64 (wideV b l (j * e) t * 2 ^ b.toNat + rd l ((j * e + t : Nat) : Int)) = wideV b l (j * e) t * 2 ^ b.toNat + rd l ((j * e + t : Nat) : Int) from wrap_in (by omega) (by omega))
    have w3 := Aside0.mk (show wrap64 ((t : Int) + 1) = ((t + 1 : Nat) : Int) from (wrap_in (by omega) (by omega)).trans (by omega))
    have w4 := Aside0.mk (show wrap64 (((j * e : Nat) : Int) + (t : Int)) = ((j * e + t : Nat) : Int) from (wrap_in (by omega) (by omega)).trans (by omega))
    have hu := Aside0.mk (show IntKind.u64.wrap b = b from u64_wrap_in b (by omega) (by omega))
    rw [if_pos c0, hu.out, if_pos c3, w4.out, if_pos c1, if_pos c2, HS.out, w1.out, w2.out, w3.out]
    rfl
theorem outs_le (J : Nat) (hJ : J * e ≤ l.length) : ∀ x ∈ outsV b l e J, x ≤ 9223372036854775807 := by
  intro x hx
  simp only [outsV, List.mem_map, List.mem_range] at hx
  obtain ⟨q, hq, rfl⟩ := hx
  have h2 : (q + 1) * e ≤ J * e := Nat.mul_le_mul_right _ (by omega)
  rw [Nat.succ_mul] at h2
  have := wide_fits b cc l e hb ht he he2 hbe hF hl (q * e) e (by omega) (Nat.le_refl _)
  omega
theorem le_of_mul (j : Nat) (h : j * e ≤ l.length) : j ≤ 8388608 := by
  have u_ := And.intro hb (And.intro ht (And.intro he2 (And.intro hbe hF)))
  have := Nat.mul_le_mul_left j he
  omega
theorem tape_wide (J : Nat) (hJ : J * e ≤ l.length) (hJ2 : l.length < (J + 1) * e) : ∀ (d j k : Nat), j + d = J → 40 * d + 3400000010 ≤ k →
    ∃ r, tape_Wider.l0 k b cc (l.drop (j * e)) (outsV b l e j) (e : Int) = some r ∧ Made cc (outsV b l e J) r := by
  intro d
  induction d with
  | zero =>
    intro j k hj hk
    obtain ⟨k, rfl⟩ : ∃ m, k = m + 1 := ⟨k - 1, by omega⟩
    obtain rfl : j = J := by omega
    rw [Nat.succ_mul] at hJ2
    simp only [tape_Wider.l0]
    have hl2 := le_of_mul b cc l e hb ht he he2 hbe hF hl j hJ
    rw [if_neg (by simp; omega)]
    obtain ⟨r, h1, h2⟩ := make_some cc (outsV b l e j) ht (by rw [outsV_len]; omega) k (by rw [outsV_len]; omega)
    exact ⟨r, by rw [h1]; rfl, h2⟩
  | succ d ih =>
    intro j k hj hk
    obtain ⟨k, rfl⟩ : ∃ m, k = m + 1 := ⟨k - 1, by omega⟩
    have h3 : (j + 1) * e ≤ J * e := Nat.mul_le_mul_right _ (by omega)
    rw [Nat.succ_mul] at h3
    have hl2 := le_of_mul b cc l e hb ht he he2 hbe hF hl j (by omega)
    simp only [tape_Wider.l0]
    rw [if_pos (by simp; omega), if_pos (by omega), if_pos (by simp; omega)]
    simp only [Option.bind_some, Int.toNat_natCast]
    obtain ⟨k', h1, h2⟩ := tape_in b cc l e hb ht he he2 hbe hF hl j (by omega) (outsV b l e j) (by rw [outsV_len]; omega) e 0 k (by omega) (by omega)
    rw [show ((0 : Nat) : Int) = 0 from rfl, wideV] at h2
    rw [h2, List.drop_drop, ← outsV_succ, ← Nat.succ_mul]
    exact ih (j + 1) k' (by omega) (by omega)
theorem ref_wide (J : Nat) (hJ : J * e ≤ l.length) (hJ2 : l.length < (J + 1) * e) : ∀ (d j k : Nat), j + d = J → 40 * d + 3400000010 ≤ k →
    ∃ r, heraldref23_Wider.l0 k b cc l (outsV b l e j) (e : Int) ((j * e : Nat) : Int) = some r ∧ Made cc (outsV b l e J) r := by
  intro d
  induction d with
  | zero =>
    intro j k hj hk
    obtain ⟨k, rfl⟩ : ∃ m, k = m + 1 := ⟨k - 1, by omega⟩
    obtain rfl : j = J := by omega
    rw [Nat.succ_mul] at hJ2
    simp only [heraldref23_Wider.l0]
    have hl2 := le_of_mul b cc l e hb ht he he2 hbe hF hl j hJ
    rw [wrap_in (by omega) (by omega), if_neg (by omega)]
    obtain ⟨r, h1, h2⟩ := refMake_some cc (outsV b l e j) ht (by rw [outsV_len]; omega) (outs_le b cc l e hb ht he he2 hbe hF hl j hJ) k (by omega)
    exact ⟨r, by rw [h1]; rfl, h2⟩
  | succ d ih =>
    intro j k hj hk
    obtain ⟨k, rfl⟩ : ∃ m, k = m + 1 := ⟨k - 1, by omega⟩
    have h3 : (j + 1) * e ≤ J * e := Nat.mul_le_mul_right _ (by omega)
    rw [Nat.succ_mul] at h3
    have hl2 := le_of_mul b cc l e hb ht he he2 hbe hF hl j (by omega)
    simp only [heraldref23_Wider.l0]
    rw [wrap_in (by omega) (by omega), if_pos (by omega)]
    obtain ⟨k', h1, h2⟩ := ref_in b cc l e hb ht he he2 hbe hF hl j (by omega) (outsV b l e j) (by rw [outsV_len]; omega) e 0 k (by omega) (by omega)
    rw [show ((0 : Nat) : Int) = 0 from rfl, wideV] at h2
    rw [h2, ← outsV_succ]
    exact ih (j + 1) k' (by omega) (by omega)
end
theorem wider_both (b cc : Int) (s : ByteArray) (hs : s.size ≤ 1048576) (k : Nat) (hk : 3800000000 ≤ k) : ∃ r, tape_Wider.f k b cc s = some r ∧ heraldref23_Wider.f k b cc s = some r := by
  obtain ⟨k, rfl⟩ : ∃ m, k = m + 1 := ⟨k - 1, by omega⟩
  unfold tape_Wider.f heraldref23_Wider.f
  rw [isBits_some, may_some]
  simp only [Option.bind_some]
  by_cases hb : IsBits b
  · rw [decide_eq_true hb]
    simp only [if_true]
    rw [isBits_some, may_some]
    simp only [Option.bind_some, tape_Wider.j0, heraldref23_Wider.j0]
    by_cases ht : IsBits cc
    · rw [decide_eq_true ht]
      simp only [Bool.not_true, Bool.false_eq_true, if_false]
      by_cases hlt : cc < b
      · rw [if_pos hlt, if_pos hlt]
        exact ⟨_, rfl, rfl⟩
      · rw [if_neg hlt, if_neg hlt]
        obtain ⟨n, hn1, hn, hn2⟩ := all_count b s hb hs
        rw [tapeAll_yes b s n hb hn hs k, refAll_yes b s n hb hn hs hn1 k (by omega)]
        simp only [Option.bind_some]
        obtain ⟨e, he, he2, heq, hbe⟩ := each_some b cc hb ht (by omega)
        rw [if_neg (by unfold IsBits at hb; omega), if_neg (by unfold IsBits at hb; omega), heq]
        have hF : ∀ x ∈ drawsV b s 0 n, 0 ≤ x ∧ x < 2 ^ b.toNat := by
          intro x hx
          simp only [drawsV, List.mem_map] at hx
          obtain ⟨i, _, rfl⟩ := hx
          exact drawV_in b s _ hb
        have hln := drawsV_len b s 0 n
        have hJ : n / e * e ≤ (drawsV b s 0 n).length := by rw [hln]; exact Nat.div_mul_le_self n e
        have hJ2 : (drawsV b s 0 n).length < (n / e + 1) * e := by rw [hln, Nat.succ_mul]; have h1 := Nat.div_add_mod n e; rw [Nat.mul_comm] at h1; have h2 := Nat.mod_lt n (show e > 0 by omega); omega
        have hJ3 : n / e ≤ 8388608 := Nat.le_trans (Nat.div_le_self _ _) hn1
        obtain ⟨r, h1, m1⟩ := tape_wide b cc (drawsV b s 0 n) e hb ht he he2 hbe hF (by omega) (n / e) hJ hJ2 (n / e) 0 k (by omega) (by omega)
        obtain ⟨r', h2, m2⟩ := ref_wide b cc (drawsV b s 0 n) e hb ht he he2 hbe hF (by omega) (n / e) hJ hJ2 (n / e) 0 k (by omega) (by omega)
        obtain rfl := m1.same m2
        rw [Nat.zero_mul] at h1 h2
        exact ⟨r, h1, h2⟩
    · rw [decide_eq_false ht]
      exact ⟨_, rfl, rfl⟩
  · rw [decide_eq_false hb]
    simp only [Bool.false_eq_true, if_false, tape_Wider.j0, heraldref23_Wider.j0, if_true]
    exact ⟨_, rfl, rfl⟩
end Go.Proofs.Ytljlpkadjngpoaa.Math
