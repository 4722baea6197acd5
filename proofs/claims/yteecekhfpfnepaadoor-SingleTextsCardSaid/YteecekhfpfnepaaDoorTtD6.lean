/- Texts of this session and printed texts, merged, what is not needed left out: TxR, TxL, TxN, SgRef, TxD, TxU, TxV, SgRaw, TxT, TxE, TxX, TxZ, TxY, SgAwake, PureSingleTexts. -/
import Derived.Test.YteecekhfpfnepaaDoorTtD0
import Derived.Test.YteecekhfpfnepaaDoorTtD1
import Derived.Test.YteecekhfpfnepaaDoorTtD2
import Derived.Test.YteecekhfpfnepaaDoorTtD3
import Derived.Test.YteecekhfpfnepaaDoorTtD4
import Derived.Test.YteecekhfpfnepaaDoorTtD5
import Derived.DataShut
section
namespace Go.Proofs.YteecekhfpfnepaaDoor.Tx
open Go.RowKit Go.Proofs.YteecekhfpfnepaaDoor.PAll Go.Proofs.YteecekhfpfnepaaDoor.Nums Go.Proofs.YteecekhfpfnepaaDoorW.PrintWords Go.Proofs.YteecekhfpfnepaaDoorW.PrintLast Go.Proofs.YteecekhfpfnepaaDoorW.PrintMore
set_option linter.unusedVariables false
set_option linter.unusedSimpArgs false
theorem rtimes_step (p m c : Nat) (hp : p < 10) (hm : m < 10) (hc : c ≤ m) : wrap64 ((c : Int) + wrap64 ((p : Int) * (m : Int))) = ((p * m + c : Nat) : Int) ∧ (p * m + c) / 10 ≤ m ∧ p * m + c < 100 := by
  have h1 : p * m ≤ 9 * m := Nat.mul_le_mul_right _ (by omega)
  have e : (p : Int) * (m : Int) = ((p * m : Nat) : Int) := by push_cast; rfl
  rw [e]
  generalize p * m = q at *
  rw [wrap_in (a := (q : Int)) (by omega) (by omega), wrap_in (by omega) (by omega)]
  omega
theorem r_mod (Y : Nat) (h : Y < 1000) : Int.tmod (Y : Int) 10 = ((Y % 10 : Nat) : Int) ∧ wrap64 (Int.tdiv (Y : Int) 10) = ((Y / 10 : Nat) : Int) := by
  rw [show (10 : Int) = ((10 : Nat) : Int) from rfl, ← Int.ofNat_tmod, ← Int.ofNat_tdiv]
  exact ⟨rfl, wrap_in (by omega) (by omega)⟩
theorem rcarry_ev (c : Nat) (out : List Int) (hc : c < 10) (ho : out.length ≤ 1000000000) : Ev (fun k => heraldref03_times.l1 k out (c : Int)) (out ++ dgs 10 c) := by
  have stop : ∀ o : List Int, Ev (fun k => heraldref03_times.l1 k o ((0 : Nat) : Int)) o := by
    intro o
    refine Ev.step (fun k => ?_) (Ev.now _)
    rw [heraldref03_times.l1, if_neg (by omega)]
  by_cases h : c = 0
  · subst h
    rw [dgs_zero, List.append_nil]
    exact stop out
  · obtain ⟨m1, m2⟩ := r_mod c (by omega)
    rw [dgs_pos (by omega) h, show c / 10 = 0 by omega, dgs_zero]
    rw [show c / 10 = 0 by omega] at m2
    refine Ev.step (fun k => ?_) (stop (out ++ [((c % 10 : Nat) : Int)]))
    rw [heraldref03_times.l1, if_pos (by omega), if_pos (by omega), m1, m2]
theorem rtimes_loop (n m X : Nat) (hm : m < 10) (hm0 : 1 ≤ m) (hX : X = n * m) (hl : (dgs 10 n).length ≤ 100000000) : ∀ (d i c : Nat), d = (dgs 10 n).length - i → i ≤ (dgs 10 n).length → c ≤ m → X / 10 ^ i = (n / 10 ^ i) * m + c →
    Ev (fun k => heraldref03_times.l0 k (dgs 10 n) (m : Int) (dn 10 i X) (c : Int) (i : Int)) (dgs 10 X) := by
  intro d
  induction d with
  | zero =>
    intro i c hd hi hc h
    obtain rfl : i = (dgs 10 n).length := by omega
    have hw : n / 10 ^ (dgs 10 n).length = 0 := Nat.div_eq_of_lt (lt_pow_len (by omega))
    rw [hw, Nat.zero_mul, Nat.zero_add] at h
    have hle : (dgs 10 n).length ≤ (dgs 10 X).length := dgs_len_mono (by omega) (by rw [hX]; exact Nat.le_mul_of_pos_right _ (by omega))
    rw [dgs_split (by omega) (dgs 10 n).length X hle, h]
    refine Ev.step (fun k => ?_) (rcarry_ev c (dn 10 (dgs 10 n).length X) (by omega) (by rw [dn_length]; omega))
    rw [heraldref03_times.l0, if_neg (by omega)]
  | succ d ih =>
    intro i c hd hi hc h
    have hp := Nat.mod_lt (n / 10 ^ i) (show 0 < 10 by omega)
    obtain ⟨h1, h2⟩ := mac (b := 10) (by omega) h
    obtain ⟨hst, c2, c3⟩ := rtimes_step _ _ _ hp hm hc
    rw [Nat.div_div_eq_div_mul, Nat.div_div_eq_div_mul, ← Nat.pow_succ] at h2
    obtain ⟨Y, hY⟩ : ∃ Y, n / 10 ^ i % 10 * m + c = Y := ⟨_, rfl⟩
    rw [hY] at h1 h2 c2 c3 hst
    obtain ⟨m1, m2⟩ := r_mod Y (by omega)
    refine Ev.step (fun k => ?_) (ih (i + 1) (Y / 10) (by omega) (by omega) c2 h2)
    rw [heraldref03_times.l0, if_pos (by omega), if_pos (by omega), dn_length, if_pos (by omega), rd_dgs (by omega), hst, m1, m2, next_k i (by omega), dn_snoc, h1]
theorem rtimes_ev (n m : Nat) (hm : m < 10) (hm0 : 1 ≤ m) (hl : (dgs 10 n).length ≤ 100000000) : Ev (fun k => heraldref03_times.f k (dgs 10 n) (m : Int)) (dgs 10 (n * m)) :=
  rtimes_loop n m (n * m) hm hm0 rfl hl (dgs 10 n).length 0 0 (by omega) (by omega) (by omega) (by rw [Nat.pow_zero, Nat.div_one, Nat.div_one, Nat.add_zero])
theorem lower_loop (a b : List Int) (A B : Nat) (ha : Rw 10 a A) (hb : Rw 10 b B) : ∀ (i : Nat), i ≤ 1000000000 → A / 10 ^ i = B / 10 ^ i →
    Ev (fun k => heraldref03_lower.l0 k a b ((i : Int) - 1)) (decide (A < B)) := by
  intro i
  induction i with
  | zero =>
    intro hi h
    rw [Nat.pow_zero, Nat.div_one, Nat.div_one] at h
    subst h
    refine Ev.step (fun k => ?_) (Ev.now _)
    rw [heraldref03_lower.l0, if_neg (by omega), decide_eq_false (by omega)]
  | succ i ih =>
    intro hi h
    rw [Nat.pow_succ, ← Nat.div_div_eq_div_mul, ← Nat.div_div_eq_div_mul] at h
    have e0 : ((i + 1 : Nat) : Int) - 1 = (i : Int) := by omega
    have e1 : wrap64 ((i : Int) - 1) = (i : Int) - 1 := wrap_in (by omega) (by omega)
    have ra := ha.1 i
    have rb := hb.1 i
    rw [e0]
    have main : Ev (fun k => heraldref03_lower.j1 k a b (i : Int) (rd a (i : Int)) 0) (decide (A < B)) := by
      have gen : ∀ k, heraldref03_lower.j1 (k + 1) a b (i : Int) (rd a (i : Int)) 0 = if rd a (i : Int) = rd b (i : Int) then heraldref03_lower.l0 k a b (wrap64 ((i : Int) - 1)) else some (decide (rd a (i : Int) < rd b (i : Int))) := by
        intro k
        rw [heraldref03_lower.j1]
        by_cases c : (i : Int) < (b.length : Int)
        · rw [if_pos c, if_pos (by omega)]
        · rw [if_neg c, rd_out b i (by omega)]
      by_cases g : A / 10 ^ i % 10 = B / 10 ^ i % 10
      · refine Ev.step (fun k => ?_) (ih (by omega) (cmp_eq h g))
        rw [gen, if_pos (by rw [ra, rb, g]), e1]
      · refine Ev.step (fun k => ?_) (Ev.now _)
        rw [gen, if_neg (by rw [ra, rb]; omega), ra, rb]
        congr 1
        rcases Nat.lt_or_ge (A / 10 ^ i % 10) (B / 10 ^ i % 10) with c | c
        · have := lt_of_div (cmp_lt h c)
          rw [decide_eq_true this, decide_eq_true (by omega)]
        · have := lt_of_div (cmp_lt h.symm (show B / 10 ^ i % 10 < A / 10 ^ i % 10 by omega))
          rw [decide_eq_false (by omega), decide_eq_false (by omega)]
    refine Ev.step (fun k => ?_) main
    rw [heraldref03_lower.l0, if_pos (by omega)]
    by_cases c : (i : Int) < (a.length : Int)
    · rw [if_pos c, if_pos (by omega)]
    · rw [if_neg c, rd_out a i (by omega)]
theorem lower_ev (a b : List Int) (A B : Nat) (ha : Rw 10 a A) (hb : Rw 10 b B) (la : a.length ≤ 100000000) (lb : b.length ≤ 100000000) : Ev (fun k => heraldref03_lower.f k a b) (decide (A < B)) := by
  have z : ∀ X l, Rw 10 l X → l.length ≤ a.length + b.length + 1 → X / 10 ^ (a.length + b.length + 1) = 0 := by
    intro X l h hl
    exact Nat.div_eq_of_lt (Nat.lt_of_lt_of_le h.2 (Nat.pow_le_pow_right (by omega) hl))
  have := lower_loop a b A B ha hb (a.length + b.length + 1) (by omega) (by rw [z A a ha (by omega), z B b hb (by omega)])
  refine Ev.congr (fun k => ?_) this
  unfold heraldref03_lower.f
  rw [wrap_in (by omega) (by omega)]
  congr 1
  omega
theorem below_loop (a : List Int) (A B n : Nat) (ha : Rw 10 a A) (la : a.length ≤ 100000000) (hn : n ≤ 1000) (lb : (dgs 10 (B * 2 ^ n)).length ≤ 1000000) : ∀ (m i : Nat), m + i = n →
    Ev (fun k => heraldref03_quotientBelow.l0 k a (dgs 10 (B * 2 ^ i)) (n : Int) (i : Int)) (decide (A < B * 2 ^ n)) := by
  intro m
  induction m with
  | zero =>
    intro i hi
    obtain rfl : i = n := by omega
    have := (lower_ev a (dgs 10 (B * 2 ^ i)) A (B * 2 ^ i) ha (Rw.dgs (by omega) _) la (by omega)).bind (f := fun _ t => some t) (Ev.now _)
    refine Ev.step (fun k => ?_) this
    rw [heraldref03_quotientBelow.l0, if_neg (by omega)]
  | succ m ih =>
    intro i hi
    have hle : B * 2 ^ i ≤ B * 2 ^ n := Nat.mul_le_mul_left _ (Nat.pow_le_pow_right (by omega) (by omega))
    have := dgs_len_mono (b := 10) (by omega) hle
    have ht := rtimes_ev (B * 2 ^ i) 2 (by omega) (by omega) (by omega)
    have h2 := ih (i + 1) (by omega)
    rw [Nat.mul_assoc, ← Nat.pow_succ] at ht
    have := ht.bind (f := fun k t245 => heraldref03_quotientBelow.l0 k a t245 (n : Int) (wrap64 ((i : Int) + 1))) (by
      refine Ev.congr (fun k => ?_) h2
      rw [next_k i (by omega)])
    refine Ev.step (fun k => ?_) this
    rw [heraldref03_quotientBelow.l0, if_pos (by omega)]
    rfl
theorem below_ev (a : List Int) (A B n : Nat) (ha : Rw 10 a A) (la : a.length ≤ 100000000) (hn : n ≤ 1000) (lb : (dgs 10 (B * 2 ^ n)).length ≤ 1000000) : Ev (fun k => heraldref03_quotientBelow.f k a (dgs 10 B) (n : Int)) (decide (A < B * 2 ^ n)) := by
  have := below_loop a A B n ha la hn lb n 0 (by omega)
  rw [Nat.pow_zero, Nat.mul_one] at this
  exact this
/-- One digit of a difference, as the reference counts it. -/
theorem rsub_step (M N c : Nat) (hc : c ≤ 1) (h : N + c ≤ M) : ∃ c' : Nat, c' ≤ 1 ∧ (M - N - c) / 10 = M / 10 - N / 10 - c' ∧ N / 10 + c' ≤ M / 10 ∧
    (if wrap64 (wrap64 (((M % 10 : Nat) : Int) - (c : Int)) - ((N % 10 : Nat) : Int)) < 0 then wrap64 (wrap64 (wrap64 (((M % 10 : Nat) : Int) - (c : Int)) - ((N % 10 : Nat) : Int)) + 10) = (((M - N - c) % 10 : Nat) : Int) ∧ c' = 1
      else wrap64 (wrap64 (((M % 10 : Nat) : Int) - (c : Int)) - ((N % 10 : Nat) : Int)) = (((M - N - c) % 10 : Nat) : Int) ∧ c' = 0) := by
  have hM := Nat.mod_lt M (show 0 < 10 by omega)
  have hN := Nat.mod_lt N (show 0 < 10 by omega)
  have e1 : wrap64 (((M % 10 : Nat) : Int) - (c : Int)) = ((M % 10 : Nat) : Int) - (c : Int) := wrap_in (by omega) (by omega)
  have e2 : wrap64 (((M % 10 : Nat) : Int) - (c : Int) - ((N % 10 : Nat) : Int)) = ((M % 10 : Nat) : Int) - (c : Int) - ((N % 10 : Nat) : Int) := wrap_in (by omega) (by omega)
  have e3 : wrap64 (((M % 10 : Nat) : Int) - (c : Int) - ((N % 10 : Nat) : Int) + 10) = ((M % 10 : Nat) : Int) - (c : Int) - ((N % 10 : Nat) : Int) + 10 := wrap_in (by omega) (by omega)
  rw [e1, e2, e3]
  by_cases g : M % 10 < N % 10 + c
  · refine ⟨1, by omega, by omega, by omega, ?_⟩
    rw [if_pos (by omega)]
    exact ⟨by omega, rfl⟩
  · refine ⟨0, by omega, by omega, by omega, ?_⟩
    rw [if_neg (by omega)]
    exact ⟨by omega, rfl⟩
theorem rminus_loop (a b : List Int) (A B : Nat) (ha : Rw 10 a A) (hb : Rw 10 b B) (hBA : B ≤ A) (la : a.length ≤ 100000000) : ∀ (d i c : Nat), d = a.length - i → i ≤ a.length → c ≤ 1 → B / 10 ^ i + c ≤ A / 10 ^ i → (A - B) / 10 ^ i = A / 10 ^ i - B / 10 ^ i - c →
    Ev (fun k => heraldref03_minus.l0 k a b (dn 10 i (A - B)) (c : Int) (i : Int)) (dn 10 a.length (A - B)) := by
  intro d
  induction d with
  | zero =>
    intro i c hd hi hc h1 h2
    obtain rfl : i = a.length := by omega
    refine Ev.step (fun k => ?_) (Ev.now _)
    rw [heraldref03_minus.l0, if_neg (by omega)]
  | succ d ih =>
    intro i c hd hi hc h1 h2
    obtain ⟨c', hc', e1, e2, hs⟩ := rsub_step (A / 10 ^ i) (B / 10 ^ i) c hc h1
    rw [← h2] at hs e1
    rw [Nat.div_div_eq_div_mul, Nat.div_div_eq_div_mul, Nat.div_div_eq_div_mul, ← Nat.pow_succ] at e1
    rw [Nat.div_div_eq_div_mul, Nat.div_div_eq_div_mul, ← Nat.pow_succ] at e2
    have hi2 := ih (i + 1) c' (by omega) (by omega) hc' e2 e1
    rw [dn_snoc] at hi2
    have ra := ha.1 i
    have rb := hb.1 i
    refine Ev.step (fun k => ?_) hi2
    rw [heraldref03_minus.l0, if_pos (by omega), if_pos (by omega), next_k i (by omega), dn_length]
    by_cases g : i < b.length
    · rw [if_pos (by omega), ra, rb]
      by_cases c1 : wrap64 (wrap64 (((A / 10 ^ i % 10 : Nat) : Int) - (c : Int)) - ((B / 10 ^ i % 10 : Nat) : Int)) < 0
      · rw [if_pos c1] at hs ⊢
        obtain ⟨s1, rfl⟩ := hs
        rw [if_pos (by omega), s1]
        rfl
      · rw [if_neg c1] at hs ⊢
        obtain ⟨s1, rfl⟩ := hs
        rw [if_pos (by omega), s1]
        rfl
    · rw [rd_out b i (by omega)] at rb
      rw [← rb] at hs
      have hA10 := Nat.mod_lt (A / 10 ^ i) (show 0 < 10 by omega)
      have ew : wrap64 (wrap64 (((A / 10 ^ i % 10 : Nat) : Int) - (c : Int)) - 0) = wrap64 (((A / 10 ^ i % 10 : Nat) : Int) - (c : Int)) := by
        rw [wrap_in (a := ((A / 10 ^ i % 10 : Nat) : Int) - (c : Int)) (by omega) (by omega), Int.sub_zero, wrap_in (by omega) (by omega)]
      rw [ew] at hs
      rw [if_neg (by omega), ra]
      by_cases c1 : wrap64 (((A / 10 ^ i % 10 : Nat) : Int) - (c : Int)) < 0
      · rw [if_pos c1] at hs ⊢
        obtain ⟨s1, rfl⟩ := hs
        rw [if_pos (by omega), s1]
        rfl
      · rw [if_neg c1] at hs ⊢
        obtain ⟨s1, rfl⟩ := hs
        rw [if_pos (by omega), s1]
        rfl
theorem rminus_ev (a b : List Int) (A B : Nat) (ha : Rw 10 a A) (hb : Rw 10 b B) (hBA : B ≤ A) (la : a.length ≤ 100000000) : Ev (fun k => heraldref03_minus.f k a b) (dn 10 a.length (A - B)) :=
  rminus_loop a b A B ha hb hBA la a.length 0 0 (by omega) (by omega) (by omega) (by rw [Nat.pow_zero, Nat.div_one, Nat.div_one]; omega) (by rw [Nat.pow_zero, Nat.div_one, Nat.div_one, Nat.div_one]; omega)
theorem left_loop (l : List Int) (r : Nat) (q : Int) (h : Rw 10 l r) (hl : l.length ≤ 100000000) : ∀ (d i : Nat), d = l.length - i → i ≤ l.length → r % 10 ^ i = 0 →
    Ev (fun k => heraldref03_divide.l2 k l q (i : Int)) (q, decide (r ≠ 0)) := by
  intro d
  induction d with
  | zero =>
    intro i hd hi h0
    obtain rfl : i = l.length := by omega
    rw [Nat.mod_eq_of_lt h.2] at h0
    refine Ev.step (fun k => ?_) (Ev.now _)
    rw [heraldref03_divide.l2, if_neg (by omega), decide_eq_false (by omega)]
  | succ d ih =>
    intro i hd hi h0
    have hr := h.1 i
    by_cases c : r / 10 ^ i % 10 = 0
    · have h1 : r % 10 ^ (i + 1) = 0 := by rw [Nat.pow_succ, Nat.mod_mul, h0, c, Nat.mul_zero]
      refine Ev.step (fun k => ?_) (ih (i + 1) (by omega) (by omega) h1)
      rw [heraldref03_divide.l2, if_pos (by omega), if_pos (by omega), if_pos (by omega), next_k i (by omega)]
    · refine Ev.step (fun k => ?_) (Ev.now _)
      have : r ≠ 0 := by intro e; subst e; simp at c
      rw [heraldref03_divide.l2, if_pos (by omega), if_pos (by omega), if_neg (by omega), decide_eq_true this]
theorem bits_of (i : Nat) (hi : i ≤ 26) (q : Nat) (hq : q < 134217728) : IntKind.u64.wrap ((q : Int) + shl .u64 1 (IntKind.u64.wrap (i : Int))) = ((q + 2 ^ i : Nat) : Int) := by
  have hp : 2 ^ i ≤ 67108864 := Nat.pow_le_pow_right (n := 2) (by omega) hi
  obtain ⟨P, hP⟩ : ∃ P, 2 ^ i = P := ⟨_, rfl⟩
  have e : (2 : Int) ^ i = (P : Int) := by rw [← hP, Int.natCast_pow]; rfl
  rw [hP] at hp ⊢
  have e1 : shl .u64 1 (IntKind.u64.wrap (i : Int)) = (P : Int) := by
    rw [u64_in (by omega) (by omega)]
    unfold shl
    rw [Int.toNat_natCast, Nat.min_eq_left (show i ≤ IntKind.u64.bits by show i ≤ 64; omega), Int.one_mul, e, u64_in (by omega) (by omega)]
  rw [e1, u64_in (by omega) (by omega)]
  omega
theorem shift_loop (x0 : List Int) (D j : Nat) (R : Int × Bool) (q : Int) (hj : j ≤ 26) (ld_ : (dgs 10 (D * 2 ^ j)).length ≤ 1000000) (hR : Ev (fun k => heraldref03_divide.l1 k x0 (dgs 10 D) q (j : Int) (dgs 10 (D * 2 ^ j)) (j : Int)) R) : ∀ (m i : Nat), m + i = j →
    Ev (fun k => heraldref03_divide.l1 k x0 (dgs 10 D) q (j : Int) (dgs 10 (D * 2 ^ i)) (i : Int)) R := by
  intro m
  induction m with
  | zero =>
    intro i hi
    obtain rfl : i = j := by omega
    exact hR
  | succ m ih =>
    intro i hi
    have hle : D * 2 ^ i ≤ D * 2 ^ j := Nat.mul_le_mul_left _ (Nat.pow_le_pow_right (by omega) (by omega))
    have := dgs_len_mono (b := 10) (by omega) hle
    have ht := rtimes_ev (D * 2 ^ i) 2 (by omega) (by omega) (by omega)
    have h2 := ih (i + 1) (by omega)
    rw [Nat.mul_assoc, ← Nat.pow_succ] at ht
    have := ht.bind (f := fun k t266 => heraldref03_divide.l1 k x0 (dgs 10 D) q (j : Int) t266 (wrap64 ((i : Int) + 1))) (by
      refine Ev.congr (fun k => ?_) h2
      rw [next_k i (by omega)])
    refine Ev.step (fun k => ?_) this
    rw [heraldref03_divide.l1, if_pos (by omega)]
    rfl
theorem divide_loop (N D L : Nat) (hD : D ≠ 0) (hL : L ≤ 1000000) (ld_ : (dgs 10 (D * 2 ^ 26)).length ≤ 1000000) (hq : N / D < 134217728) : ∀ (j : Nat) (l : List Int), j ≤ 27 → Rw 10 l (N % (D * 2 ^ j)) → l.length = L →
    Ev (fun k => heraldref03_divide.l0 k l (dgs 10 D) ((N / (D * 2 ^ j) * 2 ^ j : Nat) : Int) ((j : Int) - 1)) (((N / D : Nat) : Int), decide (N % D ≠ 0)) := by
  intro j
  induction j with
  | zero =>
    intro l hj h hl
    rw [Nat.pow_zero, Nat.mul_one] at h ⊢
    rw [Nat.mul_one]
    have := left_loop l (N % D) ((N / D : Nat) : Int) h (by omega) l.length 0 (by omega) (by omega) (by rw [Nat.pow_zero, Nat.mod_one])
    refine Ev.step (fun k => ?_) this
    rw [heraldref03_divide.l0, if_neg (by omega)]
    rfl
  | succ j ih =>
    intro l hj h hl
    have hp : 0 < D * 2 ^ j := Nat.mul_pos (by omega) (Nat.pow_pos (by omega))
    obtain ⟨s1, s2⟩ := q_step N (D * 2 ^ j) hp
    have hle26 : D * 2 ^ j ≤ D * 2 ^ 26 := Nat.mul_le_mul_left _ (Nat.pow_le_pow_right (by omega) (by omega))
    have hlen := dgs_len_mono (b := 10) (by omega) hle26
    have hbound : N / (D * 2 ^ j) * 2 ^ j ≤ N / D := by
      rw [Nat.le_div_iff_mul_le (by omega), Nat.mul_assoc, Nat.mul_comm (2 ^ j) D]
      exact Nat.div_mul_le_self _ _
    have eT : D * 2 ^ (j + 1) = D * 2 ^ j * 2 := by rw [Nat.pow_succ, Nat.mul_assoc]
    rw [eT] at h ⊢
    obtain ⟨q, hqq⟩ : ∃ q, N / (D * 2 ^ j * 2) = q := ⟨_, rfl⟩
    rw [hqq] at s1 s2 ⊢
    have ej : ((j + 1 : Nat) : Int) - 1 = (j : Int) := by omega
    have ew : wrap64 ((j : Int) - 1) = (j : Int) - 1 := wrap_in (by omega) (by omega)
    have hlow := lower_ev l (dgs 10 (D * 2 ^ j)) _ (D * 2 ^ j) h (Rw.dgs (by omega) _) (by omega) (by omega)
    have eq2 : q * 2 ^ (j + 1) = 2 * q * 2 ^ j := by rw [Nat.pow_succ, Nat.mul_comm (2 ^ j) 2, ← Nat.mul_assoc, Nat.mul_comm q 2]
    rw [ej, eq2]
    have main : Ev (fun k => heraldref03_divide.l1 k l (dgs 10 D) ((2 * q * 2 ^ j : Nat) : Int) (j : Int) (dgs 10 (D * 2 ^ j)) (j : Int)) (((N / D : Nat) : Int), decide (N % D ≠ 0)) := by
      by_cases c : N % (D * 2 ^ j * 2) < D * 2 ^ j
      · obtain ⟨m1, m2⟩ := s1 c
        rw [decide_eq_true c] at hlow
        have hi := ih l (by omega) (by rw [m1]; exact h) hl
        rw [m2] at hi
        have := hlow.bind (f := fun k t269 => (if t269 = true then (heraldref03_divide.l0 k l (dgs 10 D) ((2 * q * 2 ^ j : Nat) : Int) (wrap64 ((j : Int) - 1))) else ((heraldref03_minus.f k l (dgs 10 (D * 2 ^ j))).bind fun t270 => (if 0 ≤ (IntKind.u64.wrap (j : Int)) then (heraldref03_divide.l0 k t270 (dgs 10 D) (IntKind.u64.wrap (((2 * q * 2 ^ j : Nat) : Int) + (shl .u64 1 (IntKind.u64.wrap (j : Int))))) (wrap64 ((j : Int) - 1))) else (none))))) (by
          refine Ev.congr (fun k => ?_) hi
          rw [if_pos rfl, ew])
        refine Ev.step (fun k => ?_) this
        rw [heraldref03_divide.l1, if_neg (by omega)]
      · obtain ⟨m1, m2⟩ := s2 c
        rw [decide_eq_false c] at hlow
        have hmn := rminus_ev l (dgs 10 (D * 2 ^ j)) _ (D * 2 ^ j) h (Rw.dgs (by omega) _) (by omega) (by omega)
        rw [← m1] at hmn
        have hlt : N % (D * 2 ^ j) < 10 ^ l.length := by
          rw [m1]; exact Nat.lt_of_le_of_lt (Nat.sub_le _ _) h.2
        have hi := ih (dn 10 l.length (N % (D * 2 ^ j))) (by omega) (Rw.dn (by omega) hlt) (by rw [dn_length, hl])
        rw [m2, Nat.add_mul, Nat.one_mul] at hi
        rw [m2, Nat.add_mul, Nat.one_mul] at hbound
        have hb2 : 2 * q * 2 ^ j < 134217728 := Nat.lt_of_le_of_lt (Nat.le_trans (Nat.le_add_right _ _) hbound) hq
        have hb := bits_of j (by omega) (2 * q * 2 ^ j) hb2
        have := hlow.bind (f := fun k t269 => (if t269 = true then (heraldref03_divide.l0 k l (dgs 10 D) ((2 * q * 2 ^ j : Nat) : Int) (wrap64 ((j : Int) - 1))) else ((heraldref03_minus.f k l (dgs 10 (D * 2 ^ j))).bind fun t270 => (if 0 ≤ (IntKind.u64.wrap (j : Int)) then (heraldref03_divide.l0 k t270 (dgs 10 D) (IntKind.u64.wrap (((2 * q * 2 ^ j : Nat) : Int) + (shl .u64 1 (IntKind.u64.wrap (j : Int))))) (wrap64 ((j : Int) - 1))) else (none))))) (by
          have := hmn.bind (f := fun k t270 => (if 0 ≤ (IntKind.u64.wrap (j : Int)) then (heraldref03_divide.l0 k t270 (dgs 10 D) (IntKind.u64.wrap (((2 * q * 2 ^ j : Nat) : Int) + (shl .u64 1 (IntKind.u64.wrap (j : Int))))) (wrap64 ((j : Int) - 1))) else (none))) (by
            refine Ev.congr (fun k => ?_) hi
            rw [if_pos (by rw [u64_in (by omega) (by omega)]; omega), hb, ew])
          refine Ev.congr (fun k => ?_) this
          rw [if_neg (show ¬ (false = true) by decide)])
        refine Ev.step (fun k => ?_) this
        rw [heraldref03_divide.l1, if_neg (by omega)]
    have hsh := shift_loop l D j _ _ (by omega) (by omega) main j 0 (by omega)
    rw [Nat.pow_zero, Nat.mul_one] at hsh
    refine Ev.step (fun k => ?_) hsh
    rw [heraldref03_divide.l0, if_pos (by omega)]
    rfl
theorem divide_ev (N D : Nat) (hD : D ≠ 0) (ln : (dgs 10 N).length ≤ 1000000) (ld_ : (dgs 10 (D * 2 ^ 26)).length ≤ 1000000) (hq : N / D < 134217728) : Ev (fun k => heraldref03_divide.f k (dgs 10 N) (dgs 10 D)) (((N / D : Nat) : Int), decide (N % D ≠ 0)) := by
  have hb : N < D * 2 ^ 27 := by
    rw [show (2 : Nat) ^ 27 = 134217728 from rfl, Nat.mul_comm]
    exact (Nat.div_lt_iff_lt_mul (by omega)).mp hq
  have := divide_loop N D (dgs 10 N).length hD ln ld_ hq 27 (dgs 10 N) (by omega) (by rw [Nat.mod_eq_of_lt hb]; exact Rw.dgs (by omega) N) rfl
  rw [Nat.div_eq_of_lt hb, Nat.zero_mul] at this
  exact this
end Go.Proofs.YteecekhfpfnepaaDoor.Tx
end

section
namespace Go.Proofs.YteecekhfpfnepaaDoor.Tx
open Go.RowKit Go.Proofs.YteecekhfpfnepaaDoor.PAll Go.Proofs.YteecekhfpfnepaaDoor.Nums Go.Proofs.YteecekhfpfnepaaDoorW.PrintWords Go.Proofs.YteecekhfpfnepaaDoorW.PrintLast Go.Proofs.YteecekhfpfnepaaDoorW.PrintMore
set_option linter.unusedVariables false
set_option linter.unusedSimpArgs false
theorem lt_carry {p m c : Nat} (hp : p < 1000000000) (hm : m < 4294967296) (hc : c ≤ m) : p * m + c < 18446744073709551616 ∧ (p * m + c) / 1000000000 ≤ m := by
  have h1 : p * m ≤ 999999999 * m := Nat.mul_le_mul_right _ (by omega)
  omega
theorem ltimes_step (p m c : Nat) (hp : p < 1000000000) (hm : m < 4294967296) (hc : c ≤ m) :
    IntKind.u64.wrap ((IntKind.u64.wrap ((IntKind.u64.wrap (p : Int)) * (IntKind.u64.wrap (m : Int)))) + (c : Int)) = ((p * m + c : Nat) : Int) := times_step p m c (by omega) hm (by omega)
theorem l_mod (Y : Nat) (h : Y < 18446744073709551616) : Int.tmod (Y : Int) 1000000000 % 4294967296 = ((Y % 1000000000 : Nat) : Int) ∧ IntKind.u64.wrap (Int.tdiv (Y : Int) 1000000000) = ((Y / 1000000000 : Nat) : Int) := by
  rw [show (1000000000 : Int) = ((1000000000 : Nat) : Int) from rfl, ← Int.ofNat_tmod, ← Int.ofNat_tdiv]
  constructor
  · omega
  · rw [u64_in (by omega) (by omega)]
theorem lcarry_ev : ∀ (c : Nat) (out : List Int), c < 18446744073709551616 → out.length ≤ 1000000 → (dgs 1000000000 c).length ≤ 1000000 → Ev (fun k => single_long_times.l1 k out (c : Int)) (out ++ dgs 1000000000 c) := by
  intro c
  induction c using Nat.strongRecOn with
  | ind c ih =>
    intro out hc ho hl
    by_cases h : c = 0
    · subst h
      rw [dgs_zero, List.append_nil]
      refine Ev.step (fun k => ?_) (Ev.now _)
      rw [single_long_times.l1, if_neg (by omega)]
    · obtain ⟨m1, m2⟩ := l_mod c hc
      rw [dgs_pos (by omega) h, List.length_cons] at hl
      have := ih (c / 1000000000) (by omega) (out ++ [((c % 1000000000 : Nat) : Int)])
      by_cases hz : out.length < 1000000
      · have := this (by omega) (by simp; omega) (by omega)
        rw [dgs_pos (by omega) h]
        rw [List.append_assoc, List.singleton_append] at this
        refine Ev.step (fun k => ?_) this
        rw [single_long_times.l1, if_pos (by omega), if_pos (by omega), m1, m2]
      · have hsmall : c / 1000000000 / 1000000000 / 1000000000 = 0 := by omega
        rw [dgs_pos (by omega) h]
        -- the row is at its bound: three parts at most come behind it
        have step : ∀ (o : List Int) (a : Nat), o.length ≤ 1000010 → a < 18446744073709551616 → a ≠ 0 → ∀ r, Ev (fun k => single_long_times.l1 k (o ++ [((a % 1000000000 : Nat) : Int)]) ((a / 1000000000 : Nat) : Int)) r → Ev (fun k => single_long_times.l1 k o (a : Int)) r := by
          intro o a ho ha h0 r hr
          obtain ⟨m1, m2⟩ := l_mod a ha
          refine Ev.step (fun k => ?_) hr
          rw [single_long_times.l1, if_pos (by omega), if_pos (by omega), m1, m2]
        have stop : ∀ (o : List Int), Ev (fun k => single_long_times.l1 k o ((0 : Nat) : Int)) o := by
          intro o
          refine Ev.step (fun k => ?_) (Ev.now _)
          rw [single_long_times.l1, if_neg (by omega)]
        refine step _ _ (by omega) hc h _ ?_
        by_cases g1 : c / 1000000000 = 0
        · rw [g1, dgs_zero]; exact stop _
        · rw [dgs_pos (by omega) g1]
          refine step _ _ (by simp; omega) (by omega) g1 _ ?_
          by_cases g2 : c / 1000000000 / 1000000000 = 0
          · rw [g2, dgs_zero]
            have := stop (out ++ [((c % 1000000000 : Nat) : Int)] ++ [((c / 1000000000 % 1000000000 : Nat) : Int)])
            simpa using this
          · rw [dgs_pos (by omega) g2]
            refine step _ _ (by simp; omega) (by omega) g2 _ ?_
            rw [hsmall, dgs_zero]
            have := stop (out ++ [((c % 1000000000 : Nat) : Int)] ++ [((c / 1000000000 % 1000000000 : Nat) : Int)] ++ [((c / 1000000000 / 1000000000 % 1000000000 : Nat) : Int)])
            simpa using this
theorem ltimes_loop (n m X : Nat) (hm : m < 4294967296) (hm0 : 1 ≤ m) (hX : X = n * m) (hl : (dgs 1000000000 n).length ≤ 900000) : ∀ (d i c : Nat), d = (dgs 1000000000 n).length - i → i ≤ (dgs 1000000000 n).length → c ≤ m → X / 1000000000 ^ i = (n / 1000000000 ^ i) * m + c →
    Ev (fun k => single_long_times.l0 k (m : Int) (dn 1000000000 i X) (c : Int) (dgs 1000000000 n) ((dgs 1000000000 n).length : Int) (i : Int)) (dgs 1000000000 X) := by
  intro d
  induction d with
  | zero =>
    intro i c hd hi hc h
    obtain rfl : i = (dgs 1000000000 n).length := by omega
    have hw : n / 1000000000 ^ (dgs 1000000000 n).length = 0 := Nat.div_eq_of_lt (lt_pow_len (by omega))
    rw [hw, Nat.zero_mul, Nat.zero_add] at h
    have hle : (dgs 1000000000 n).length ≤ (dgs 1000000000 X).length := dgs_len_mono (by omega) (by rw [hX]; exact Nat.le_mul_of_pos_right _ (by omega))
    rw [dgs_split (by omega) (dgs 1000000000 n).length X hle, h]
    have hcl : (dgs 1000000000 c).length ≤ 2 := (dgs_len_le (by omega)).mpr (show c < 1000000000 ^ 2 by omega)
    refine Ev.step (fun k => ?_) (lcarry_ev c (dn 1000000000 (dgs 1000000000 n).length X) (by omega) (by rw [dn_length]; omega) (by omega))
    rw [single_long_times.l0, if_neg (by omega)]
  | succ d ih =>
    intro i c hd hi hc h
    have hp := Nat.mod_lt (n / 1000000000 ^ i) (show 0 < 1000000000 by omega)
    obtain ⟨h1, h2⟩ := mac (b := 1000000000) (by omega) h
    obtain ⟨c1, c2⟩ := lt_carry hp hm hc
    have hst := ltimes_step _ _ _ hp hm hc
    rw [Nat.div_div_eq_div_mul, Nat.div_div_eq_div_mul, ← Nat.pow_succ] at h2
    obtain ⟨Y, hY⟩ : ∃ Y, n / 1000000000 ^ i % 1000000000 * m + c = Y := ⟨_, rfl⟩
    rw [hY] at h1 h2 c1 c2 hst
    obtain ⟨m1, m2⟩ := l_mod Y c1
    refine Ev.step (fun k => ?_) (ih (i + 1) (Y / 1000000000) (by omega) (by omega) c2 h2)
    rw [single_long_times.l0, if_pos (by omega), if_pos (by omega), if_pos (by omega), dn_length, if_pos (by omega), rd_dgs (by omega), hst, m1, m2, next_k i (by omega), dn_snoc, h1]
theorem ltimes_ev (n m : Nat) (hm : m < 4294967296) (hm0 : 1 ≤ m) (hl : (dgs 1000000000 n).length ≤ 900000) : Ev (fun k => single_long_times.f k (dgs 1000000000 n) (m : Int)) (dgs 1000000000 (n * m)) := by
  have := ltimes_loop n m (n * m) hm hm0 rfl hl (dgs 1000000000 n).length 0 0 (by omega) (by omega) (by omega) (by rw [Nat.pow_zero, Nat.div_one, Nat.div_one, Nat.add_zero])
  exact this
/-- So many digits of a number, as bytes. -/
def ps (L X : Nat) : List Int := ((dn 10 L X).reverse).map fun d => 48 + d
theorem ps_length (L X : Nat) : (ps L X).length = L := by unfold ps; simp [dn_length]
theorem ps_dd (L X : Nat) : Dd (ps L X) := by
  intro x hx
  unfold ps at hx
  obtain ⟨d, hd, rfl⟩ := List.mem_map.mp hx
  have := dn_dg (b := 10) (by omega) L X d (List.mem_reverse.mp hd)
  omega
theorem ps_zero (X : Nat) : ps 0 X = [] := rfl
theorem ps_snoc (i X : Nat) : ps (i + 1) X = (48 + ((X / 10 ^ i % 10 : Nat) : Int)) :: ps i X := by
  unfold ps; rw [dn_snoc, List.reverse_append, List.map_append]; rfl
theorem dn_add (b : Nat) : ∀ (i j X : Nat), dn b (i + j) X = dn b i X ++ dn b j (X / b ^ i)
  | 0, j, X => by simp [dn]
  | i + 1, j, X => by rw [show i + 1 + j = (i + j) + 1 by omega, dn_succ, dn_succ, dn_add b i j (X / b), List.cons_append, Nat.div_div_eq_div_mul, ← Nat.pow_succ']
theorem dn_mod {b : Nat} (hb : 0 < b) : ∀ (j X : Nat), dn b j (X % b ^ j) = dn b j X
  | 0, X => rfl
  | j + 1, X => by
    rw [dn_succ, dn_succ, Nat.pow_succ', Nat.mod_mul_right_mod, Nat.mod_mul_right_div_self, dn_mod hb j (X / b)]
theorem ps_add (i j X : Nat) : ps (i + j) X = ps j (X / 10 ^ i % 10 ^ j) ++ ps i X := by
  unfold ps; rw [dn_add, dn_mod (by omega), List.reverse_append, List.map_append]
theorem pv_ps : ∀ (L X : Nat), pv 0 (ps L X) = X % 10 ^ L := by
  intro L
  induction L with
  | zero => intro X; rw [ps_zero, pv_nil, Nat.pow_zero, Nat.mod_one]
  | succ L ih =>
    intro X
    have e : ps (L + 1) X = ps L (X / 10) ++ [48 + ((X % 10 : Nat) : Int)] := by
      unfold ps; rw [dn_succ, List.reverse_cons, List.map_append]; rfl
    rw [e, pv_append, ih, pv_cons, pv_nil, Nat.pow_succ', Nat.mod_mul]
    omega
theorem drop_app (p : Int → Bool) : ∀ (a b : List Int), (a.dropWhile p ++ b).dropWhile p = (a ++ b).dropWhile p
  | [], b => rfl
  | x :: a, b => by
    by_cases h : p x = true
    · rw [List.dropWhile_cons, if_pos h, List.cons_append, List.dropWhile_cons, if_pos h, drop_app p a b]
    · rw [List.dropWhile_cons, if_neg h]
theorem part_digit (p j : Nat) (hp : p < 4294967296) : ((48 + (Int.tmod ((p / 10 ^ j : Nat) : Int) 10)) % 4294967296) % 256 = 48 + ((p / 10 ^ j % 10 : Nat) : Int) ∧ (Int.tdiv ((p / 10 ^ j : Nat) : Int) 10) % 4294967296 = ((p / 10 ^ (j + 1) : Nat) : Int) := by
  have hle := Nat.div_le_self p (10 ^ j)
  rw [show (10 : Int) = ((10 : Nat) : Int) from rfl, ← Int.ofNat_tmod, ← Int.ofNat_tdiv, Nat.pow_succ, ← Nat.div_div_eq_div_mul]
  generalize p / 10 ^ j = q at *
  omega
/-- What digits says of a number, be it 0. -/
def dz (X : Nat) : List Int := if X = 0 then [48] else dcs X
theorem inner_loop (l : List Int) (S : List Int) (x4 : Int) (x8 x9 : Int) (p : Nat) (hp : p < 4294967296) (R : ByteArray) (hR : Ev (fun k => single_long_digits.l1 k l (strOfNums S) x4 ((p / 10 ^ 9 : Nat) : Int) (strOfNums (ps 9 p)) l x8 x9 9) R) : ∀ (m j : Nat), m + j = 9 →
    Ev (fun k => single_long_digits.l1 k l (strOfNums S) x4 ((p / 10 ^ j : Nat) : Int) (strOfNums (ps j p)) l x8 x9 (j : Int)) R := by
  intro m
  induction m with
  | zero =>
    intro j hj
    obtain rfl : j = 9 := by omega
    exact hR
  | succ m ih =>
    intro j hj
    have h2 := ih (j + 1) (by omega)
    obtain ⟨d1, d2⟩ := part_digit p j hp
    rw [ps_snoc] at h2
    refine Ev.step (fun k => ?_) h2
    rw [single_long_digits.l1, if_pos (by omega), d1, d2, Option.bind_some, nums_size, nums_size, ps_length, if_pos (by simp; omega), next_k j (by omega), ← nums_append]
    rfl
theorem digits_end (l S : List Int) (X i : Nat) (x8 : Int) (hS : By S) (hl : S.length ≤ 900000000) (h : S.dropWhile (fun x => x == 48) = dcs X) (hi : ¬ (i : Int) < x8) : Ev (fun k => single_long_digits.l0 k l (strOfNums S) l x8 (i : Int)) (strOfNums (dz X)) := by
  have ht := TrimLeft_ev S hS (by omega)
  rw [h] at ht
  have := ht.bind (f := fun _ t333 => if t333.toList = ([] : List UInt8) then (some (⟨#[48]⟩ : ByteArray)) else (some t333)) (r := strOfNums (dz X)) (by
    refine Ev.congr (fun k => ?_) (Ev.now _)
    have hnil : (strOfNums (dcs X)).toList = ([] : List UInt8) ↔ X = 0 := by
      rw [bytesOf_nil, bytesOf_nums (dcs_dd X).by, ← List.length_eq_zero_iff, dcs_length, dgs_len_zero (by omega)]
    by_cases c : X = 0
    · rw [if_pos (hnil.mpr c)]
      unfold dz; rw [if_pos c]; rfl
    · rw [if_neg (fun e => c (hnil.mp e))]
      unfold dz; rw [if_neg c])
  refine Ev.step (fun k => ?_) this
  rw [single_long_digits.l0, if_neg hi]
theorem digits_loop (L X : Nat) (hX : X < 1000000000 ^ L) (hL : L ≤ 1000000) : ∀ (d i : Nat), d + i = L → 1 ≤ d →
    Ev (fun k => single_long_digits.l0 k (dn 1000000000 L X) (strOfNums (ps (9 * i) X)) (dn 1000000000 L X) (L : Int) (i : Int)) (strOfNums (dz X)) := by
  intro d
  induction d with
  | zero => intro i h1 h2; omega
  | succ d ih =>
    intro i h1 h2
    obtain ⟨p, hp⟩ : ∃ p, X / 1000000000 ^ i % 1000000000 = p := ⟨_, rfl⟩
    have hpl : p < 1000000000 := by rw [← hp]; exact Nat.mod_lt _ (by omega)
    have hrd : rd (dn 1000000000 L X) (i : Int) = (p : Int) := by rw [(Rw.dn (by omega) hX).1 i, hp]
    have hadd : ps 9 p ++ ps (9 * i) X = ps (9 * (i + 1)) X := by
      rw [show 9 * (i + 1) = 9 * i + 9 by omega, ps_add, ← hp, Nat.pow_mul]
    have hw : wrap64 (((dn 1000000000 L X).length : Int) - 1) = (L : Int) - 1 := by rw [dn_length, wrap_in (by omega) (by omega)]
    have last : Ev (fun k => single_long_digits.l1 k (dn 1000000000 L X) (strOfNums (ps (9 * i) X)) (i : Int) ((p / 10 ^ 9 : Nat) : Int) (strOfNums (ps 9 p)) (dn 1000000000 L X) (L : Int) (i : Int) 9) (strOfNums (dz X)) := by
      by_cases c : d = 0
      · subst c
        have ht := TrimLeft_ev (ps 9 p) (ps_dd 9 p).by (by rw [ps_length]; omega)
        have hdl : ((ps 9 p).dropWhile (fun x => x == 48)).length ≤ 9 := by
          have := (List.dropWhile_suffix (l := ps 9 p) (fun x => x == 48)).length_le
          rw [ps_length] at this; exact this
        have hby : By ((ps 9 p).dropWhile (fun x => x == 48)) := fun x hx => (ps_dd 9 p).by x ((List.dropWhile_suffix _).subset hx)
        have hend := digits_end (dn 1000000000 L X) ((ps 9 p).dropWhile (fun x => x == 48) ++ ps (9 * i) X) X (i + 1) (L : Int) (hby.app (ps_dd _ _).by) (by rw [List.length_append, ps_length]; omega) (by
          rw [drop_app, hadd, trim_dcs _ (ps_dd _ _), pv_ps, Nat.mod_eq_of_lt]
          rw [Nat.pow_mul, show i + 1 = L by omega]; exact hX) (by omega)
        have := ht.bind (f := fun k t338 => (if t338.size + (strOfNums (ps (9 * i) X)).size ≤ 9223372036854775807 then (single_long_digits.l0 k (dn 1000000000 L X) (t338 ++ (strOfNums (ps (9 * i) X))) (dn 1000000000 L X) (L : Int) (wrap64 ((i : Int) + 1))) else (none))) (by
          refine Ev.congr (fun k => ?_) hend
          rw [nums_size, nums_size, ps_length, if_pos (by omega), next_k i (by omega), ← nums_append])
        refine Ev.step (fun k => ?_) this
        rw [single_long_digits.l1, if_neg (by omega), hw, if_pos (by omega)]
      · have h3 := ih (i + 1) (by omega) (by omega)
        rw [← hadd, nums_append] at h3
        refine Ev.step (fun k => ?_) h3
        rw [single_long_digits.l1, if_neg (by omega), hw, if_neg (by omega), nums_size, nums_size, ps_length, ps_length, if_pos (by omega), next_k i (by omega)]
    have hin := inner_loop (dn 1000000000 L X) (ps (9 * i) X) (i : Int) (L : Int) (i : Int) p (by omega) _ last 9 0 (by omega)
    rw [Nat.pow_zero, Nat.div_one, ps_zero] at hin
    refine Ev.step (fun k => ?_) hin
    rw [single_long_digits.l0, if_pos (by omega), if_pos (by omega), dn_length, if_pos (by omega), hrd]
    rfl
theorem digits_ev (L X : Nat) (hX : X < 1000000000 ^ L) (hL : L ≤ 1000000) (h0 : 1 ≤ L) : Ev (fun k => single_long_digits.f k (dn 1000000000 L X)) (strOfNums (dz X)) := by
  have := digits_loop L X hX hL L 0 (by omega) h0
  refine Ev.congr (fun k => ?_) this
  unfold single_long_digits.f
  rw [dn_length]
  rfl
theorem ld_dn (X : Nat) : dgs 1000000000 X = dn 1000000000 (dgs 1000000000 X).length X := by
  conv => lhs; rw [dgs_split (by omega) (dgs 1000000000 X).length X (Nat.le_refl _), Nat.div_eq_of_lt (lt_pow_len (by omega)), dgs_zero, List.append_nil]
theorem ldigits_ev (X : Nat) (h : X ≠ 0) (hl : (dgs 1000000000 X).length ≤ 1000000) : Ev (fun k => single_long_digits.f k (dgs 1000000000 X)) (strOfNums (dcs X)) := by
  have := digits_ev (dgs 1000000000 X).length X (lt_pow_len (by omega)) hl (dgs_len_pos (by omega) h)
  rw [← ld_dn] at this
  unfold dz at this
  rwa [if_neg h] at this
end Go.Proofs.YteecekhfpfnepaaDoor.Tx
end

section
namespace Go.Proofs.YteecekhfpfnepaaDoor.Tx
open Go.RowKit Go.Proofs.YteecekhfpfnepaaDoor.PAll Go.Proofs.YteecekhfpfnepaaDoor.Nums Go.Proofs.YteecekhfpfnepaaDoorW.PrintWords Go.Proofs.YteecekhfpfnepaaDoorW.PrintLast Go.Proofs.YteecekhfpfnepaaDoorW.PrintMore
open Go.Proofs.YteecekhfpfnepaaDoor.Sg (NR near_some rung join_div scale_join)
set_option linter.unusedVariables false
set_option linter.unusedSimpArgs false
theorem bl_ten (n : Nat) : bl (10 ^ n) ≤ 4 * n + 1 := by
  have : 10 ^ n ≤ 2 ^ (4 * n) := by
    rw [Nat.pow_mul]; exact Nat.pow_le_pow_left (by omega) n
  rw [bl_le, Nat.pow_succ]
  have := Nat.pow_pos (n := 4 * n) (show 0 < 2 by omega)
  omega
theorem bl_lt_ten {v n : Nat} (h : v < 10 ^ n) : bl v ≤ 4 * n + 1 := Nat.le_trans (bl_mono (by omega)) (bl_ten n)
theorem conv_some (s : ByteArray) (hs : s.size ≤ 1000000000000) : conv_bytes.f s = some (bytesOf s) := by unfold conv_bytes.f; rw [if_pos (by omega)]
theorem ten_loop2 (n : Nat) (P : Int) (R : Int) (D : Nat) (hP0 : -1000 ≤ P) (hD : D = 10 ^ (-P).toNat) (hR : Ev (fun k => single_ratio.f k (dgs 4294967296 n) (dgs 4294967296 D)) R) : ∀ (m i : Nat), m + i = (-P).toNat →
    Ev (fun k => single_nearest.l2 k (dgs 4294967296 n) (dgs 4294967296 (10 ^ i)) (-P) (i : Int)) R ∨ P > 0 := by
  intro m
  by_cases c : P > 0
  · exact fun _ _ => .inr c
  refine fun i hi => .inl ?_
  induction m generalizing i with
  | zero =>
    have e : i = (-P).toNat := by omega
    rw [e, ← hD]
    have := hR.bind (f := fun _ t => some t) (Ev.now _)
    refine Ev.step (fun k => ?_) this
    rw [single_nearest.l2, if_neg (by omega)]
  | succ m ih =>
    have hb := bl_ten i
    have hl := wd_len (n := 10 ^ i) (k := 1000) (by omega)
    have ht := timesAnd_ev (10 ^ i) 10 0 (by omega) (by omega) (by omega)
    have h2 := ih (i + 1) (by omega)
    rw [Nat.add_zero, ← Nat.pow_succ] at ht
    have := ht.bind (f := fun k t219 => single_nearest.l2 k (dgs 4294967296 n) t219 (-P) (wrap64 ((i : Int) + 1))) (by
      refine Ev.congr (fun k => ?_) h2
      rw [next_k i (by omega)])
    refine Ev.step (fun k => ?_) this
    rw [single_nearest.l2, if_pos (by omega)]
    rfl
theorem ten_loop1 (V : Nat) (P : Int) (R : Int) (hV : bl V ≤ 1000) (hP0 : -1000 ≤ P) (hP1 : P ≤ 1000) (hR : Ev (fun k => single_ratio.f k (dgs 4294967296 (V * 10 ^ P.toNat)) (dgs 4294967296 (10 ^ (-P).toNat))) R) : ∀ (m i : Nat), m + i = P.toNat →
    Ev (fun k => single_nearest.l1 k P (dgs 4294967296 (V * 10 ^ i)) (dgs 4294967296 1) P (i : Int)) R := by
  intro m
  induction m with
  | zero =>
    intro i hi
    have e : i = P.toNat := by omega
    rw [e]
    have h2 : Ev (fun k => single_nearest.l2 k (dgs 4294967296 (V * 10 ^ P.toNat)) (dgs 4294967296 1) (-P) 0) R := by
      rcases ten_loop2 (V * 10 ^ P.toNat) P R _ hP0 rfl hR (-P).toNat 0 (by omega) with h | h
      · exact h
      · rw [show (-P).toNat = 0 by omega, Nat.pow_zero] at hR
        have := hR.bind (f := fun _ t => some t) (Ev.now _)
        refine Ev.step (fun k => ?_) this
        rw [single_nearest.l2, if_neg (by omega)]
    refine Ev.step (fun k => ?_) h2
    rw [single_nearest.l1, if_neg (by omega), wrap_in (a := -P) (by omega) (by omega)]
  | succ m ih =>
    intro i hi
    have hb := bl_ten i
    have hbb : ∀ K, K = 20000 → bl (V * 10 ^ i) ≤ K := by
      intro K hK
      rw [bl_le]
      have h1 : V < 2 ^ bl V := bl_le.mp (Nat.le_refl _)
      have h2 : 10 ^ i < 2 ^ bl (10 ^ i) := bl_le.mp (Nat.le_refl _)
      have h3 : V * 10 ^ i < 2 ^ bl V * 2 ^ bl (10 ^ i) := Nat.mul_lt_mul'' h1 h2
      rw [← Nat.pow_add] at h3
      have h4 : bl V + bl (10 ^ i) ≤ K := by omega
      exact Nat.lt_of_lt_of_le h3 (Nat.pow_le_pow_right (Nat.succ_pos 1) h4)
    have hbb := hbb _ rfl
    have hl := wd_len (n := V * 10 ^ i) (k := 1000) (by omega)
    have ht := timesAnd_ev (V * 10 ^ i) 10 0 (by omega) (by omega) (by omega)
    have h2 := ih (i + 1) (by omega)
    rw [Nat.add_zero, Nat.mul_assoc, ← Nat.pow_succ] at ht
    have := ht.bind (f := fun k t216 => single_nearest.l1 k P t216 (dgs 4294967296 1) P (wrap64 ((i : Int) + 1))) (by
      refine Ev.congr (fun k => ?_) h2
      rw [next_k i (by omega)])
    refine Ev.step (fun k => ?_) this
    rw [single_nearest.l1, if_pos (by omega)]
    rfl
theorem digit_loop (T : List Int) (P : Int) (R : Int) (hT : Dd T) (hl : T.length ≤ 240) (hR : Ev (fun k => single_nearest.l1 k P (dgs 4294967296 (pv 0 T)) (dgs 4294967296 1) P 0) R) : ∀ (m i : Nat), m = T.length - i → i ≤ T.length →
    Ev (fun k => single_nearest.l0 k P (dgs 4294967296 (pv 0 (T.take i))) (dgs 4294967296 1) T (T.length : Int) (i : Int)) R := by
  intro m
  induction m with
  | zero =>
    intro i hm hi
    rw [List.take_of_length_le (by omega)]
    refine Ev.step (fun k => ?_) hR
    rw [single_nearest.l0, if_neg (by omega)]
  | succ m ih =>
    intro i hm hi
    have hlt : i < T.length := by omega
    have hc := hT T[i] (List.getElem_mem hlt)
    have hd : Dd (T.take i) := fun x hx => hT x (List.mem_of_mem_take hx)
    have hv := pv_lt (T.take i) 0 hd
    rw [List.length_take, Nat.min_eq_left hi, Nat.zero_add, Nat.one_mul] at hv
    have hb := bl_lt_ten hv
    have hw := wd_len (n := pv 0 (T.take i)) (k := 1000) (by omega)
    have ht := timesAnd_ev (pv 0 (T.take i)) 10 (T[i] - 48).toNat (by omega) (by omega) (by omega)
    have h2 := ih (i + 1) (by omega) (by omega)
    have e1 : pv 0 (T.take (i + 1)) = pv 0 (T.take i) * 10 + (T[i] - 48).toNat := by
      rw [List.take_add_one, List.getElem?_eq_getElem hlt, pv_append]
      show pv (pv 0 (T.take i)) [T[i]] = _
      rw [pv_cons, pv_nil]; omega
    have e2 : (rd T (i : Int) - 48) % 256 = (((T[i] - 48).toNat : Nat) : Int) := by rw [rd_at T i hlt]; omega
    rw [e1] at h2
    have := ht.bind (f := fun k t213 => single_nearest.l0 k P t213 (dgs 4294967296 1) T (T.length : Int) (wrap64 ((i : Int) + 1))) (by
      refine Ev.congr (fun k => ?_) h2
      rw [next_k i (by omega)])
    refine Ev.step (fun k => ?_) this
    rw [single_nearest.l0, if_pos (by omega), if_pos (by omega), if_pos (by omega), e2]
    rfl
theorem wd_one : ([1] : List Int) = dgs 4294967296 1 := by
  rw [dgs_pos (by omega) (by omega), show 1 / 4294967296 = 0 from rfl, dgs_zero]; rfl
/-- What single.nearest says of digits that come to V (L bytes, some zeros ahead among them) and a power of ten. -/
theorem nearest_head (L : List Int) (P : Int) (hL : Dd L) (hl : L.length ≤ 240) (hP0 : -100000000 ≤ P) (hP1 : P ≤ 100000000) (R : Int)
    (h0 : pv 0 L = 0 → R = 0) (h1 : pv 0 L ≠ 0 → ((dgs 10 (pv 0 L)).length : Int) + P < -60 → R = 0) (h2 : pv 0 L ≠ 0 → ((dgs 10 (pv 0 L)).length : Int) + P > 60 → R = 2139095040)
    (h3 : pv 0 L ≠ 0 → ¬ ((dgs 10 (pv 0 L)).length : Int) + P < -60 → ¬ ((dgs 10 (pv 0 L)).length : Int) + P > 60 → Ev (fun k => single_ratio.f k (dgs 4294967296 (pv 0 L * 10 ^ P.toNat)) (dgs 4294967296 (10 ^ (-P).toNat))) R) :
    Ev (fun k => single_nearest.f k (strOfNums L) P) R := by
  have ht := TrimLeft_ev L hL.by (by omega)
  rw [trim_dcs L hL] at ht
  obtain ⟨V, hV⟩ : ∃ V, pv 0 L = V := ⟨_, rfl⟩
  have hvl := pv_lt L 0 hL
  rw [hV] at ht h0 h1 h2 h3 hvl
  rw [Nat.zero_add, Nat.one_mul] at hvl
  have hVb := bl_lt_ten hvl
  have hlen : (dgs 10 V).length ≤ L.length := (dgs_len_le (by omega)).mpr hvl
  have hsz : (strOfNums (dcs V)).size = (dgs 10 V).length := by rw [nums_size, dcs_length]
  have hnil : (strOfNums (dcs V)).toList = ([] : List UInt8) ↔ V = 0 := by
    rw [bytesOf_nil, bytesOf_nums (dcs_dd V).by, ← List.length_eq_zero_iff, dcs_length, dgs_len_zero (by omega)]
  have hw : wrap64 (((strOfNums (dcs V)).size : Int) + P) = ((dgs 10 V).length : Int) + P := by rw [hsz, wrap_in (by omega) (by omega)]
  refine Ev.congr (fun k => by unfold single_nearest.f; rfl) (ht.bind (f := fun k t202 => if t202.toList = ([] : List UInt8) then (single_nearest.j0 k t202 P true) else (single_nearest.j0 k t202 P (decide ((wrap64 ((t202.size : Int) + P)) < (-60))))) ?_)
  by_cases c0 : V = 0
  · rw [h0 c0]
    refine Ev.step (f := fun _ => some 0) (fun k => ?_) (Ev.now _)
    rw [if_pos (hnil.mpr c0), single_nearest.j0, if_pos rfl]
  · have hne : ¬ (strOfNums (dcs V)).toList = ([] : List UInt8) := fun e => c0 (hnil.mp e)
    by_cases c1 : ((dgs 10 V).length : Int) + P < -60
    · rw [h1 c0 c1]
      refine Ev.step (f := fun _ => some 0) (fun k => ?_) (Ev.now _)
      rw [if_neg hne, hw, decide_eq_true c1, single_nearest.j0, if_pos rfl]
    · by_cases c2 : ((dgs 10 V).length : Int) + P > 60
      · rw [h2 c0 c2]
        refine Ev.step (f := fun _ => some 2139095040) (fun k => ?_) (Ev.now _)
        rw [if_neg hne, hw, decide_eq_false c1, single_nearest.j0, if_neg (by decide), hw, if_pos c2]
      · have hr := h3 c0 c1 c2
        have hl1 := ten_loop1 V P R (by omega) (by omega) (by have := dgs_len_pos (b := 10) (n := V) (by omega) c0; omega) hr P.toNat 0 (by omega)
        rw [Nat.pow_zero, Nat.mul_one] at hl1
        have hl0 := digit_loop (dcs V) P R (dcs_dd V) (by rw [dcs_length]; omega) (by rw [pv_dcs]; exact hl1) (dcs V).length 0 (by omega) (by omega)
        rw [List.take_zero, pv_nil, dgs_zero] at hl0
        refine Ev.step (fun k => ?_) hl0
        rw [if_neg hne, hw, decide_eq_false c1, single_nearest.j0, if_neg (by decide), hw, if_neg c2, conv_some _ (by omega), Option.bind_some, bytesOf_nums (dcs_dd V).by, wd_one]
        rfl
end Go.Proofs.YteecekhfpfnepaaDoor.Tx
end

section
namespace Go.Proofs.YteecekhfpfnepaaDoor.Sg
open Go.RowKit Go.Proofs.YteecekhfpfnepaaDoor.PAll Go.Proofs.YteecekhfpfnepaaDoorW.PrintWords Go.Proofs.YteecekhfpfnepaaDoorW.PrintLast Go.Proofs.YteecekhfpfnepaaDoorW.PrintMore
set_option linter.unusedVariables false
set_option linter.unusedSimpArgs false
theorem length_loop : ∀ (d m k : Nat) (n : Int), m < 2 ^ d → d ≤ 64 → d + 1 ≤ k → 0 ≤ n → n + d ≤ 1000 → heraldref03_length.l0 k (m : Int) n = some (n + lenI (m : Int)) := by
  intro d
  induction d with
  | zero =>
    intro m k n hm hd hk hn0 hn1
    obtain ⟨k, rfl⟩ : ∃ j, k = j + 1 := ⟨k - 1, by omega⟩
    obtain rfl : m = 0 := by simpa using hm
    simp only [heraldref03_length.l0]
    rw [if_neg (by omega)]
    simp [lenI]
  | succ d ih =>
    intro m k n hm hd hk hn0 hn1
    obtain ⟨k, rfl⟩ : ∃ j, k = j + 1 := ⟨k - 1, by omega⟩
    simp only [heraldref03_length.l0]
    by_cases h0 : m = 0
    · subst h0
      rw [if_neg (by omega)]
      simp [lenI]
    · have h64 : 2 ^ (d + 1) ≤ 2 ^ 64 := Nat.pow_le_pow_right (by omega) hd
      have e64 : 2 ^ 64 = 18446744073709551616 := by decide
      have hh : m / 2 < 2 ^ d := by rw [Nat.pow_succ] at hm; omega
      rw [if_pos (by omega), Int.tdiv_eq_ediv_of_nonneg (by omega), u64_in (by omega) (by omega), wrap_in (by omega) (by omega), show (m : Int) / 2 = ((m / 2 : Nat) : Int) from by omega, ih (m / 2) k (n + 1) hh (by omega) (by omega) (by omega) (by omega)]
      have e1 : (2 : Int) ^ 1 = 2 := rfl
      have : lenI (m : Int) = 1 + lenI ((m : Int) / 2) := by
        by_cases h1 : m = 1
        · subst h1; decide
        · have := lenI_div (m : Int) 1 (by rw [e1]; omega)
          rw [e1] at this
          exact this
      rw [show (m : Int) / 2 = ((m / 2 : Nat) : Int) from by omega] at this
      exact congrArg some (by omega)
theorem length_some (m k : Nat) (hm : m < 18446744073709551616) (hk : 70 ≤ k) : heraldref03_length.f k (m : Int) = some (lenI (m : Int)) := by
  unfold heraldref03_length.f
  rw [length_loop 64 m k 0 hm (by omega) (by omega) (by omega) (by omega), Int.zero_add]
theorem ref_j4 (neg : Bool) (last : Int) (q k : Nat) (h1 : -149 ≤ last) (h2 : last ≤ 1000) (hq : q < 16777216) : heraldref03_near.j4 (k + 1) (sgn neg) last (q : Int) = some (fin (sgn neg) last q) := by
  have hs : sgn neg = 0 ∨ sgn neg = 2147483648 := by cases neg <;> simp [sgn]
  simp only [heraldref03_near.j4]
  unfold fin
  rw [wrap_in (by omega) (by omega)]
  by_cases c1 : q < 8388608
  · rw [if_pos (by omega), if_pos c1]
    congr 1
    omega
  · rw [if_neg (by omega), if_neg c1]
    by_cases c2 : last + 150 ≥ 255
    · rw [if_pos c2, if_pos c2]
      congr 1
      omega
    · rw [if_neg c2, if_neg c2, u64_in (by omega) (by omega)]
      congr 1
      omega
theorem ref_j3 (neg : Bool) (m : Nat) (e : Int) (h0 : m ≠ 0) (hm : m < 18446744073709551616) (he : e ≤ 400) (k : Nat) (hk : 2 ≤ k) : heraldref03_near.j3 k (sgn neg) (lastP m e) ((keptQ m e (lastP m e) : Nat) : Int) = some (NR neg m e) := by
  obtain ⟨k, rfl⟩ : ∃ j, k = j + 2 := ⟨k - 2, by omega⟩
  obtain ⟨h1, h2, h3⟩ := kept_ok m e h0
  have hl := log_lt m h0 hm
  have hlp : lastP m e = max (e + m.log2 - 23) (-149) := rfl
  simp only [heraldref03_near.j3]
  rw [← fin_eq neg m e h0]
  by_cases c3 : keptQ m e (lastP m e) = 16777216
  · rw [if_pos (by omega), if_pos c3, wrap_in (by omega) (by omega), c3, show IntKind.u64.wrap (Int.tdiv ((16777216 : Nat) : Int) 2) = ((8388608 : Nat) : Int) from by decide, ref_j4 neg _ _ k (by omega) (by omega) (by omega)]
  · rw [if_neg (by omega), if_neg c3, ref_j4 neg _ _ k (by omega) (by omega) (by omega)]
theorem ref_j2 (neg : Bool) (m : Nat) (e : Int) (h0 : m ≠ 0) (hm : m < 18446744073709551616) (he0 : -400 ≤ e) (he : e ≤ 400) (k : Nat) (hk : 3 ≤ k) : heraldref03_near.j2 k (m : Int) e (sgn neg) (lastP m e) = some (NR neg m e) := by
  obtain ⟨k, rfl⟩ : ∃ j, k = j + 1 := ⟨k - 1, by omega⟩
  have hj := ref_j3 neg m e h0 hm he k (by omega)
  have hl := log_lt m h0 hm
  have hb := (log_bounds m h0).2
  have hlp : lastP m e = max (e + m.log2 - 23) (-149) := rfl
  unfold keptQ at hj
  obtain ⟨L, hL⟩ : ∃ L, lastP m e = L := ⟨_, rfl⟩
  rw [hL] at hj hlp ⊢
  clear hL
  simp only [heraldref03_near.j2]
  rw [wrap_in (a := L - e) (by omega) (by omega)]
  by_cases hs : L ≤ e
  · obtain ⟨t, ht⟩ : ∃ t, (e - L).toNat = t := ⟨_, rfl⟩
    have h4 : m.log2 + 1 + t ≤ 24 := by omega
    have h3 : m * 2 ^ t < 2 ^ (m.log2 + 1) * 2 ^ t := Nat.mul_lt_mul_of_pos_right hb (pow_pos' t)
    rw [← Nat.pow_add] at h3
    have h5 : 2 ^ (m.log2 + 1 + t) ≤ 2 ^ 24 := Nat.pow_le_pow_right (by omega) h4
    have h6 : 2 ^ 24 = 16777216 := by decide
    rw [show (L - e).toNat = 0 by omega, rhe_zero, ht, Nat.shiftLeft_eq] at hj
    rw [if_pos (by omega), wrap_in (a := -(L - e)) (by omega) (by omega), show -(L - e) = (t : Int) from by omega, u64_in (by omega) (by omega), if_pos (by omega), shl_u m t (by omega) (by omega)]
    exact hj
  · obtain ⟨s, hs'⟩ : ∃ s, (L - e).toNat = s := ⟨_, rfl⟩
    have hse : L - e = (s : Int) := by omega
    rw [show (e - L).toNat = 0 by omega, Nat.shiftLeft_zero, hs'] at hj
    rw [hse, if_neg (by omega)]
    by_cases h64 : s ≤ 64
    · rw [if_pos (by omega), wrap_in (a := (s : Int) - 1) (by omega) (by omega), show (s : Int) - 1 = ((s - 1 : Nat) : Int) from by omega, u64_in (a := ((s - 1 : Nat) : Int)) (by omega) (by omega), shl_one (s - 1) (by omega)]
      have hph := pow_half s (by omega)
      have hp1 := pow_pos' (s - 1)
      by_cases h63 : s < 64
      · obtain ⟨hr1, hr2⟩ := rhe_lt m s hm (by omega)
        have hdm := Nat.div_add_mod m (2 ^ s)
        have hmul : m / 2 ^ s * 2 ^ s ≤ m := Nat.div_mul_le_self _ _
        have hmod : m % 2 ^ s < 2 ^ s := Nat.mod_lt _ (pow_pos' s)
        rw [if_pos (by omega), u64_in (a := (s : Int)) (by omega) (by omega), if_pos (by omega), if_pos (by omega), shr_u m s (by omega), shl_u _ s (by omega) (by omega)]
        unfold rhe at hj
        rw [Nat.mul_comm] at hdm
        obtain ⟨q, hq⟩ : ∃ q, m / 2 ^ s = q := ⟨_, rfl⟩
        obtain ⟨qs, hqs⟩ : ∃ qs, q * 2 ^ s = qs := ⟨_, rfl⟩
        obtain ⟨rr, hrr⟩ : ∃ rr, m % 2 ^ s = rr := ⟨_, rfl⟩
        obtain ⟨hh, hhh⟩ : ∃ hh, 2 ^ (s - 1) = hh := ⟨_, rfl⟩
        rw [hq] at hr2 hj hdm hmul ⊢
        rw [hqs] at hdm hmul ⊢
        rw [hrr] at hmod hj hdm
        rw [hhh] at hph hp1 ⊢
        rw [hph] at hmod hj
        rw [u64_in (a := (m : Int) - (qs : Int)) (by omega) (by omega), show (m : Int) - (qs : Int) = (rr : Int) from by omega, u64_in (a := (q : Int) + 1) (by omega) (by omega), Int.tmod_eq_emod_of_nonneg (by omega)]
        by_cases c1 : rr > hh
        · rw [if_pos (by omega)]
          rw [if_pos (.inl (by omega))] at hj
          exact hj
        · rw [if_neg (by omega)]
          by_cases c2 : rr = hh
          · rw [if_pos (by omega)]
            by_cases c3 : q % 2 = 1
            · rw [if_pos (by omega)]
              rw [if_pos (.inr ⟨by omega, c3⟩)] at hj
              exact hj
            · rw [if_neg (by omega)]
              rw [if_neg (by omega)] at hj
              exact hj
          · rw [if_neg (by omega)]
            rw [if_neg (by omega)] at hj
            exact hj
      · obtain rfl : s = 64 := by omega
        rw [if_neg (by omega)]
        have e1 : 2 ^ (64 - 1) = 9223372036854775808 := by decide
        have e2 : 2 ^ 64 = 18446744073709551616 := by decide
        have er : rhe m 64 = if 9223372036854775808 < m then 1 else 0 := by
          unfold rhe
          rw [e2, Nat.div_eq_of_lt hm, Nat.mod_eq_of_lt hm]
          by_cases c1 : 9223372036854775808 < m
          · rw [if_pos (.inl (by omega)), if_pos c1]
          · rw [if_neg (by omega), if_neg c1]
        rw [er] at hj
        rw [e1, if_pos (by omega)]
        by_cases c1 : 9223372036854775808 < m
        · rw [if_pos (by omega)]
          rw [if_pos c1] at hj
          exact hj
        · rw [if_neg (by omega)]
          rw [if_neg c1] at hj
          split
          · rw [if_neg (by decide)]; exact hj
          · exact hj
    · rw [if_neg (by omega)]
      rw [rhe_small (by
        have : 2 ^ 65 ≤ 2 ^ s := Nat.pow_le_pow_right (by omega) (by omega)
        have e2 : 2 ^ 65 = 36893488147419103232 := by decide
        omega)] at hj
      exact hj
theorem refnear_some (neg : Bool) (m : Nat) (e : Int) (hm : m < 18446744073709551616) (k : Nat) (hk : 80 ≤ k) : heraldref03_near.f k neg (m : Int) e = some (NR neg m e) := by
  have hf : heraldref03_near.f k neg (m : Int) e = heraldref03_near.j0 k (m : Int) e (sgn neg) := by
    unfold heraldref03_near.f; cases neg <;> rfl
  rw [hf]
  obtain ⟨k, rfl⟩ : ∃ j, k = j + 2 := ⟨k - 2, by omega⟩
  simp only [heraldref03_near.j0]
  by_cases h0 : m = 0
  · subst h0
    rw [if_pos (by rfl)]
    simp only [heraldref03_near.j1]
    rw [if_pos trivial, NR]
    simp [rung]
  · rw [if_neg (by omega)]
    simp only [heraldref03_near.j1]
    by_cases c1 : e < -400
    · rw [if_pos (by simp [c1]), NR, rung_small m e hm (by omega)]; simp
    · rw [if_neg (by simp; omega)]
      by_cases c2 : e > 400
      · have hs : sgn neg = 0 ∨ sgn neg = 2147483648 := by cases neg <;> simp [sgn]
        rw [if_pos c2, NR, rung_big m e h0 (by omega)]
        congr 1
        omega
      · have hl := log_lt m h0 hm
        have hlp : lastP m e = max (e + m.log2 - 23) (-149) := rfl
        rw [if_neg c2, length_some m k hm (by omega), lenI_log m h0]
        simp only [Option.bind_some]
        rw [wrap_in (a := e + _) (by omega) (by omega), wrap_in (by omega) (by omega)]
        have hj := ref_j2 neg m e h0 hm (by omega) (by omega) k (by omega)
        split
        · rw [show lastP m e = -149 from by omega] at hj; exact hj
        · rw [show lastP m e = e + ((m.log2 : Int) + 1) - 24 from by omega] at hj; exact hj
end Go.Proofs.YteecekhfpfnepaaDoor.Sg
end

section
namespace Go.Proofs.YteecekhfpfnepaaDoor.Tx
open Go.RowKit Go.Proofs.YteecekhfpfnepaaDoor.PAll Go.Proofs.YteecekhfpfnepaaDoor.Nums Go.Proofs.YteecekhfpfnepaaDoorW.PrintWords Go.Proofs.YteecekhfpfnepaaDoorW.PrintLast Go.Proofs.YteecekhfpfnepaaDoorW.PrintMore
open Go.Proofs.YteecekhfpfnepaaDoor.Sg (NR sgn refnear_some)
set_option linter.unusedVariables false
set_option linter.unusedSimpArgs false
/-- The digits of bytes. -/
def dvs (L : List Int) : List Int := L.map fun x => x - 48
theorem dvs_length (L : List Int) : (dvs L).length = L.length := by unfold dvs; simp
theorem ps_last (L X : Nat) : ps (L + 1) X = ps L (X / 10) ++ [48 + ((X % 10 : Nat) : Int)] := by
  unfold ps; rw [dn_succ, List.reverse_cons, List.map_append]; rfl
theorem ps_pv : ∀ (n : Nat) (L : List Int), L.length = n → Dd L → ps n (pv 0 L) = L := by
  intro n
  induction n with
  | zero =>
    intro L h _
    rw [List.length_eq_zero_iff.mp h]; rfl
  | succ n ih =>
    intro L h hd
    rcases List.eq_nil_or_concat L with e | ⟨A, c, e⟩
    · subst e; simp at h
    · rw [List.concat_eq_append] at e
      subst e
      have hA : A.length = n := by simpa using h
      have hc := hd c (by simp)
      have e1 : pv 0 (A ++ [c]) = 10 * pv 0 A + (c - 48).toNat := by rw [pv_append, pv_cons, pv_nil]
      rw [e1, ps_last, show (10 * pv 0 A + (c - 48).toNat) / 10 = pv 0 A by omega, show (10 * pv 0 A + (c - 48).toNat) % 10 = (c - 48).toNat by omega, ih A hA hd.left]
      congr 2
      omega
theorem dvs_rev (L : List Int) (h : Dd L) : (dvs L).reverse = dn 10 L.length (pv 0 L) := by
  have hp := ps_pv L.length L rfl h
  conv => lhs; rw [← hp]
  unfold dvs ps
  rw [List.map_map, ← List.map_reverse, List.reverse_reverse]
  conv => rhs; rw [← List.map_id (dn 10 L.length (pv 0 L))]
  apply List.map_congr_left
  intro x _
  simp only [Function.comp_apply, id_eq]
  omega
theorem pv_all : ∀ (L : List Int) (v : Nat), Dd L → (pv v L = 0 ↔ v = 0 ∧ (dvs L).all (fun x => x == 0) = true)
  | [], v, _ => by simp [pv_nil, dvs]
  | c :: L, v, h => by
    have hc := h c (by simp)
    have ih := pv_all L (10 * v + (c - 48).toNat) (fun x hx => h x (by simp [hx]))
    have e : (dvs (c :: L)).all (fun x => x == 0) = ((c - 48 == 0) && (dvs L).all (fun x => x == 0)) := rfl
    rw [pv_cons, ih, e, Bool.and_eq_true, beq_iff_eq]
    constructor
    · rintro ⟨h1, h2⟩; exact ⟨by omega, by omega, h2⟩
    · rintro ⟨h1, h2, h3⟩; exact ⟨by omega, h3⟩
theorem rev_loop (neg : Bool) (l : List Int) (e : Int) (R : Int) (hl : l.length ≤ 1000000) (hR : Ev (fun k => heraldref03_decimal.j1 k neg e l.reverse (l.all (fun x => x == 0)) (sgn neg)) R) : ∀ i : Nat, i ≤ l.length →
    Ev (fun k => heraldref03_decimal.l0 k neg l e (l.drop i).reverse ((l.drop i).all (fun x => x == 0)) ((i : Int) - 1)) R := by
  intro i
  induction i with
  | zero =>
    intro _
    rw [List.drop_zero]
    refine Ev.step (fun k => ?_) hR
    rw [heraldref03_decimal.l0, if_neg (by omega)]
    cases neg
    · rw [if_neg (show ¬ (false = true) by decide)]; rfl
    · rw [if_pos rfl]; rfl
  | succ i ih =>
    intro hi
    have h2 := ih (by omega)
    have hlt : i < l.length := by omega
    rw [List.drop_eq_getElem_cons hlt, List.reverse_cons, List.all_cons] at h2
    have e0 : ((i + 1 : Nat) : Int) - 1 = (i : Int) := by omega
    have e1 : wrap64 ((i : Int) - 1) = (i : Int) - 1 := wrap_in (by omega) (by omega)
    rw [e0]
    refine Ev.step (fun k => ?_) h2
    rw [heraldref03_decimal.l0, if_pos (by omega), if_pos (by omega), if_pos (by omega), if_pos (by rw [List.length_reverse, List.length_drop]; omega), Option.bind_some, rd_at l i hlt, e1]
    cases (l.drop (i + 1)).all (fun x => x == 0)
    · rw [if_neg (show ¬ (false = true) by decide), Bool.and_false]
    · rw [if_pos rfl, Bool.and_true]
theorem trim_loop (neg z : Bool) (e x10 : Int) (V : Nat) (R : Int) (hR : Ev (fun k => heraldref03_decimal.j3 k neg e (dgs 10 V) z x10) R) : ∀ n : Nat, n ≤ 1000000 → V < 10 ^ n →
    Ev (fun k => heraldref03_decimal.l1 k neg e (dn 10 n V) z x10) R := by
  intro n
  induction n with
  | zero =>
    intro _ h
    have : V = 0 := by simpa using h
    subst this
    rw [dgs_zero] at hR
    refine Ev.step (fun k => ?_) hR
    rw [heraldref03_decimal.l1]
    rfl
  | succ n ih =>
    intro hn h
    have hlen : ((dn 10 (n + 1) V).length : Int) = (n : Int) + 1 := by rw [dn_length]; rfl
    have hw : wrap64 ((n : Int) + 1 - 1) = (n : Int) := by rw [wrap_in (by omega) (by omega)]; omega
    have hrd := (Rw.dn (b := 10) (by omega) h).1 n
    by_cases c : V / 10 ^ n % 10 = 0
    · have hq : V / 10 ^ n < 10 := by
        rw [Nat.div_lt_iff_lt_mul (Nat.pow_pos (by omega)), ← Nat.pow_succ']; exact h
      have h0 : V / 10 ^ n = 0 := by
        generalize V / 10 ^ n = z at *
        omega
      have hlt : V < 10 ^ n := by
        rcases Nat.div_eq_zero_iff.mp h0 with g | g
        · have := Nat.pow_pos (n := n) (show 0 < 10 by omega); omega
        · exact g
      refine Ev.step (fun k => ?_) (ih (by omega) hlt)
      rw [heraldref03_decimal.l1, hlen, hw, if_pos (by omega), if_pos (by omega), if_pos (by omega), if_pos (by rw [hrd, c]; rfl), if_pos (by omega), Int.toNat_natCast, dn_take n (n + 1) V (by omega)]
    · have hV : (dgs 10 V).length = n + 1 := by
        have h1 : (dgs 10 V).length ≤ n + 1 := (dgs_len_le (by omega)).mpr h
        have h2 : n < (dgs 10 V).length := (dgs_lt_len (by omega)).mpr (by intro g; rw [g] at c; exact c rfl)
        omega
      have he : dn 10 (n + 1) V = dgs 10 V := by
        rw [dgs_dn (by omega) h, hV, Nat.sub_self]; simp
      refine Ev.step (fun k => ?_) hR
      rw [heraldref03_decimal.l1, hlen, hw, if_pos (by omega), if_pos (by omega), if_pos (by omega), if_neg (by rw [hrd]; omega), he]
theorem td_ten (X : Nat) (h : X ≠ 0) : ([0] : List Int) ++ dgs 10 X = dgs 10 (X * 10) := by
  rw [dgs_pos (n := X * 10) (by omega) (by omega), show X * 10 % 10 = 0 by omega, show X * 10 / 10 = X by omega]
  rfl
theorem td_one : ([1] : List Int) = dgs 10 1 := by
  rw [dgs_pos (by omega) (by omega), show 1 / 10 = 0 from rfl, dgs_zero]; rfl
theorem td_len (X : Nat) : (dgs 10 X).length ≤ bl X := by
  rw [dgs_len_le (by omega)]
  exact Nat.lt_of_lt_of_le (bl_le.mp (Nat.le_refl _)) (Nat.pow_le_pow_left (by omega) _)
theorem len_ten (X i : Nat) (h : X ≠ 0) : (dgs 10 (X * 10 ^ i)).length = (dgs 10 X).length + i := by
  induction i with
  | zero => rw [Nat.pow_zero, Nat.mul_one]; rfl
  | succ i ih =>
    have hne : X * 10 ^ i ≠ 0 := Nat.mul_ne_zero h (Nat.ne_of_gt (Nat.pow_pos (by omega)))
    have := td_ten (X * 10 ^ i) hne
    rw [Nat.pow_succ, ← Nat.mul_assoc, ← this, List.length_append, ih]
    simp; omega
theorem ten3 (neg : Bool) (e : Int) (A : Nat) (R : Int) (he0 : -1000000 ≤ e) (he1 : e ≤ 1000000) (hR : Ev (fun k => heraldref03_decimal.l4 k neg (dgs 10 A) (dgs 10 (10 ^ (-e).toNat)) 0) R) : ∀ (m i : Nat), m + i = (-e).toNat →
    Ev (fun k => heraldref03_decimal.l3 k neg e (dgs 10 A) (dgs 10 (10 ^ i)) (i : Int)) R := by
  have hw : wrap64 (-e) = -e := wrap_in (by omega) (by omega)
  intro m
  induction m with
  | zero =>
    intro i hi
    have e1 : i = (-e).toNat := by omega
    rw [← e1] at hR
    refine Ev.step (fun k => ?_) hR
    rw [heraldref03_decimal.l3, hw, if_neg (by omega)]
  | succ m ih =>
    intro i hi
    have h2 := ih (i + 1) (by omega)
    have hne : 10 ^ i ≠ 0 := Nat.ne_of_gt (Nat.pow_pos (by omega))
    have hl := len_ten 1 i (by omega)
    have h1 : (dgs 10 1).length = 1 := by rw [← td_one]; rfl
    rw [Nat.one_mul, h1] at hl
    rw [Nat.pow_succ, ← td_ten _ hne] at h2
    refine Ev.step (fun k => ?_) h2
    rw [heraldref03_decimal.l3, hw, if_pos (by omega), Option.bind_some, if_pos (by rw [hl]; simp; omega), next_k i (by omega)]
theorem ten2 (neg : Bool) (e : Int) (V : Nat) (R : Int) (hV : V ≠ 0) (hVl : (dgs 10 V).length ≤ 1000000) (he0 : -1000000 ≤ e) (he1 : e ≤ 1000000) (hR : Ev (fun k => heraldref03_decimal.l4 k neg (dgs 10 (V * 10 ^ e.toNat)) (dgs 10 (10 ^ (-e).toNat)) 0) R) : ∀ (m i : Nat), m + i = e.toNat →
    Ev (fun k => heraldref03_decimal.l2 k neg e (dgs 10 (V * 10 ^ i)) (dgs 10 1) (i : Int)) R := by
  intro m
  induction m with
  | zero =>
    intro i hi
    have e1 : i = e.toNat := by omega
    rw [e1]
    have h3 := ten3 neg e _ R he0 he1 hR (-e).toNat 0 (by omega)
    rw [Nat.pow_zero] at h3
    refine Ev.step (fun k => ?_) h3
    rw [heraldref03_decimal.l2, if_neg (by omega)]
    rfl
  | succ m ih =>
    intro i hi
    have h2 := ih (i + 1) (by omega)
    have hne : V * 10 ^ i ≠ 0 := Nat.mul_ne_zero hV (Nat.ne_of_gt (Nat.pow_pos (by omega)))
    have hl := len_ten V i hV
    rw [Nat.pow_succ, ← Nat.mul_assoc, ← td_ten _ hne] at h2
    refine Ev.step (fun k => ?_) h2
    rw [heraldref03_decimal.l2, if_pos (by omega), Option.bind_some, if_pos (by rw [hl]; simp; omega), next_k i (by omega)]
theorem decimal_head (neg : Bool) (L : List Int) (e : Int) (hL : Dd L) (hl : L.length ≤ 240) (he0 : -1000000000 ≤ e) (he1 : e ≤ 1000000000) (R : Int)
    (h0 : pv 0 L = 0 → R = sgn neg) (h1 : pv 0 L ≠ 0 → ((dgs 10 (pv 0 L)).length : Int) + e < -60 → R = sgn neg) (h2 : pv 0 L ≠ 0 → ((dgs 10 (pv 0 L)).length : Int) + e > 60 → R = sgn neg + 2139095040)
    (h3 : pv 0 L ≠ 0 → ¬ ((dgs 10 (pv 0 L)).length : Int) + e < -60 → ¬ ((dgs 10 (pv 0 L)).length : Int) + e > 60 → Ev (fun k => heraldref03_decimal.l4 k neg (dgs 10 (pv 0 L * 10 ^ e.toNat)) (dgs 10 (10 ^ (-e).toNat)) 0) R) :
    Ev (fun k => heraldref03_decimal.f k neg (dvs L) e) R := by
  have hvl := pv_lt L 0 hL
  have hall := pv_all L 0 hL
  have hrev := dvs_rev L hL
  obtain ⟨V, hV⟩ : ∃ V, pv 0 L = V := ⟨_, rfl⟩
  rw [hV] at h0 h1 h2 h3 hvl hall hrev
  rw [Nat.zero_add, Nat.one_mul] at hvl
  have hlen : (dgs 10 V).length ≤ L.length := (dgs_len_le (by omega)).mpr hvl
  have hz : (dvs L).all (fun x => x == 0) = decide (V = 0) := by
    by_cases c : V = 0
    · rw [decide_eq_true c]; exact (hall.mp c).2
    · rw [decide_eq_false c, Bool.eq_false_iff]; exact fun h => c (hall.mpr ⟨rfl, h⟩)
  have hw : wrap64 (((dgs 10 V).length : Int) + e) = ((dgs 10 V).length : Int) + e := wrap_in (by omega) (by omega)
  have j3 : Ev (fun k => heraldref03_decimal.j3 k neg e (dgs 10 V) (decide (V = 0)) (sgn neg)) R := by
    by_cases c0 : V = 0
    · have : Ev (fun k => heraldref03_decimal.j4 k neg e (dgs 10 V) (sgn neg) true) R := by
        rw [h0 c0]
        refine Ev.step (fun k => ?_) (Ev.now _)
        rw [heraldref03_decimal.j4, if_pos rfl]
      refine Ev.step (fun k => ?_) this
      rw [decide_eq_true c0, heraldref03_decimal.j3, if_pos rfl]
    · have : Ev (fun k => heraldref03_decimal.j4 k neg e (dgs 10 V) (sgn neg) (decide (((dgs 10 V).length : Int) + e < -60))) R := by
        by_cases c1 : ((dgs 10 V).length : Int) + e < -60
        · rw [h1 c0 c1]
          refine Ev.step (fun k => ?_) (Ev.now _)
          rw [decide_eq_true c1, heraldref03_decimal.j4, if_pos rfl]
        · by_cases c2 : ((dgs 10 V).length : Int) + e > 60
          · rw [h2 c0 c2]
            refine Ev.step (fun k => ?_) (Ev.now _)
            rw [decide_eq_false c1, heraldref03_decimal.j4, if_neg (show ¬ (false = true) by decide), hw, if_pos c2]
            congr 1
            cases neg
            · show ((0 : Int) + 2139095040) % 4294967296 = 0 + 2139095040
              omega
            · show ((2147483648 : Int) + 2139095040) % 4294967296 = 2147483648 + 2139095040
              omega
          · have hr := h3 c0 c1 c2
            have hl2 := ten2 neg e V R c0 (by omega) (by omega) (by omega) hr e.toNat 0 (by omega)
            rw [Nat.pow_zero, Nat.mul_one, ← td_one] at hl2
            refine Ev.step (fun k => ?_) hl2
            rw [decide_eq_false c1, heraldref03_decimal.j4, if_neg (show ¬ (false = true) by decide), hw, if_neg c2]
            rfl
      refine Ev.step (fun k => ?_) this
      rw [decide_eq_false c0, heraldref03_decimal.j3, if_neg (show ¬ (false = true) by decide), hw]
  have l1 := trim_loop neg (decide (V = 0)) e (sgn neg) V R j3 L.length (by omega) hvl
  have j1 : Ev (fun k => heraldref03_decimal.j1 k neg e (dvs L).reverse ((dvs L).all (fun x => x == 0)) (sgn neg)) R := by
    rw [hrev, hz]
    refine Ev.step (fun k => ?_) l1
    rw [heraldref03_decimal.j1]
  have := rev_loop neg (dvs L) e R (by rw [dvs_length]; omega) j1 (dvs L).length (by omega)
  rw [List.drop_length] at this
  refine Ev.congr (fun k => ?_) this
  unfold heraldref03_decimal.f
  rw [wrap_in (by rw [dvs_length]; omega) (by rw [dvs_length]; omega)]
  rfl
theorem bl_two (X : Nat) (h : X ≠ 0) : bl (X * 2) = bl X + 1 := by
  have := bl_shift X 1 h
  rwa [Nat.pow_one] at this
theorem le_of_bl {X Y n : Nat} (hY : Y ≠ 0) (h : bl X + n + 1 ≤ bl Y) : X * 2 ^ n ≤ Y := by
  obtain ⟨y1, _, _⟩ := bl_bounds hY
  have hx : X < 2 ^ bl X := bl_le.mp (Nat.le_refl _)
  have h1 : X * 2 ^ n < 2 ^ bl X * 2 ^ n := Nat.mul_lt_mul_of_pos_right hx (Nat.pow_pos (by omega))
  rw [← Nat.pow_add] at h1
  have h2 : 2 ^ (bl X + n) ≤ 2 ^ (bl Y - 1) := Nat.pow_le_pow_right (by omega) (by omega)
  omega
theorem l4_ev (neg : Bool) (B : Nat) (hB : bl B ≤ 4000) (hB0 : B ≠ 0) : ∀ (m A : Nat) (pw : Int), A ≠ 0 → bl A ≤ 5000 → bl B + 26 ≤ bl A + m → -1000000 ≤ pw - m → pw ≤ 1000000 →
    ∃ a, a ≤ m ∧ B * 2 ^ 25 ≤ A * 2 ^ a ∧ bl (A * 2 ^ a) ≤ 5000 ∧ ∀ R, Ev (fun k => heraldref03_decimal.l5 k neg (dgs 10 (A * 2 ^ a)) (dgs 10 B) (pw - a)) R → Ev (fun k => heraldref03_decimal.l4 k neg (dgs 10 A) (dgs 10 B) pw) R := by
  have hBs := bl_shift B 25 hB0
  have hTB := td_len (B * 2 ^ 25)
  have stop : ∀ (A : Nat) (pw : Int) (R : Int), bl A ≤ 5000 → B * 2 ^ 25 ≤ A → Ev (fun k => heraldref03_decimal.l5 k neg (dgs 10 A) (dgs 10 B) pw) R → Ev (fun k => heraldref03_decimal.l4 k neg (dgs 10 A) (dgs 10 B) pw) R := by
    intro A pw R hA h hR
    have hq := below_ev (dgs 10 A) A B 25 (Rw.dgs (by omega) A) (by have := td_len A; omega) (by omega) (by omega)
    rw [decide_eq_false (by omega)] at hq
    have := hq.bind (f := fun k t301 => (if t301 = true then ((heraldref03_times.f k (dgs 10 A) 2).bind fun t302 => (heraldref03_decimal.l4 k neg t302 (dgs 10 B) (wrap64 (pw - 1)))) else (heraldref03_decimal.l5 k neg (dgs 10 A) (dgs 10 B) pw))) (by
      refine Ev.congr (fun k => ?_) hR
      rw [if_neg (show ¬ (false = true) by decide)])
    refine Ev.step (fun k => ?_) this
    rw [heraldref03_decimal.l4]
    rfl
  intro m
  induction m with
  | zero =>
    intro A pw hA0 hA h h1 h2
    have hle : B * 2 ^ 25 ≤ A := le_of_bl hA0 (by omega)
    refine ⟨0, by omega, by rw [Nat.pow_zero, Nat.mul_one]; exact hle, by rw [Nat.pow_zero, Nat.mul_one]; exact hA, ?_⟩
    intro R hR
    rw [Nat.pow_zero, Nat.mul_one, show pw - ((0 : Nat) : Int) = pw by omega] at hR
    exact stop A pw R hA hle hR
  | succ m ih =>
    intro A pw hA0 hA h h1 h2
    by_cases c : A < B * 2 ^ 25
    · have hb2 := bl_two A hA0
      have hmono : bl (A * 2) ≤ bl (B * 2 ^ 26) := bl_mono (by rw [show (2 : Nat) ^ 26 = 2 ^ 25 * 2 from rfl, ← Nat.mul_assoc]; omega)
      have hB26 := bl_shift B 26 hB0
      obtain ⟨a, a1, a2, a3, a4⟩ := ih (A * 2) (pw - 1) (by omega) (by omega) (by omega) (by omega) (by omega)
      have ea : A * 2 * 2 ^ a = A * 2 ^ (a + 1) := by rw [Nat.pow_succ', Nat.mul_assoc]
      rw [ea] at a2 a3 a4
      refine ⟨a + 1, by omega, a2, a3, ?_⟩
      intro R hR
      rw [show pw - ((a + 1 : Nat) : Int) = pw - 1 - (a : Int) by omega] at hR
      have h4 := a4 R hR
      have hq := below_ev (dgs 10 A) A B 25 (Rw.dgs (by omega) A) (by have := td_len A; omega) (by omega) (by omega)
      rw [decide_eq_true c] at hq
      have ht := rtimes_ev A 2 (by omega) (by omega) (by have := td_len A; omega)
      have := hq.bind (f := fun k t301 => (if t301 = true then ((heraldref03_times.f k (dgs 10 A) 2).bind fun t302 => (heraldref03_decimal.l4 k neg t302 (dgs 10 B) (wrap64 (pw - 1)))) else (heraldref03_decimal.l5 k neg (dgs 10 A) (dgs 10 B) pw))) (by
        have := ht.bind (f := fun k t302 => heraldref03_decimal.l4 k neg t302 (dgs 10 B) (wrap64 (pw - 1))) (by
          refine Ev.congr (fun k => ?_) h4
          rw [wrap_in (by omega) (by omega)])
        refine Ev.congr (fun k => ?_) this
        rw [if_pos rfl]
        rfl)
      refine Ev.step (fun k => ?_) this
      rw [heraldref03_decimal.l4]
      rfl
    · refine ⟨0, by omega, by rw [Nat.pow_zero, Nat.mul_one]; omega, by rw [Nat.pow_zero, Nat.mul_one]; exact hA, ?_⟩
      intro R hR
      rw [Nat.pow_zero, Nat.mul_one, show pw - ((0 : Nat) : Int) = pw by omega] at hR
      exact stop A pw R hA (by omega) hR
theorem l5_end (neg : Bool) (A B : Nat) (pw : Int) (hA : bl A ≤ 5000) (hB : bl B ≤ 5000) (hB0 : B ≠ 0) (h1 : B * 2 ^ 25 ≤ A) (h2 : A < B * 2 ^ 26) (hp0 : -1000000 ≤ pw) (hp1 : pw ≤ 1000000) : Ev (fun k => heraldref03_decimal.l5 k neg (dgs 10 A) (dgs 10 B) pw) (NR neg (stk A B) (pw - 1)) := by
  have hBs := bl_shift B 26 hB0
  have hTB := td_len (B * 2 ^ 26)
  have hTA := td_len A
  have hq := below_ev (dgs 10 A) A B 26 (Rw.dgs (by omega) A) (by omega) (by omega) (by omega)
  rw [decide_eq_true h2] at hq
  have hqd : A / B < 67108864 := by
    rw [Nat.div_lt_iff_lt_mul (by omega), Nat.mul_comm]; exact h2
  have hd := divide_ev A B hB0 (by omega) (by omega) (by omega)
  obtain ⟨q, hqq⟩ : ∃ q, A / B = q := ⟨_, rfl⟩
  have hs : stk A B = 2 * q + if A % B = 0 then 0 else 1 := by unfold stk; rw [hqq]
  rw [hqq] at hd hqd
  have e1 : IntKind.u64.wrap (2 * (q : Int)) = ((2 * q : Nat) : Int) := by rw [u64_in (by omega) (by omega)]; omega
  have e2 : IntKind.u64.wrap (((2 * q : Nat) : Int) + 1) = ((2 * q + 1 : Nat) : Int) := by rw [u64_in (by omega) (by omega)]; omega
  have e3 : wrap64 (pw - 1) = pw - 1 := wrap_in (by omega) (by omega)
  have hn : ∀ m : Nat, m < 1000000000 → Ev (fun k => (heraldref03_near.f k neg (m : Int) (pw - 1)).bind fun t => some t) (NR neg m (pw - 1)) := by
    intro m hm
    refine ⟨80, fun k hk => ?_⟩
    show (heraldref03_near.f k neg (m : Int) (pw - 1)).bind (fun t => some t) = _
    rw [refnear_some neg m (pw - 1) (by omega) k hk, Option.bind_some]
  have := hq.bind (f := fun k t305 => (if t305 = true then ((heraldref03_divide.f k (dgs 10 A) (dgs 10 B)).bind fun bt309 => (if bt309.2 = true then ((heraldref03_near.f k neg (IntKind.u64.wrap ((IntKind.u64.wrap (2 * bt309.1)) + 1)) (wrap64 (pw - 1))).bind fun t311 => (some t311)) else ((heraldref03_near.f k neg (IntKind.u64.wrap (2 * bt309.1)) (wrap64 (pw - 1))).bind fun t312 => (some t312)))) else ((heraldref03_times.f k (dgs 10 B) 2).bind fun t306 => (heraldref03_decimal.l5 k neg (dgs 10 A) t306 (wrap64 (pw + 1)))))) (r := NR neg (stk A B) (pw - 1)) (by
    have := hd.bind (f := fun k bt309 => (if bt309.2 = true then ((heraldref03_near.f k neg (IntKind.u64.wrap ((IntKind.u64.wrap (2 * bt309.1)) + 1)) (wrap64 (pw - 1))).bind fun t311 => (some t311)) else ((heraldref03_near.f k neg (IntKind.u64.wrap (2 * bt309.1)) (wrap64 (pw - 1))).bind fun t312 => (some t312)))) (r := NR neg (stk A B) (pw - 1)) (by
      by_cases c : A % B = 0
      · rw [if_pos c, Nat.add_zero] at hs
        rw [hs]
        refine Ev.congr (fun k => ?_) (hn (2 * q) (by omega))
        rw [decide_eq_false (fun h => h c), if_neg (show ¬ (false = true) by decide), e1, e3]
      · rw [if_neg c] at hs
        rw [hs]
        refine Ev.congr (fun k => ?_) (hn (2 * q + 1) (by omega))
        rw [decide_eq_true c, if_pos rfl, e1, e2, e3])
    refine Ev.congr (fun k => ?_) this
    rw [if_pos rfl])
  refine Ev.step (fun k => ?_) this
  rw [heraldref03_decimal.l5]
  rfl
theorem l5_ev (neg : Bool) (A : Nat) (hA : bl A ≤ 5000) : ∀ (m B : Nat) (pw : Int), B ≠ 0 → bl B ≤ 5000 → B * 2 ^ 25 ≤ A → bl A + 1 ≤ bl B + 26 + m → -1000000 ≤ pw → pw + m ≤ 1000000 →
    ∃ b, b ≤ m ∧ B * 2 ^ b * 2 ^ 25 ≤ A ∧ A < B * 2 ^ b * 2 ^ 26 ∧ Ev (fun k => heraldref03_decimal.l5 k neg (dgs 10 A) (dgs 10 B) pw) (NR neg (stk A (B * 2 ^ b)) (pw + b - 1)) := by
  intro m
  induction m with
  | zero =>
    intro B pw hB0 hB h1 h2 h3 h4
    have hlt : A < B * 2 ^ 26 := by
      obtain ⟨b1, b2, b3⟩ := bl_bounds hB0
      have hx : A < 2 ^ bl A := bl_le.mp (Nat.le_refl _)
      have g1 : 2 ^ bl A ≤ 2 ^ (bl B - 1 + 26) := Nat.pow_le_pow_right (by omega) (by omega)
      rw [Nat.pow_add] at g1
      have g2 := Nat.mul_le_mul_right (2 ^ 26) b1
      omega
    refine ⟨0, by omega, ?_, ?_, ?_⟩
    · rw [Nat.pow_zero, Nat.mul_one]; exact h1
    · rw [Nat.pow_zero, Nat.mul_one]; exact hlt
    · rw [Nat.pow_zero, Nat.mul_one, show pw + ((0 : Nat) : Int) - 1 = pw - 1 by omega]
      exact l5_end neg A B pw hA hB hB0 h1 hlt h3 (by omega)
  | succ m ih =>
    intro B pw hB0 hB h1 h2 h3 h4
    by_cases c : A < B * 2 ^ 26
    · refine ⟨0, by omega, ?_, ?_, ?_⟩
      · rw [Nat.pow_zero, Nat.mul_one]; exact h1
      · rw [Nat.pow_zero, Nat.mul_one]; exact c
      · rw [Nat.pow_zero, Nat.mul_one, show pw + ((0 : Nat) : Int) - 1 = pw - 1 by omega]
        exact l5_end neg A B pw hA hB hB0 h1 c h3 (by omega)
    · have hb2 := bl_two B hB0
      have hBs := bl_shift B 26 hB0
      have hTB := td_len (B * 2 ^ 26)
      have hTA := td_len A
      have hle : B * 2 ≤ A := by
        have : B * 2 ≤ B * 2 ^ 26 := Nat.mul_le_mul_left _ (by decide)
        omega
      have hbl2 := bl_mono hle
      obtain ⟨b, b1, b2, b3, b4⟩ := ih (B * 2) (pw + 1) (by omega) (by omega) (by rw [Nat.mul_assoc]; exact Nat.le_of_not_lt c) (by omega) (by omega) (by omega)
      have eb : B * 2 * 2 ^ b = B * 2 ^ (b + 1) := by rw [Nat.pow_succ', Nat.mul_assoc]
      rw [eb] at b2 b3 b4
      refine ⟨b + 1, by omega, b2, b3, ?_⟩
      rw [show pw + ((b + 1 : Nat) : Int) - 1 = pw + 1 + (b : Int) - 1 by omega]
      have hq := below_ev (dgs 10 A) A B 26 (Rw.dgs (by omega) A) (by omega) (by omega) (by omega)
      rw [decide_eq_false c] at hq
      have ht := rtimes_ev B 2 (by omega) (by omega) (by have := td_len B; omega)
      have := hq.bind (f := fun k t305 => (if t305 = true then ((heraldref03_divide.f k (dgs 10 A) (dgs 10 B)).bind fun bt309 => (if bt309.2 = true then ((heraldref03_near.f k neg (IntKind.u64.wrap ((IntKind.u64.wrap (2 * bt309.1)) + 1)) (wrap64 (pw - 1))).bind fun t311 => (some t311)) else ((heraldref03_near.f k neg (IntKind.u64.wrap (2 * bt309.1)) (wrap64 (pw - 1))).bind fun t312 => (some t312)))) else ((heraldref03_times.f k (dgs 10 B) 2).bind fun t306 => (heraldref03_decimal.l5 k neg (dgs 10 A) t306 (wrap64 (pw + 1)))))) (by
        have := ht.bind (f := fun k t306 => heraldref03_decimal.l5 k neg (dgs 10 A) t306 (wrap64 (pw + 1))) (by
          refine Ev.congr (fun k => ?_) b4
          rw [wrap_in (by omega) (by omega)])
        refine Ev.congr (fun k => ?_) this
        rw [if_neg (show ¬ (false = true) by decide)]
        rfl)
      refine Ev.step (fun k => ?_) this
      rw [heraldref03_decimal.l5]
      rfl
/-- A quotient of digits: scaled till it has 26 binary digits, and rounded. -/
theorem scaled_ev (neg : Bool) (n d : Nat) (hn : n ≠ 0) (hd : d ≠ 0) (bn : bl n ≤ 3000) (bd : bl d ≤ 3000) : ∃ a b : Nat, d * 2 ^ b * 2 ^ 25 ≤ n * 2 ^ a ∧ n * 2 ^ a < d * 2 ^ b * 2 ^ 26 ∧
    Ev (fun k => heraldref03_decimal.l4 k neg (dgs 10 n) (dgs 10 d) 0) (NR neg (stk (n * 2 ^ a) (d * 2 ^ b)) ((b : Int) - a - 1)) := by
  obtain ⟨a, a1, a2, a3, a4⟩ := l4_ev neg d (by omega) hd 4000 n 0 hn (by omega) (by omega) (by omega) (by omega)
  obtain ⟨b, b1, b2, b3, b4⟩ := l5_ev neg (n * 2 ^ a) a3 6000 d (0 - (a : Int)) hd (by omega) a2 (by omega) (by omega) (by omega)
  refine ⟨a, b, b2, b3, ?_⟩
  rw [show (b : Int) - a - 1 = 0 - (a : Int) + b - 1 by omega]
  exact a4 _ b4
end Go.Proofs.YteecekhfpfnepaaDoor.Tx
end

section
namespace Go.Proofs.YteecekhfpfnepaaDoor.Tx
open Go.RowKit Go.Proofs.YteecekhfpfnepaaDoor.PAll Go.Proofs.YteecekhfpfnepaaDoor.Nums Go.Proofs.YteecekhfpfnepaaDoorW.PrintWords Go.Proofs.YteecekhfpfnepaaDoorW.PrintLast Go.Proofs.YteecekhfpfnepaaDoorW.PrintMore
set_option linter.unusedVariables false
set_option linter.unusedSimpArgs false
/-- The exponent as the reference reads it. -/
def rf (v : Nat) (l : List Int) : Nat := l.foldl (fun v c => if v < 100000 then 10 * v + (c - 48).toNat else v) v
theorem rf_cons (v : Nat) (c : Int) (l : List Int) : rf v (c :: l) = rf (if v < 100000 then 10 * v + (c - 48).toNat else v) l := rfl
theorem rf_pv : ∀ (l : List Int) (r u : Nat), Dd l → ((r = u ∧ u < 1000000) ∨ (100000 ≤ r ∧ r < 1000000 ∧ 100000 ≤ u)) → ((rf r l = pv u l ∧ pv u l < 1000000) ∨ (100000 ≤ rf r l ∧ rf r l < 1000000 ∧ 100000 ≤ pv u l))
  | [], r, u, _, h => h
  | c :: l, r, u, hd, h => by
    have hc := hd c (by simp)
    have hl : Dd l := fun x hx => hd x (by simp [hx])
    rw [rf_cons, pv_cons]
    apply rf_pv l _ _ hl
    by_cases g : r < 100000
    · rw [if_pos g]
      rcases h with ⟨h1, h2⟩ | ⟨h1, h2, h3⟩
      · left; omega
      · omega
    · rw [if_neg g]
      right
      rcases h with ⟨h1, h2⟩ | ⟨h1, h2, h3⟩ <;> omega
theorem next_z (i : Nat) (h : i < 1000000000000) : wrap64 ((i : Int) + 1) = ((i + 1 : Nat) : Int) := next_k i h
def tY (s : ByteArray) (neg : Bool) (l : List Int) (beh : Int) (g : Bool) (q : Nat) : Bool × List Int × Int × Int × Int :=
  if dE s q = q then (neg, l, 0, 0, (q : Int)) else if dE s q < s.size then (neg, l, 0, 0, ((dE s q : Nat) : Int)) else (neg, l, beh, powV g (rf 0 (seg s q (dE s q))), -1)
theorem scan_l2 (s : ByteArray) (neg : Bool) (l : List Int) (beh : Int) (q : Nat) (g : Bool) (hs : s.size ≤ 1000000) : ∀ (d j v : Nat), d = s.size - j → j ≤ s.size → v < 1000000 →
    Ev (fun k => heraldref03_scan.l2 k s (j : Int) neg l beh (v : Int) (q : Int) g)
      (if dE s j = q then (neg, l, 0, 0, (q : Int)) else if dE s j < s.size then (neg, l, 0, 0, ((dE s j : Nat) : Int)) else (neg, l, beh, powV g (rf v (seg s j (dE s j))), -1)) := by
  have fin : ∀ j v : Nat, ¬ isD s j → v < 1000000 → Ev (fun k => heraldref03_scan.j12 k s (j : Int) neg l beh (v : Int) (q : Int) g false)
      (if dE s j = q then (neg, l, 0, 0, (q : Int)) else if dE s j < s.size then (neg, l, 0, 0, ((dE s j : Nat) : Int)) else (neg, l, beh, powV g (rf v (seg s j (dE s j))), -1)) := by
    intro j v hn hv
    rw [dE_no hn, seg_self]
    refine Ev.step (fun k => ?_) (Ev.now _)
    rw [heraldref03_scan.j12, if_neg (show ¬ (false = true) by decide)]
    by_cases c : j = q
    · rw [if_pos (by omega), if_pos c, c]
    · rw [if_neg (by omega), if_neg c]
      by_cases c1 : j < s.size
      · rw [if_pos c1]
        cases g
        · rw [if_neg (show ¬ (false = true) by decide), if_pos (by omega)]
        · rw [if_pos rfl, if_pos (by omega)]
      · rw [if_neg c1]
        cases g
        · rw [if_neg (show ¬ (false = true) by decide), if_neg (by omega)]; rfl
        · rw [if_pos rfl, if_neg (by omega), wrap_in (by omega) (by omega)]; rfl
  intro d
  induction d with
  | zero =>
    intro j v h h1 hv
    have hn : ¬ isD s j := fun x => by have := x.1; omega
    refine Ev.step (fun k => ?_) (fin j v hn hv)
    rw [heraldref03_scan.l2, if_neg (by omega)]
  | succ d ih =>
    intro j v h h1 hv
    by_cases c : isD s j
    · obtain ⟨c1, c2, c3⟩ := c
      have hle := dE_le s (j + 1)
      have hz := dE_size s (j + 1) (by omega)
      rw [dE_yes ⟨c1, c2, c3⟩]
      have hseg := seg_cons s j (dE s (j + 1)) (by omega) hz
      rw [hseg, rf_cons]
      have e2 : (bt s (j : Int) - 48) % 256 = (((bt s (j : Int) - 48).toNat : Nat) : Int) := by omega
      have main : Ev (fun k => heraldref03_scan.j12 k s (j : Int) neg l beh (v : Int) (q : Int) g true)
          (if dE s (j + 1) = q then (neg, l, 0, 0, (q : Int)) else if dE s (j + 1) < s.size then (neg, l, 0, 0, ((dE s (j + 1) : Nat) : Int)) else (neg, l, beh, powV g (rf (if v < 100000 then 10 * v + (bt s (j : Int) - 48).toNat else v) (seg s (j + 1) (dE s (j + 1)))), -1)) := by
        have hi := ih (j + 1) (if v < 100000 then 10 * v + (bt s (j : Int) - 48).toNat else v) (by omega) (by omega) (by split <;> omega)
        refine Ev.step (fun k => ?_) hi
        rw [heraldref03_scan.j12, if_pos rfl, next_z j (by omega)]
        by_cases cv : v < 100000
        · rw [if_pos (show (v : Int) < 100000 by omega), if_pos (by omega), if_pos (by omega), e2, if_pos cv, wrap_in (a := 10 * (v : Int)) (by omega) (by omega), wrap_in (by omega) (by omega)]
          rw [show 10 * (v : Int) + (((bt s (j : Int) - 48).toNat : Nat) : Int) = ((10 * v + (bt s (j : Int) - 48).toNat : Nat) : Int) by omega]
        · rw [if_neg (show ¬ (v : Int) < 100000 by omega), if_neg cv]
      refine Ev.step (fun k => ?_) main
      rw [heraldref03_scan.l2, if_pos (by omega), if_pos (by omega), if_pos c2, decide_eq_true c3]
    · refine Ev.step (fun k => ?_) (fin j v c hv)
      rw [heraldref03_scan.l2]
      by_cases c1 : j < s.size
      · rw [if_pos (by omega), if_pos (by omega)]
        by_cases c2 : bt s (j : Int) ≥ 48
        · rw [if_pos c2, decide_eq_false (fun h => c ⟨c1, c2, h⟩)]
        · rw [if_neg c2]
      · rw [if_neg (by omega)]
theorem scan_Y (s : ByteArray) (neg : Bool) (l : List Int) (beh : Int) (q : Nat) (g : Bool) (hs : s.size ≤ 1000000) (hq : q ≤ s.size) : Ev (fun k => heraldref03_scan.j10 k s (q : Int) neg l beh 0 g) (tY s neg l beh g q) := by
  have h := scan_l2 s neg l beh q g hs _ q 0 rfl hq (by omega)
  refine Ev.step (fun k => ?_) h
  rw [heraldref03_scan.j10]
  rfl
def tX (s : ByteArray) (neg : Bool) (l : List Int) (beh : Int) (e2 : Nat) : Bool × List Int × Int × Int × Int :=
  if e2 < s.size ∧ (bt s (e2 : Int) = 101 ∨ bt s (e2 : Int) = 69) then
    tY s neg l beh (decide (e2 + 1 < s.size ∧ bt s ((e2 + 1 : Nat) : Int) = 45)) (if e2 + 1 < s.size ∧ (bt s ((e2 + 1 : Nat) : Int) = 43 ∨ bt s ((e2 + 1 : Nat) : Int) = 45) then e2 + 2 else e2 + 1)
  else if e2 < s.size then (neg, l, 0, 0, (e2 : Int)) else (neg, l, beh, 0, -1)
theorem bt_beq (s : ByteArray) (i : Nat) (a : Int) : (bt s (i : Int) == a) = decide (bt s (i : Int) = a) := by
  by_cases h : bt s (i : Int) = a
  · rw [decide_eq_true h, beq_iff_eq]; exact h
  · rw [decide_eq_false h, beq_eq_false_iff_ne]; exact h
theorem scan_X (s : ByteArray) (neg : Bool) (l : List Int) (beh : Int) (e2 : Nat) (hs : s.size ≤ 1000000) (he : e2 ≤ s.size) : Ev (fun k => heraldref03_scan.j6 k s (e2 : Int) neg l beh 0) (tX s neg l beh e2) := by
  unfold tX
  by_cases c : e2 < s.size ∧ (bt s (e2 : Int) = 101 ∨ bt s (e2 : Int) = 69)
  · rw [if_pos c]
    obtain ⟨q, hq⟩ : ∃ q, (if e2 + 1 < s.size ∧ (bt s ((e2 + 1 : Nat) : Int) = 43 ∨ bt s ((e2 + 1 : Nat) : Int) = 45) then e2 + 2 else e2 + 1) = q := ⟨_, rfl⟩
    obtain ⟨g, hg⟩ : ∃ g, decide (e2 + 1 < s.size ∧ bt s ((e2 + 1 : Nat) : Int) = 45) = g := ⟨_, rfl⟩
    rw [hq, hg]
    have hql : q ≤ s.size := by
      rw [← hq]
      split
      · omega
      · have := c.1; omega
    have y := scan_Y s neg l beh q g hs hql
    have j9 : ∀ b : Bool, b = decide (e2 + 1 < s.size ∧ (bt s ((e2 + 1 : Nat) : Int) = 43 ∨ bt s ((e2 + 1 : Nat) : Int) = 45)) → Ev (fun k => heraldref03_scan.j9 k s ((e2 + 1 : Nat) : Int) neg l beh 0 g b) (tY s neg l beh g q) := by
      intro b hb
      refine Ev.step (fun k => ?_) y
      by_cases cs : e2 + 1 < s.size ∧ (bt s ((e2 + 1 : Nat) : Int) = 43 ∨ bt s ((e2 + 1 : Nat) : Int) = 45)
      · rw [decide_eq_true cs] at hb
        rw [if_pos cs] at hq
        rw [heraldref03_scan.j9, hb, if_pos rfl, next_z (e2 + 1) (by omega), ← hq]
      · rw [decide_eq_false cs] at hb
        rw [if_neg cs] at hq
        rw [heraldref03_scan.j9, hb, if_neg (show ¬ (false = true) by decide), ← hq]
    have j8 : Ev (fun k => heraldref03_scan.j8 k s ((e2 + 1 : Nat) : Int) neg l beh 0 g) (tY s neg l beh g q) := by
      refine Ev.step (fun k => ?_) (j9 _ rfl)
      rw [heraldref03_scan.j8]
      by_cases c1 : e2 + 1 < s.size
      · rw [if_pos (by omega), if_pos (by omega)]
        by_cases c5 : bt s ((e2 + 1 : Nat) : Int) = 45
        · rw [if_pos c5, decide_eq_true ⟨c1, .inr c5⟩]
        · rw [if_neg c5, bt_beq]
          by_cases c3 : bt s ((e2 + 1 : Nat) : Int) = 43
          · rw [decide_eq_true c3, decide_eq_true ⟨c1, .inl c3⟩]
          · rw [decide_eq_false c3, decide_eq_false (fun h => by rcases h.2 with h | h; exact c3 h; exact c5 h)]
      · rw [if_neg (by omega), decide_eq_false (fun h => c1 h.1)]
    have j7 : Ev (fun k => heraldref03_scan.j7 k s (e2 : Int) neg l beh 0 true) (tY s neg l beh g q) := by
      refine Ev.step (fun k => ?_) j8
      rw [heraldref03_scan.j7, if_pos rfl, next_z e2 (by omega)]
      by_cases c1 : e2 + 1 < s.size
      · rw [if_pos (by omega), if_pos (by omega), bt_beq, ← hg]
        by_cases c5 : bt s ((e2 + 1 : Nat) : Int) = 45
        · rw [decide_eq_true c5, decide_eq_true ⟨c1, c5⟩]
        · rw [decide_eq_false c5, decide_eq_false (fun h => c5 h.2)]
      · rw [if_neg (by omega), ← hg, decide_eq_false (fun h => c1 h.1)]
    refine Ev.step (fun k => ?_) j7
    rw [heraldref03_scan.j6, if_pos (by omega), if_pos (by omega)]
    by_cases c1 : bt s (e2 : Int) = 101
    · rw [if_pos c1]
    · rw [if_neg c1, bt_beq, decide_eq_true (by rcases c.2 with h | h; exact absurd h c1; exact h)]
  · rw [if_neg c]
    have j7 : Ev (fun k => heraldref03_scan.j7 k s (e2 : Int) neg l beh 0 false) (if e2 < s.size then (neg, l, 0, 0, (e2 : Int)) else (neg, l, beh, 0, -1)) := by
      refine Ev.step (fun k => ?_) (Ev.now _)
      rw [heraldref03_scan.j7, if_neg (show ¬ (false = true) by decide)]
      by_cases c1 : e2 < s.size
      · rw [if_pos (by omega), if_pos c1]
      · rw [if_neg (by omega), if_neg c1]
    refine Ev.step (fun k => ?_) j7
    rw [heraldref03_scan.j6]
    by_cases c1 : e2 < s.size
    · rw [if_pos (by omega), if_pos (by omega), if_neg (fun h => c ⟨c1, .inl h⟩), bt_beq, decide_eq_false (fun h => c ⟨c1, .inr h⟩)]
    · rw [if_neg (by omega)]
theorem digit_val (s : ByteArray) (j : Nat) (h : isD s j) : (bt s (j : Int) - 48) % 256 = bt s (j : Int) - 48 := by
  have := h.2; omega
theorem scan_l1 (s : ByteArray) (neg : Bool) (f : Nat) (R : Bool × List Int × Int × Int × Int) (L : List Int) (hs : s.size ≤ 1000000) (E : Nat) (hR : Ev (fun k => if E = f then some (neg, L, 0, 0, (f : Int)) else heraldref03_scan.j6 k s (E : Int) neg L ((E - f : Nat) : Int) 0) R) : ∀ (d j : Nat) (acc : List Int), d = s.size - j → f ≤ j → j ≤ s.size → dE s j = E → acc ++ dvs (seg s j E) = L → acc.length ≤ j →
    Ev (fun k => heraldref03_scan.l1 k s (j : Int) neg acc 0 (f : Int)) R := by
  have fin : ∀ (j : Nat) (acc : List Int), f ≤ j → j ≤ s.size → ¬ isD s j → dE s j = E → acc ++ dvs (seg s j E) = L → Ev (fun k => heraldref03_scan.l1 k s (j : Int) neg acc 0 (f : Int)) R := by
    intro j acc h1 h2 hn hE hL
    rw [dE_no hn] at hE
    subst hE
    rw [seg_self] at hL
    have hL : acc = L := by rw [← hL]; simp [dvs]
    subst hL
    have hw : wrap64 ((j : Int) - (f : Int)) = ((j - f : Nat) : Int) := by rw [wrap_in (by omega) (by omega)]; omega
    have key : ∀ k, heraldref03_scan.l1 (k + 1) s (j : Int) neg acc 0 (f : Int) = if (j : Int) = (f : Int) then some (neg, acc, 0, 0, (j : Int)) else heraldref03_scan.j6 k s (j : Int) neg acc (wrap64 ((j : Int) - (f : Int))) 0 := by
      intro k
      rw [heraldref03_scan.l1]
      by_cases c1 : j < s.size
      · rw [if_pos (by omega), if_pos (by omega)]
        by_cases c2 : bt s (j : Int) ≥ 48
        · rw [if_pos c2, if_neg (fun h => hn ⟨c1, c2, h⟩)]
        · rw [if_neg c2]
      · rw [if_neg (by omega)]
    refine Ev.step (fun k => ?_) hR
    rw [key, hw]
    by_cases c : j = f
    · rw [if_pos (by omega), if_pos c, c]
    · rw [if_neg (by omega), if_neg c]
  intro d
  induction d with
  | zero =>
    intro j acc h h1 h2 hE hL ha
    exact fin j acc h1 h2 (fun x => by have := x.1; omega) hE hL
  | succ d ih =>
    intro j acc h h1 h2 hE hL ha
    by_cases c : isD s j
    · have hv := digit_val s j c
      have hE' := hE
      rw [dE_yes c] at hE'
      have hle := dE_le s (j + 1)
      have hz := dE_size s (j + 1) (by have := c.1; omega)
      rw [hE'] at hle hz
      have hseg := seg_cons s j E (by omega) hz
      have hL2 : (acc ++ [bt s (j : Int) - 48]) ++ dvs (seg s (j + 1) E) = L := by
        rw [← hL, hseg, List.append_assoc]; rfl
      obtain ⟨c1, c2, c3⟩ := c
      refine Ev.step (fun k => ?_) (ih (j + 1) (acc ++ [bt s (j : Int) - 48]) (by omega) (by omega) (by omega) hE' hL2 (by simp; omega))
      rw [heraldref03_scan.l1, if_pos (by omega), if_pos (by omega), if_pos c2, if_pos c3, if_pos (by omega), hv, next_z j (by omega)]
    · exact fin j acc h1 h2 c hE hL
theorem scan_l0 (s : ByteArray) (neg : Bool) (f : Nat) (R : Bool × List Int × Int × Int × Int) (L : List Int) (hs : s.size ≤ 1000000) (E : Nat) (hR : Ev (fun k => heraldref03_scan.j3 k s (E : Int) neg L 0 0 (f : Int)) R) : ∀ (d j : Nat) (acc : List Int), d = s.size - j → j ≤ s.size → dE s j = E → acc ++ dvs (seg s j E) = L → acc.length ≤ j →
    Ev (fun k => heraldref03_scan.l0 k s (j : Int) neg acc 0 0 (f : Int)) R := by
  have fin : ∀ (j : Nat) (acc : List Int), j ≤ s.size → ¬ isD s j → dE s j = E → acc ++ dvs (seg s j E) = L → Ev (fun k => heraldref03_scan.l0 k s (j : Int) neg acc 0 0 (f : Int)) R := by
    intro j acc h2 hn hE hL
    rw [dE_no hn] at hE
    subst hE
    rw [seg_self] at hL
    have hL : acc = L := by rw [← hL]; simp [dvs]
    subst hL
    refine Ev.step (fun k => ?_) hR
    rw [heraldref03_scan.l0]
    by_cases c1 : j < s.size
    · rw [if_pos (by omega), if_pos (by omega)]
      by_cases c2 : bt s (j : Int) ≥ 48
      · rw [if_pos c2, if_neg (fun h => hn ⟨c1, c2, h⟩)]
      · rw [if_neg c2]
    · rw [if_neg (by omega)]
  intro d
  induction d with
  | zero =>
    intro j acc h h2 hE hL ha
    exact fin j acc h2 (fun x => by have := x.1; omega) hE hL
  | succ d ih =>
    intro j acc h h2 hE hL ha
    by_cases c : isD s j
    · have hv := digit_val s j c
      have hE' := hE
      rw [dE_yes c] at hE'
      have hle := dE_le s (j + 1)
      have hz := dE_size s (j + 1) (by have := c.1; omega)
      rw [hE'] at hle hz
      have hseg := seg_cons s j E (by omega) hz
      have hL2 : (acc ++ [bt s (j : Int) - 48]) ++ dvs (seg s (j + 1) E) = L := by
        rw [← hL, hseg, List.append_assoc]; rfl
      obtain ⟨c1, c2, c3⟩ := c
      refine Ev.step (fun k => ?_) (ih (j + 1) (acc ++ [bt s (j : Int) - 48]) (by omega) (by omega) hE' hL2 (by simp; omega))
      rw [heraldref03_scan.l0, if_pos (by omega), if_pos (by omega), if_pos c2, if_pos c3, if_pos (by omega), hv, next_z j (by omega)]
    · exact fin j acc h2 c hE hL
/-- What scan says. -/
def tS (s : ByteArray) (neg : Bool) (i : Nat) : Bool × List Int × Int × Int × Int :=
  if dE s i = i then (neg, dvs (seg s i (dE s i)), 0, 0, (i : Int))
  else if dE s i < s.size ∧ bt s ((dE s i : Nat) : Int) = 46 then
    (if dE s (dE s i + 1) = dE s i + 1 then (neg, dvs (seg s i (dE s i)) ++ dvs (seg s (dE s i + 1) (dE s (dE s i + 1))), 0, 0, ((dE s i + 1 : Nat) : Int))
     else tX s neg (dvs (seg s i (dE s i)) ++ dvs (seg s (dE s i + 1) (dE s (dE s i + 1)))) ((dE s (dE s i + 1) - (dE s i + 1) : Nat) : Int) (dE s (dE s i + 1)))
  else tX s neg (dvs (seg s i (dE s i))) 0 (dE s i)
theorem scan_S (s : ByteArray) (neg : Bool) (i : Nat) (hs : s.size ≤ 1000000) (hi : i ≤ s.size) : Ev (fun k => heraldref03_scan.j1 k s (i : Int) neg) (tS s neg i) := by
  have hle := dE_le s i
  have hsz := dE_size s i hi
  obtain ⟨E, hE⟩ : ∃ E, dE s i = E := ⟨_, rfl⟩
  unfold tS
  rw [hE] at hle hsz ⊢
  obtain ⟨L, hL⟩ : ∃ L, dvs (seg s i E) = L := ⟨_, rfl⟩
  rw [hL]
  have hLl : L.length ≤ E := by rw [← hL, dvs_length, seg_length s i E hsz]; omega
  have key : ∀ R, Ev (fun k => heraldref03_scan.j3 k s (E : Int) neg L 0 0 (i : Int)) R → Ev (fun k => heraldref03_scan.j1 k s (i : Int) neg) R := by
    intro R h
    have := scan_l0 s neg i R L hs E h _ i [] rfl hi hE (by rw [List.nil_append, hL]) (by simp)
    refine Ev.step (fun k => ?_) this
    rw [heraldref03_scan.j1]
  apply key
  by_cases c0 : E = i
  · rw [if_pos c0]
    refine Ev.step (fun k => ?_) (Ev.now _)
    rw [heraldref03_scan.j3, if_pos (by omega), c0]
  · rw [if_neg c0]
    by_cases c1 : E < s.size ∧ bt s (E : Int) = 46
    · rw [if_pos c1]
      have hsz2 := dE_size s (E + 1) (by omega)
      obtain ⟨E2, hE2⟩ : ∃ E2, dE s (E + 1) = E2 := ⟨_, rfl⟩
      rw [hE2] at hsz2 ⊢
      obtain ⟨L2, hL2⟩ : ∃ L2, L ++ dvs (seg s (E + 1) E2) = L2 := ⟨_, rfl⟩
      rw [hL2]
      have fin : Ev (fun k => if E2 = E + 1 then some (neg, L2, 0, 0, ((E + 1 : Nat) : Int)) else heraldref03_scan.j6 k s (E2 : Int) neg L2 ((E2 - (E + 1) : Nat) : Int) 0) (if E2 = E + 1 then (neg, L2, 0, 0, ((E + 1 : Nat) : Int)) else tX s neg L2 ((E2 - (E + 1) : Nat) : Int) E2) := by
        by_cases c2 : E2 = E + 1
        · rw [if_pos c2]
          refine Ev.congr (fun k => ?_) (Ev.now _)
          rw [if_pos c2]
        · rw [if_neg c2]
          refine Ev.congr (fun k => ?_) (scan_X s neg L2 _ E2 hs hsz2)
          rw [if_neg c2]
      have h1 := scan_l1 s neg (E + 1) _ L2 hs E2 fin _ (E + 1) L rfl (by omega) (by omega) hE2 hL2 (by omega)
      have j4 : Ev (fun k => heraldref03_scan.j4 k s (E : Int) neg L 0 0 true) (if E2 = E + 1 then (neg, L2, 0, 0, ((E + 1 : Nat) : Int)) else tX s neg L2 ((E2 - (E + 1) : Nat) : Int) E2) := by
        refine Ev.step (fun k => ?_) h1
        rw [heraldref03_scan.j4, if_pos rfl, next_z E (by omega)]
      refine Ev.step (fun k => ?_) j4
      rw [heraldref03_scan.j3, if_neg (by omega), if_pos (by omega), if_pos (by omega), bt_beq, decide_eq_true c1.2]
    · rw [if_neg c1]
      have hx := scan_X s neg L 0 E hs hsz
      have j4 : Ev (fun k => heraldref03_scan.j4 k s (E : Int) neg L 0 0 false) (tX s neg L 0 E) := by
        refine Ev.step (fun k => ?_) hx
        rw [heraldref03_scan.j4, if_neg (show ¬ (false = true) by decide)]
      refine Ev.step (fun k => ?_) j4
      rw [heraldref03_scan.j3, if_neg (by omega)]
      by_cases c2 : E < s.size
      · rw [if_pos (by omega), if_pos (by omega), bt_beq, decide_eq_false (fun h => c1 ⟨c2, h⟩)]
      · rw [if_neg (by omega)]
end Go.Proofs.YteecekhfpfnepaaDoor.Tx
end

section
namespace Go.Proofs.YteecekhfpfnepaaDoor.Tx
open Go.RowKit Go.Proofs.YteecekhfpfnepaaDoor.PAll Go.Proofs.YteecekhfpfnepaaDoor.Nums Go.Proofs.YteecekhfpfnepaaDoorW.PrintWords Go.Proofs.YteecekhfpfnepaaDoorW.PrintLast Go.Proofs.YteecekhfpfnepaaDoorW.PrintMore
open Go.Proofs.YteecekhfpfnepaaDoor.Sg (NR sgn or_u32)
set_option linter.unusedVariables false
set_option linter.unusedSimpArgs false
/-- How far two texts agree, from two places on. -/
def cpl (s : ByteArray) (i : Nat) (w : ByteArray) (j : Nat) : Nat := if h : i < s.size ∧ j < w.size ∧ bt s (i : Int) = bt w (j : Int) then cpl s (i + 1) w (j + 1) + 1 else 0
termination_by s.size - i
decreasing_by have := h.1; omega
theorem cpl_yes {s : ByteArray} {i : Nat} {w : ByteArray} {j : Nat} (h : i < s.size ∧ j < w.size ∧ bt s (i : Int) = bt w (j : Int)) : cpl s i w j = cpl s (i + 1) w (j + 1) + 1 := by rw [cpl, dif_pos h]
theorem cpl_no {s : ByteArray} {i : Nat} {w : ByteArray} {j : Nat} (h : ¬ (i < s.size ∧ j < w.size ∧ bt s (i : Int) = bt w (j : Int))) : cpl s i w j = 0 := by rw [cpl, dif_neg h]
theorem cpl_le (s w : ByteArray) : ∀ (d i j : Nat), d = s.size - i → i ≤ s.size → j ≤ w.size → i + cpl s i w j ≤ s.size ∧ j + cpl s i w j ≤ w.size := by
  intro d
  induction d with
  | zero =>
    intro i j h h1 h2
    rw [cpl_no (fun g => by have := g.1; omega)]; omega
  | succ d ih =>
    intro i j h h1 h2
    by_cases g : i < s.size ∧ j < w.size ∧ bt s (i : Int) = bt w (j : Int)
    · have := ih (i + 1) (j + 1) (by omega) (by omega) (by omega)
      rw [cpl_yes g]; omega
    · rw [cpl_no g]; omega
theorem word_read (s w : ByteArray) (hs : s.size ≤ 1000000) (hw : w.size ≤ 1000000) : ∀ (d i j : Nat), d = s.size - i → i ≤ s.size → j ≤ w.size →
    Ev (fun k => single_reader_word.l0 k w (j : Int) s (i : Int)) (decide (j + cpl s i w j = w.size), s, ((i + cpl s i w j : Nat) : Int)) := by
  have fin : ∀ i j, j ≤ w.size → ¬ (i < s.size ∧ j < w.size ∧ bt s (i : Int) = bt w (j : Int)) → ∀ k, single_reader_word.l0 (k + 1) w (j : Int) s (i : Int) = some (decide (j + cpl s i w j = w.size), s, ((i + cpl s i w j : Nat) : Int)) := by
    intro i j hj g k
    have z0 : j + cpl s i w j = j := by rw [cpl_no g]; rfl
    have z1 : i + cpl s i w j = i := by rw [cpl_no g]; rfl
    rw [z0, z1, single_reader_word.l0]
    have e : ((j : Int) == (w.size : Int)) = decide (j = w.size) := by
      by_cases c : j = w.size
      · rw [decide_eq_true c]; simp [c]
      · rw [decide_eq_false c, beq_eq_false_iff_ne]; omega
    by_cases c1 : (j : Int) < (w.size : Int)
    · rw [if_pos c1]
      by_cases c2 : (i : Int) < (s.size : Int)
      · rw [if_pos c2, if_pos (by omega), if_pos (by omega), if_neg (fun h => g ⟨by omega, by omega, h⟩), e]
      · rw [if_neg c2, e]
    · rw [if_neg c1, e]
  intro d
  induction d with
  | zero =>
    intro i j h h1 h2
    exact Ev.step (fin i j h2 (fun g => by have := g.1; omega)) (Ev.now _)
  | succ d ih =>
    intro i j h h1 h2
    by_cases g : i < s.size ∧ j < w.size ∧ bt s (i : Int) = bt w (j : Int)
    · have hi := ih (i + 1) (j + 1) (by omega) (by omega) (by omega)
      obtain ⟨g1, g2, g3⟩ := g
      rw [cpl_yes ⟨g1, g2, g3⟩, show j + (cpl s (i + 1) w (j + 1) + 1) = j + 1 + cpl s (i + 1) w (j + 1) by omega, show i + (cpl s (i + 1) w (j + 1) + 1) = i + 1 + cpl s (i + 1) w (j + 1) by omega]
      refine Ev.step (fun k => ?_) hi
      rw [single_reader_word.l0, if_pos (by omega), if_pos (by omega), if_pos (by omega), if_pos (by omega), if_pos g3, next_k i (by omega), next_k j (by omega)]
    · exact Ev.step (fin i j h2 g) (Ev.now _)
/-- Has a text a sign; where what stands behind it begins; the first byte there. -/
def ng (s : ByteArray) : Bool := decide (0 < s.size ∧ bt s 0 = 45)
def i0 (s : ByteArray) : Nat := if ng s = true then 1 else 0
def fb (s : ByteArray) : Int := if i0 s < s.size then bt s ((i0 s : Nat) : Int) else 0
theorem i0_le (s : ByteArray) : i0 s ≤ s.size ∧ i0 s ≤ 1 := by
  unfold i0
  by_cases c : ng s = true
  · rw [if_pos c]
    have := (of_decide_eq_true c).1
    omega
  · rw [if_neg c]; omega
def wInf : ByteArray := ⟨#[105, 110, 102, 105, 110, 105, 116, 101]⟩
def wNone : ByteArray := ⟨#[110, 111, 110, 101]⟩
theorem parse_j1 (s : ByteArray) (hs : s.size ≤ 200) (R : Int × Int × Int × ByteArray × Int) (h : Ev (fun k => single_ParseR.j1 k s (sgn (ng s)) (fb s) s ((i0 s : Nat) : Int)) R) : Ev (fun k => single_ParseR.f k s s 0) R := by
  have q := one_one s 0 45 (by omega) (by omega)
  have hi := i0_le s
  have hj : Ev (fun k => single_ParseR.j0 k s (sgn (ng s)) s ((i0 s : Nat) : Int)) R := by
    refine Ev.step (fun k => ?_) h
    rw [single_ParseR.j0]
    unfold fb
    by_cases c : i0 s < s.size
    · rw [if_pos (by omega), if_pos (by omega), if_pos c]
    · rw [if_neg (by omega), if_neg c]
  refine Ev.congr (fun k => ?_) hj
  unfold single_ParseR.f
  rw [if_neg (by omega)]
  have q' : single_reader_one.f s 0 (⟨#[45]⟩ : ByteArray) = some (oneV s 0 (ng s)) := q
  rw [q', Option.bind_some]
  unfold oneV i0
  by_cases c : ng s = true
  · rw [c, if_pos rfl, if_pos rfl, if_pos rfl]; rfl
  · rw [if_neg c, if_neg c]
    rw [Bool.eq_false_iff.mpr c, if_neg (show ¬ (false = true) by decide)]
    rfl
theorem parse_of (s : ByteArray) (hs : s.size ≤ 200) (r1 r2 r3 : Int) (t : ByteArray) (p : Int) (h : Ev (fun k => single_ParseR.j1 k s (sgn (ng s)) (fb s) s ((i0 s : Nat) : Int)) (r1, r2, r3, t, p)) : Ev (fun k => single_Parse.f k s) (r1, r2, r3) := by
  have := (parse_j1 s hs _ h).bind (f := fun _ t => some (t.1, t.2.1, t.2.2.1)) (Ev.now _)
  exact this
theorem parse_far (s : ByteArray) (hs : 200 < s.size) : Ev (fun k => single_Parse.f k s) (0, 200, 33) := by
  refine Ev.congr (fun k => ?_) (Ev.now _)
  unfold single_Parse.f single_ParseR.f
  rw [if_pos (by omega)]
  rfl
theorem or_sg (s : ByteArray) (x : Nat) (hx : x < 2147483648) : Go.bits .or .u32 (sgn (ng s)) (x : Int) = sgn (ng s) + (x : Int) := or_u32 _ x hx
theorem parse_inf (s : ByteArray) (hs : s.size ≤ 200) (hf : fb s = 105) : Ev (fun k => single_Parse.f k s) (if cpl s (i0 s) wInf 0 = 8 ∧ i0 s + 8 = s.size then (sgn (ng s) + 2139095040, 0, 0) else (0, ((i0 s + cpl s (i0 s) wInf 0 : Nat) : Int), 32)) := by
  have hi := i0_le s
  have hw := word_read s wInf (by omega) (by decide) _ (i0 s) 0 rfl hi.1 (by omega)
  have hc := cpl_le s wInf _ (i0 s) 0 rfl hi.1 (by omega)
  have hsz : wInf.size = 8 := rfl
  rw [hsz, Nat.zero_add] at hw hc
  have hor := or_sg s 2139095040 (by omega)
  obtain ⟨c, hcc⟩ : ∃ c, cpl s (i0 s) wInf 0 = c := ⟨_, rfl⟩
  rw [hcc] at hw hc ⊢
  obtain ⟨X, hX⟩ : ∃ X : Int × Int × Int, (if c = 8 ∧ i0 s + 8 = s.size then (sgn (ng s) + 2139095040, 0, 0) else (0, ((i0 s + c : Nat) : Int), 32)) = X := ⟨_, rfl⟩
  rw [hX]
  have main : Ev (fun k => single_ParseR.j1 k s (sgn (ng s)) (fb s) s ((i0 s : Nat) : Int)) (X.1, X.2.1, X.2.2, s, ((i0 s + c : Nat) : Int)) := by
    have := hw.bind (f := fun _ bt227 => (if bt227.1 = true then (if bt227.2.2 < (s.size : Int) then (some (0, bt227.2.2, 32, bt227.2.1, bt227.2.2)) else (some (Go.bits .or .u32 (sgn (ng s)) 2139095040, 0, 0, bt227.2.1, bt227.2.2))) else (some (0, bt227.2.2, 32, bt227.2.1, bt227.2.2)))) (r := (X.1, X.2.1, X.2.2, s, ((i0 s + c : Nat) : Int))) (by
      refine Ev.congr (fun k => ?_) (Ev.now _)
      by_cases c8 : c = 8
      · by_cases ce : i0 s + 8 = s.size
        · rw [if_pos ⟨c8, ce⟩] at hX
          subst hX
          rw [decide_eq_true c8, if_pos rfl, if_neg (show ¬ ((i0 s + c : Nat) : Int) < (s.size : Int) by omega)]
          have : Go.bits .or .u32 (sgn (ng s)) 2139095040 = sgn (ng s) + 2139095040 := hor
          rw [this]
        · rw [if_neg (fun h => ce h.2)] at hX
          subst hX
          rw [decide_eq_true c8, if_pos rfl, if_pos (show ((i0 s + c : Nat) : Int) < (s.size : Int) by omega)]
      · rw [if_neg (fun h => c8 h.1)] at hX
        subst hX
        rw [decide_eq_false c8, if_neg (show ¬ (false = true) by decide)])
    refine Ev.step (fun k => ?_) this
    rw [single_ParseR.j1, if_pos (by omega), if_pos (by rw [hf]; rfl)]
    rfl
  exact parse_of s hs _ _ _ s _ main
theorem fb_none (s : ByteArray) (hs : s.size ≤ 200) (hf : fb s ≠ 105) (R : Int × Int × Int × ByteArray × Int) (h : Ev (fun k => single_ParseR.j2 k s (sgn (ng s)) (decide (fb s = 110 ∧ ng s = false)) s ((i0 s : Nat) : Int)) R) : Ev (fun k => single_ParseR.j1 k s (sgn (ng s)) (fb s) s ((i0 s : Nat) : Int)) R := by
  refine Ev.step (fun k => ?_) h
  rw [single_ParseR.j1, if_pos (by omega), if_neg (by show ¬ fb s = 105; exact hf), if_pos (by omega)]
  by_cases c : fb s = 110
  · rw [if_pos (by show fb s = 110; exact c)]
    have e : (sgn (ng s) == 0) = decide (fb s = 110 ∧ ng s = false) := by
      cases hg : ng s with
      | true => rw [decide_eq_false (by simp)]; rfl
      | false => rw [decide_eq_true ⟨c, rfl⟩]; rfl
    rw [e]
  · rw [if_neg (by show ¬ fb s = 110; exact c), decide_eq_false (fun h => c h.1)]
theorem parse_none (s : ByteArray) (hs : s.size ≤ 200) (hf : fb s = 110) (hn : ng s = false) : Ev (fun k => single_Parse.f k s) (if cpl s 0 wNone 0 = 4 ∧ 4 = s.size then (2143289344, 0, 0) else (0, ((cpl s 0 wNone 0 : Nat) : Int), 32)) := by
  have hi0 : i0 s = 0 := by unfold i0; rw [hn]; rfl
  have hw := word_read s wNone (by omega) (by decide) _ 0 0 rfl (by omega) (by omega)
  have hc := cpl_le s wNone _ 0 0 rfl (by omega) (by omega)
  have hsz : wNone.size = 4 := rfl
  rw [hsz, Nat.zero_add] at hw hc
  have hor : Go.bits .or .u32 0 2143289344 = 2143289344 := by decide +kernel
  obtain ⟨c, hcc⟩ : ∃ c, cpl s 0 wNone 0 = c := ⟨_, rfl⟩
  rw [hcc] at hw hc ⊢
  obtain ⟨X, hX⟩ : ∃ X : Int × Int × Int, (if c = 4 ∧ 4 = s.size then (2143289344, 0, 0) else (0, (c : Int), 32)) = X := ⟨_, rfl⟩
  rw [hX]
  have main : Ev (fun k => single_ParseR.j2 k s (sgn (ng s)) (decide (fb s = 110 ∧ ng s = false)) s ((i0 s : Nat) : Int)) (X.1, X.2.1, X.2.2, s, (c : Int)) := by
    have := hw.bind (f := fun _ bt230 => (if bt230.1 = true then (if bt230.2.2 < (s.size : Int) then (some (0, bt230.2.2, 32, bt230.2.1, bt230.2.2)) else (some (Go.bits .or .u32 0 2143289344, 0, 0, bt230.2.1, bt230.2.2))) else (some (0, bt230.2.2, 32, bt230.2.1, bt230.2.2)))) (r := (X.1, X.2.1, X.2.2, s, (c : Int))) (by
      refine Ev.congr (fun k => ?_) (Ev.now _)
      by_cases c8 : c = 4
      · by_cases ce : 4 = s.size
        · rw [if_pos ⟨c8, ce⟩] at hX
          subst hX
          rw [decide_eq_true c8, if_pos rfl, if_neg (show ¬ (c : Int) < (s.size : Int) by omega), hor]
        · rw [if_neg (fun h => ce h.2)] at hX
          subst hX
          rw [decide_eq_true c8, if_pos rfl, if_pos (show (c : Int) < (s.size : Int) by omega)]
      · rw [if_neg (fun h => c8 h.1)] at hX
        subst hX
        rw [decide_eq_false c8, if_neg (show ¬ (false = true) by decide)])
    refine Ev.step (fun k => ?_) this
    rw [hn, hi0, decide_eq_true ⟨hf, rfl⟩, single_ParseR.j2, if_pos rfl]
    rfl
  exact parse_of s hs _ _ _ s _ (fb_none s hs (by omega) _ main)
theorem num_head (s : ByteArray) (hs : s.size ≤ 200) (hf : fb s ≠ 105) (hn : ¬ (fb s = 110 ∧ ng s = false)) (r1 r2 r3 : Int) (t : ByteArray) (p : Int)
    (h : Ev (fun k => ((fun bt233 : ByteArray × Int × Bool × ByteArray × Int => (if bt233.2.2.1 = true then ((single_nearest.f k bt233.1 bt233.2.1).bind fun t238 => (if bt233.2.2.2.2 < (s.size : Int) then (some (0, bt233.2.2.2.2, 32, bt233.2.2.2.1, bt233.2.2.2.2)) else (some (Go.bits .or .u32 (sgn (ng s)) t238, 0, 0, bt233.2.2.2.1, bt233.2.2.2.2)))) else (some (0, bt233.2.2.2.2, 32, bt233.2.2.2.1, bt233.2.2.2.2)))) (numR s (scS s (i0 s))))) (r1, r2, r3, t, p)) : Ev (fun k => single_Parse.f k s) (r1, r2, r3) := by
  have hi := i0_le s
  have hnum := number_ev s (i0 s) (by omega) hi.1
  have := hnum.bind (f := fun k bt233 => (if bt233.2.2.1 = true then ((single_nearest.f k bt233.1 bt233.2.1).bind fun t238 => (if bt233.2.2.2.2 < (s.size : Int) then (some (0, bt233.2.2.2.2, 32, bt233.2.2.2.1, bt233.2.2.2.2)) else (some (Go.bits .or .u32 (sgn (ng s)) t238, 0, 0, bt233.2.2.2.1, bt233.2.2.2.2)))) else (some (0, bt233.2.2.2.2, 32, bt233.2.2.2.1, bt233.2.2.2.2)))) h
  have main : Ev (fun k => single_ParseR.j2 k s (sgn (ng s)) (decide (fb s = 110 ∧ ng s = false)) s ((i0 s : Nat) : Int)) (r1, r2, r3, t, p) := by
    refine Ev.step (fun k => ?_) this
    rw [decide_eq_false hn, single_ParseR.j2, if_neg (show ¬ (false = true) by decide)]
  exact parse_of s hs _ _ _ _ _ (fb_none s hs hf _ main)
theorem parse_bad (s : ByteArray) (hs : s.size ≤ 200) (hf : fb s ≠ 105) (hn : ¬ (fb s = 110 ∧ ng s = false)) (p : Nat) (h : scS s (i0 s) = .bad p) : Ev (fun k => single_Parse.f k s) (0, (p : Int), 32) := by
  refine num_head s hs hf hn 0 (p : Int) 32 s (p : Int) ?_
  rw [h]
  exact Ev.congr (fun k => rfl) (Ev.now _)
theorem parse_good (s : ByteArray) (hs : s.size ≤ 200) (hf : fb s ≠ 105) (hn : ¬ (fb s = 110 ∧ ng s = false)) (p i e1 f2 e2 : Nat) (neg : Bool) (q : Nat) (h : scS s (i0 s) = .good p i e1 f2 e2 neg q) (R : Nat) (hR : R < 2147483648)
    (hv : Ev (fun k => single_nearest.f k (s.extract i e1 ++ s.extract f2 e2) (powV neg (cl 0 (seg s q p)) - ((e2 - f2 : Nat) : Int))) (R : Int)) :
    Ev (fun k => single_Parse.f k s) (if p < s.size then (0, (p : Int), 32) else (sgn (ng s) + (R : Int), 0, 0)) := by
  have hor := or_sg s R hR
  by_cases c : p < s.size
  · rw [if_pos c]
    refine num_head s hs hf hn 0 (p : Int) 32 s (p : Int) ?_
    rw [h]
    refine hv.bind (f := fun _ t238 => (if (p : Int) < (s.size : Int) then (some (0, (p : Int), 32, s, (p : Int))) else (some (Go.bits .or .u32 (sgn (ng s)) t238, 0, 0, s, (p : Int))))) ?_
    refine Ev.congr (fun k => ?_) (Ev.now _)
    rw [if_pos (by omega)]
  · rw [if_neg c]
    refine num_head s hs hf hn _ 0 0 s (p : Int) ?_
    rw [h]
    refine hv.bind (f := fun _ t238 => (if (p : Int) < (s.size : Int) then (some (0, (p : Int), 32, s, (p : Int))) else (some (Go.bits .or .u32 (sgn (ng s)) t238, 0, 0, s, (p : Int))))) ?_
    refine Ev.congr (fun k => ?_) (Ev.now _)
    rw [if_neg (by omega), hor]
end Go.Proofs.YteecekhfpfnepaaDoor.Tx
end

section
namespace Go.Proofs.YteecekhfpfnepaaDoor.Sg
open Ieee
open Go.RowKit Go.Proofs.YteecekhfpfnepaaDoor.PAll Go.Proofs.YteecekhfpfnepaaDoorW.PrintWords Go.Proofs.YteecekhfpfnepaaDoorW.PrintLast Go.Proofs.YteecekhfpfnepaaDoorW.PrintMore
set_option linter.unusedVariables false
set_option linter.unusedSimpArgs false
theorem k_weight : Ieee.single.signWeight = 2147483648 := by decide
theorem k_binade : Ieee.single.binade = 8388608 := by decide
theorem k_inf : Ieee.single.infRung = 2139095040 := by decide
theorem k_least : Ieee.single.leastPlace = -149 := by decide
theorem read_eq (a : Nat) (h : a < 4294967296) : Ieee.single.read a = if a / 8388608 % 256 = 255 then (if a % 8388608 = 0 then .infinity (decide (2147483648 ≤ a)) else .nan (decide (2147483648 ≤ a)) (a % 8388608))
    else if a / 8388608 % 256 = 0 then .number (decide (2147483648 ≤ a)) (a % 8388608) (-149) else .number (decide (2147483648 ≤ a)) (8388608 + a % 8388608) (((a / 8388608 % 256 : Nat) : Int) - 150) := by
  unfold Ieee.Format.read
  simp only [k_weight, k_binade, k_inf, k_least]
  have hs : (a / 2147483648 % 2 == 1) = decide (2147483648 ≤ a) := by
    by_cases c : 2147483648 ≤ a
    · rw [decide_eq_true c, beq_iff_eq]; omega
    · rw [decide_eq_false c]; simp; omega
  rw [hs]
  by_cases c1 : a / 8388608 % 256 = 255
  · rw [if_pos c1, if_neg (by omega), if_neg (by omega)]
    by_cases c2 : a % 8388608 = 0
    · rw [if_pos c2, if_pos (by omega)]
    · rw [if_neg c2, if_neg (by omega), show a % 2147483648 - 2139095040 = a % 8388608 from by omega]
  · rw [if_neg c1]
    by_cases c2 : a / 8388608 % 256 = 0
    · rw [if_pos c2, if_pos (by omega), show a % 2147483648 = a % 8388608 from by omega]
    · rw [if_neg c2, if_neg (by omega), if_pos (by omega), show a % 2147483648 % 8388608 = a % 8388608 from by omega, show a % 2147483648 / 8388608 = a / 8388608 % 256 from by omega]
      congr 1
      omega
/-- The number of a finite single. -/
structure Fin32 (a : Int) (s : Bool) (m : Nat) (e : Int) : Prop where
  word : a = sgn s + (rung m e : Int)
  form : (m < 8388608 ∧ e = -149) ∨ (8388608 ≤ m ∧ m < 16777216 ∧ -149 ≤ e ∧ e ≤ 104)
theorem rung_sub (m : Nat) (h : m < 8388608) : rung m (-149) = m := by
  by_cases h0 : m = 0
  · subst h0; rfl
  have h1 : m.log2 < 23 := (Nat.log2_lt h0).2 (by omega)
  rw [rung_eq m _ h0]
  have e1 : lastP m (-149) = -149 := by unfold lastP; omega
  rw [e1]
  unfold keptQ
  simp only [Int.sub_self, Int.toNat_zero, Nat.shiftLeft_zero, rhe_zero]
  omega
theorem rung_norm (m : Nat) (e : Int) (h : 8388608 ≤ m) (h2 : m < 16777216) (he : -149 ≤ e) (he2 : e ≤ 104) : (rung m e : Int) = (e + 149) * 8388608 + m := by
  have h1 : m.log2 = 23 := (Nat.log2_eq_iff (by omega)).2 ⟨by omega, by omega⟩
  rw [rung_eq m _ (by omega)]
  have e1 : lastP m e = e := by unfold lastP; omega
  rw [e1]
  unfold keptQ
  simp only [Int.sub_self, Int.toNat_zero, Nat.shiftLeft_zero, rhe_zero]
  omega
theorem raw_cases (a : Int) (h0 : 0 ≤ a) (h1 : a < 4294967296) :
    (rawV a = (2, false, 0, 0) ∧ ∃ s f, Ieee.single.read a.toNat = .nan s f) ∨ (∃ s, rawV a = (1, s, 0, 0) ∧ Ieee.single.read a.toNat = .infinity s ∧ a = sgn s + 2139095040) ∨
    (∃ (s : Bool) (m : Nat) (e : Int), rawV a = (0, s, (m : Int), e) ∧ Ieee.single.read a.toNat = .number s m e ∧ Fin32 a s m e) := by
  obtain ⟨n, rfl⟩ := Int.eq_ofNat_of_zero_le h0
  have hn : n < 4294967296 := by omega
  have hr := read_eq n hn
  have ed : decide ((2147483648 : Int) ≤ (n : Int)) = decide (2147483648 ≤ n) := by
    by_cases c : 2147483648 ≤ n
    · rw [decide_eq_true c, decide_eq_true (by omega)]
    · rw [decide_eq_false c, decide_eq_false (by omega)]
  have hsg : sgn (decide (2147483648 ≤ n)) = ((n / 2147483648 * 2147483648 : Nat) : Int) := by
    by_cases c : 2147483648 ≤ n
    · rw [decide_eq_true c]; show (2147483648 : Int) = _; omega
    · rw [decide_eq_false c]; show (0 : Int) = _; omega
  rw [Int.toNat_natCast, hr]
  unfold rawV
  rw [ed]
  by_cases c1 : n / 8388608 % 256 = 255
  · rw [if_pos c1, if_pos (by omega)]
    by_cases c2 : n % 8388608 = 0
    · rw [if_pos c2, if_pos (by omega)]
      exact .inr (.inl ⟨_, rfl, rfl, by rw [hsg]; omega⟩)
    · rw [if_neg c2, if_neg (by omega)]
      exact .inl ⟨rfl, _, _, rfl⟩
  · rw [if_neg c1, if_neg (by omega)]
    by_cases c2 : n / 8388608 % 256 = 0
    · rw [if_pos c2, if_pos (by omega)]
      refine .inr (.inr ⟨_, n % 8388608, -149, ?_, rfl, ?_, .inl ⟨by omega, rfl⟩⟩)
      · rw [show (n : Int) % 8388608 = ((n % 8388608 : Nat) : Int) from by omega]
      · rw [rung_sub _ (by omega), hsg]; omega
    · rw [if_neg c2, if_neg (by omega)]
      refine .inr (.inr ⟨_, 8388608 + n % 8388608, ((n / 8388608 % 256 : Nat) : Int) - 150, ?_, rfl, ?_, .inr ⟨by omega, by omega, by omega, by omega⟩⟩)
      · rw [show (8388608 + (n : Int) % 8388608) = ((8388608 + n % 8388608 : Nat) : Int) from by omega, show (n : Int) / 8388608 % 256 = ((n / 8388608 % 256 : Nat) : Int) from by omega]
      · rw [rung_norm _ _ (by omega) (by omega) (by omega) (by omega), hsg]; omega
end Go.Proofs.YteecekhfpfnepaaDoor.Sg
end

section
namespace Go.Proofs.YteecekhfpfnepaaDoor.Tx
open Go.RowKit Go.Proofs.YteecekhfpfnepaaDoor.PAll Go.Proofs.YteecekhfpfnepaaDoor.Nums Go.Proofs.YteecekhfpfnepaaDoorW.PrintWords Go.Proofs.YteecekhfpfnepaaDoorW.PrintLast Go.Proofs.YteecekhfpfnepaaDoorW.PrintMore
open Go.Proofs.YteecekhfpfnepaaDoor.Sg (NR sgn rung Fin32 raw_cases)
set_option linter.unusedVariables false
set_option linter.unusedSimpArgs false
/-- A sign's bytes. -/
def sg (s : Bool) : List Int := if s then [45] else []
theorem sg_by (s : Bool) : By (sg s) := by cases s <;> simp [sg, By]
theorem sg_len (s : Bool) : (sg s).length ≤ 1 := by cases s <;> simp [sg]
/-- Digits with zeros ahead, so that one at least stands ahead of p. -/
def pad (p v : Nat) : List Int := List.replicate (p + 1 - (dcs v).length) 48 ++ dcs v
/-- Digits with a point ahead of the last p. -/
def pnt (p v : Nat) : List Int := (pad p v).take ((pad p v).length - p) ++ ([46] ++ (pad p v).drop ((pad p v).length - p))
/-- The text of M times 2^e. -/
def txt (M : Nat) (e : Int) : List Int := if 0 ≤ e then dz (M * 2 ^ e.toNat) else pnt (-e).toNat (M * 5 ^ (-e).toNat)
theorem zeros_dd (n : Nat) : Dd (List.replicate n 48) := by
  intro x hx
  have := (List.mem_replicate.mp hx).2
  omega
theorem pad_dd (p v : Nat) : Dd (pad p v) := (zeros_dd _).app (dcs_dd v)
theorem pad_length (p v : Nat) : (pad p v).length = max (p + 1) (dcs v).length := by unfold pad; rw [List.length_append, List.length_replicate]; omega
def tail1 (k : Nat) (x4 T : ByteArray) (x6 : Int) : Option ByteArray := (if 0 ≤ (wrap64 ((T.size : Int) - x6)) then (if (wrap64 ((T.size : Int) - x6)) ≤ (T.size : Int) then ((strings_TrimRight.f k (T.extract ((wrap64 ((T.size : Int) - x6)) : Int).toNat T.size) (⟨#[48]⟩ : ByteArray)).bind fun t364 => (if t364.toList = ([] : List UInt8) then (if x4.size + (T.extract 0 ((wrap64 ((T.size : Int) - x6)) : Int).toNat).size ≤ 9223372036854775807 then (some (x4 ++ (T.extract 0 ((wrap64 ((T.size : Int) - x6)) : Int).toNat))) else (none)) else (if 1 + t364.size ≤ 9223372036854775807 then (if (T.extract 0 ((wrap64 ((T.size : Int) - x6)) : Int).toNat).size + ((⟨#[46]⟩ : ByteArray) ++ t364).size ≤ 9223372036854775807 then (if x4.size + ((T.extract 0 ((wrap64 ((T.size : Int) - x6)) : Int).toNat) ++ ((⟨#[46]⟩ : ByteArray) ++ t364)).size ≤ 9223372036854775807 then (some (x4 ++ ((T.extract 0 ((wrap64 ((T.size : Int) - x6)) : Int).toNat) ++ ((⟨#[46]⟩ : ByteArray) ++ t364)))) else (none)) else (none)) else (none)))) else (none)) else (none))
theorem tail1_ev (S l : List Int) (p : Nat) (a : List Int) (c : Int) (hS : By S) (hl : Dd l) (hlen : l.length ≤ 1000000) (hSl : S.length ≤ 1000000) (hp : p ≤ l.length) (hd : l.drop (l.length - p) = a ++ [c]) (hc : c ≠ 48) :
    Ev (fun k => tail1 k (strOfNums S) (strOfNums l) (p : Int)) (strOfNums (S ++ (l.take (l.length - p) ++ ([46] ++ l.drop (l.length - p))))) := by
  have hw : wrap64 ((l.length : Int) - (p : Int)) = ((l.length - p : Nat) : Int) := by rw [wrap_in (by omega) (by omega)]; omega
  have hdl : (l.drop (l.length - p)).length = p := by rw [List.length_drop]; omega
  have hby : By (l.drop (l.length - p)) := fun x hx => hl.by x (List.mem_of_mem_drop hx)
  have hbt : By (l.take (l.length - p)) := fun x hx => hl.by x (List.mem_of_mem_take hx)
  have ht := TrimRight_ev a c (by rw [← hd]; exact hby) hc (by have := hdl; rw [hd] at this; simp at this; omega)
  rw [← hd] at ht
  have hx : (strOfNums l).extract (l.length - p) l.length = strOfNums (l.drop (l.length - p)) := by
    rw [nums_extract _ _ _ hl.by, List.take_of_length_le (by omega)]
  have hx0 : (strOfNums l).extract 0 (l.length - p) = strOfNums (l.take (l.length - p)) := by
    rw [nums_extract _ _ _ hl.by]; rfl
  have hne : ¬ (strOfNums (l.drop (l.length - p))).toList = ([] : List UInt8) := by
    rw [bytesOf_nil, bytesOf_nums hby, hd]; simp
  have hpt : (⟨#[46]⟩ : ByteArray) = strOfNums [46] := rfl
  have := ht.bind (f := fun k t364 => (if t364.toList = ([] : List UInt8) then (if (strOfNums S).size + (strOfNums (l.take (l.length - p))).size ≤ 9223372036854775807 then (some ((strOfNums S) ++ (strOfNums (l.take (l.length - p))))) else (none)) else (if 1 + t364.size ≤ 9223372036854775807 then (if (strOfNums (l.take (l.length - p))).size + ((⟨#[46]⟩ : ByteArray) ++ t364).size ≤ 9223372036854775807 then (if (strOfNums S).size + ((strOfNums (l.take (l.length - p))) ++ ((⟨#[46]⟩ : ByteArray) ++ t364)).size ≤ 9223372036854775807 then (some ((strOfNums S) ++ ((strOfNums (l.take (l.length - p))) ++ ((⟨#[46]⟩ : ByteArray) ++ t364)))) else (none)) else (none)) else (none)))) (r := strOfNums (S ++ (l.take (l.length - p) ++ ([46] ++ l.drop (l.length - p))))) (by
    refine Ev.congr (fun k => ?_) (Ev.now _)
    rw [if_neg hne, nums_size, if_pos (by omega), hpt, ← nums_append, nums_size, nums_size, List.length_append, List.length_take, if_pos (by simp; omega), ← nums_append, nums_size, nums_size, List.length_append, List.length_append, List.length_take, if_pos (by simp; omega), ← nums_append])
  refine Ev.congr (fun k => ?_) this
  unfold tail1
  rw [nums_size, hw, if_pos (by omega), if_pos (by omega), Int.toNat_natCast, hx, hx0]
theorem repeat_zeros (n : Nat) (h : n ≤ 1000000) : strings_Repeat.f (⟨#[48]⟩ : ByteArray) (n : Int) = some (strOfNums (List.replicate n 48)) := by
  have hr : ∀ n, Lib.repeatL [(48 : UInt8)] n = List.replicate n 48 := by
    intro n
    induction n with
    | zero => rfl
    | succ n ih => rw [Lib.repeatL, ih, List.replicate_succ]; rfl
  have hs : (⟨#[48]⟩ : ByteArray).size * (n : Int).toNat = n := by
    show 1 * (n : Int).toNat = n
    omega
  unfold strings_Repeat.f
  rw [if_pos ⟨by omega, by omega, by omega⟩]
  show some (⟨(Lib.repeatL [48] (n : Int).toNat).toArray⟩ : ByteArray) = _
  rw [Int.toNat_natCast, hr]
  unfold strOfNums
  rw [List.map_replicate]
  rfl
/-- The last of the digits of an odd number times 5. -/
theorem last_five (M p : Nat) (hM : M % 2 = 1) (hp : 1 ≤ p) : ∃ a, dcs (M * 5 ^ p) = a ++ [53] := by
  obtain ⟨q, rfl⟩ : ∃ q, p = q + 1 := ⟨p - 1, by omega⟩
  have h5 : 5 ^ q % 2 = 1 := by
    induction q with
    | zero => rfl
    | succ q ih => rw [Nat.pow_succ]; have := ih (by omega); omega
  have hodd : (M * 5 ^ q) % 2 = 1 := by rw [Nat.mul_mod, hM, h5]
  have e : M * 5 ^ (q + 1) = 10 * (M * 5 ^ q / 2) + 5 := by
    rw [Nat.pow_succ, ← Nat.mul_assoc]; omega
  exact ⟨dcs (M * 5 ^ q / 2), by rw [e, dcs_step _ 5 (by omega) (by omega)]; rfl⟩
theorem pad_last (M p : Nat) (hM : M % 2 = 1) (hp : 1 ≤ p) : ∃ a, (pad p (M * 5 ^ p)).drop ((pad p (M * 5 ^ p)).length - p) = a ++ [53] := by
  obtain ⟨a, ha⟩ := last_five M p hM hp
  have hl := pad_length p (M * 5 ^ p)
  have e : pad p (M * 5 ^ p) = (List.replicate (p + 1 - (dcs (M * 5 ^ p)).length) 48 ++ a) ++ [53] := by unfold pad; rw [ha, List.append_assoc]
  obtain ⟨b, hb⟩ : ∃ b, List.replicate (p + 1 - (dcs (M * 5 ^ p)).length) (48 : Int) ++ a = b := ⟨_, rfl⟩
  rw [hb] at e
  rw [e] at hl ⊢
  rw [List.length_append, List.length_singleton] at hl ⊢
  refine ⟨b.drop (b.length + 1 - p), ?_⟩
  rw [List.drop_append_of_le_length (by omega)]
theorem text_l1 (S : List Int) (M p : Nat) (hS : By S) (hSl : S.length ≤ 1) (hM : M % 2 = 1) (hMb : M < 16777216) (hp : 1 ≤ p) (hpb : p ≤ 400) : ∀ (m i : Nat), m + i = p →
    Ev (fun k => single_Text.l1 k (strOfNums S) (dgs 1000000000 (M * 5 ^ i)) (p : Int) (p : Int) (i : Int)) (strOfNums (S ++ pnt p (M * 5 ^ p))) := by
  have hsz : ∀ i, i ≤ p → (dgs 1000000000 (M * 5 ^ i)).length ≤ i + 1 := by
    intro i hi
    rw [dgs_len_le (by omega)]
    have h1 : 5 ^ i ≤ 1000000000 ^ i := Nat.pow_le_pow_left (by omega) i
    have h2 : M * 5 ^ i < 16777216 * 1000000000 ^ i := by
      have := Nat.mul_le_mul_left M h1
      have h3 := Nat.mul_lt_mul_of_pos_right hMb (Nat.pow_pos (n := i) (show 0 < 1000000000 by omega))
      omega
    have h3 : 1000000000 * 1000000000 ^ i = 1000000000 ^ (i + 1) := by rw [Nat.pow_succ, Nat.mul_comm]
    have h5 := Nat.pow_pos (n := i) (show 0 < 1000000000 by omega)
    rw [← h3]
    generalize 1000000000 ^ i = z at *
    omega
  intro m
  induction m with
  | zero =>
    intro i hi
    obtain rfl : i = p := by omega
    have hv : M * 5 ^ i ≠ 0 := Nat.mul_ne_zero (by omega) (Nat.ne_of_gt (Nat.pow_pos (by omega)))
    have hdl : (dcs (M * 5 ^ i)).length ≤ 8 + i := by
      rw [dcs_length, dgs_len_le (by omega)]
      have h1 : 5 ^ i ≤ 10 ^ i := Nat.pow_le_pow_left (by omega) i
      have h2 : M * 5 ^ i < 16777216 * 10 ^ i := by
        have := Nat.mul_le_mul_left M h1
        have h3 := Nat.mul_lt_mul_of_pos_right hMb (Nat.pow_pos (n := i) (show 0 < 10 by omega))
        omega
      have h3 : 100000000 * 10 ^ i = 10 ^ (8 + i) := by rw [Nat.pow_add]
      have h5 := Nat.pow_pos (n := i) (show 0 < 10 by omega)
      rw [← h3]
      generalize 10 ^ i = z at *
      omega
    have hdig := ldigits_ev (M * 5 ^ i) hv (by have := hsz i (by omega); omega)
    obtain ⟨a, ha⟩ := pad_last M i hM hp
    obtain ⟨v, hvv⟩ : ∃ v, M * 5 ^ i = v := ⟨_, rfl⟩
    rw [hvv] at hdl hdig ha ⊢
    have hpl := pad_length i v
    have ht := tail1_ev S (pad i v) i a 53 hS (pad_dd i v) (by omega) (by omega) (by omega) ha (by omega)
    have := hdig.bind (f := fun k t361 => (if (t361.size : Int) ≤ (i : Int) then ((strings_Repeat.f (⟨#[48]⟩ : ByteArray) (wrap64 ((wrap64 ((i : Int) + 1)) - (t361.size : Int)))).bind fun t362 => (if t362.size + t361.size ≤ 9223372036854775807 then (tail1 k (strOfNums S) (t362 ++ t361) (i : Int)) else none)) else (tail1 k (strOfNums S) t361 (i : Int)))) (r := strOfNums (S ++ pnt i v)) (by
      refine Ev.congr (fun k => ?_) ht
      rw [nums_size]
      by_cases c : (dcs v).length ≤ i
      · rw [if_pos (by omega), wrap_in (a := (i : Int) + 1) (by omega) (by omega), wrap_in (by omega) (by omega), show (i : Int) + 1 - ((dcs v).length : Int) = ((i + 1 - (dcs v).length : Nat) : Int) by omega, repeat_zeros _ (by omega), Option.bind_some, nums_size, List.length_replicate, if_pos (by omega), ← nums_append]
        rfl
      · rw [if_neg (by omega)]
        unfold pad
        rw [show i + 1 - (dcs v).length = 0 by omega]
        rfl)
    refine Ev.step (fun k => ?_) this
    rw [single_Text.l1, if_neg (by omega)]
    rfl
  | succ m ih =>
    intro i hi
    have h2 := ih (i + 1) (by omega)
    have ht := ltimes_ev (M * 5 ^ i) 5 (by omega) (by omega) (by have := hsz i (by omega); omega)
    rw [Nat.mul_assoc, ← Nat.pow_succ] at ht
    have := ht.bind (f := fun k t358 => single_Text.l1 k (strOfNums S) t358 (p : Int) (p : Int) (wrap64 ((i : Int) + 1))) (by
      refine Ev.congr (fun k => ?_) h2
      rw [next_k i (by omega)])
    refine Ev.step (fun k => ?_) this
    rw [single_Text.l1, if_pos (by omega)]
    rfl
theorem text_end (S D x5 : List Int) (s : Bool) (M : Int) (e : Nat) (hSl : S.length ≤ 1) (hDl : D.length ≤ 1000000) (hd : Ev (fun k => single_long_digits.f k x5) (strOfNums D)) :
    Ev (fun k => single_Text.l0 k (strOfNums S) x5 (e : Int) (e : Int) 0 s M (e : Int)) (strOfNums (S ++ D)) := by
  have := hd.bind (f := fun _ t357 => (if (strOfNums S).size + t357.size ≤ 9223372036854775807 then (some ((strOfNums S) ++ t357)) else (none))) (r := strOfNums (S ++ D)) (by
    refine Ev.congr (fun k => ?_) (Ev.now _)
    rw [nums_size, nums_size, if_pos (by omega), nums_append])
  refine Ev.step (fun k => ?_) this
  rw [single_Text.l0, if_neg (by omega), if_pos (by omega)]
theorem text_l0 (S : List Int) (s : Bool) (M e : Nat) (hSl : S.length ≤ 1) (hM : M ≠ 0) (hMb : M < 16777216) (heb : e ≤ 400) : ∀ (m i : Nat), m + i = e →
    Ev (fun k => single_Text.l0 k (strOfNums S) (dgs 1000000000 (M * 2 ^ i)) (e : Int) (i : Int) 0 s (M : Int) (e : Int)) (strOfNums (S ++ dcs (M * 2 ^ e))) := by
  have hsz : ∀ i, i ≤ e → M * 2 ^ i < 10 ^ (8 + i) := by
    intro i hi
    have h1 : 2 ^ i ≤ 10 ^ i := Nat.pow_le_pow_left (by omega) i
    have h2 : M * 2 ^ i < 16777216 * 10 ^ i := by
      have := Nat.mul_le_mul_left M h1
      have h3 := Nat.mul_lt_mul_of_pos_right hMb (Nat.pow_pos (n := i) (show 0 < 10 by omega))
      omega
    have h3 : 100000000 * 10 ^ i = 10 ^ (8 + i) := by rw [Nat.pow_add]
    have h5 := Nat.pow_pos (n := i) (show 0 < 10 by omega)
    generalize 10 ^ i = z at *
    omega
  have hsl : ∀ i, i ≤ e → (dgs 1000000000 (M * 2 ^ i)).length ≤ 8 + i := by
    intro i hi
    rw [dgs_len_le (by omega)]
    have h1 : 10 ^ (8 + i) ≤ 1000000000 ^ (8 + i) := Nat.pow_le_pow_left (by omega) _
    exact Nat.lt_of_lt_of_le (hsz i hi) h1
  intro m
  induction m with
  | zero =>
    intro i hi
    obtain rfl : i = e := by omega
    have hv : M * 2 ^ i ≠ 0 := Nat.mul_ne_zero hM (Nat.ne_of_gt (Nat.pow_pos (by omega)))
    have hdl : (dcs (M * 2 ^ i)).length ≤ 8 + i := by
      rw [dcs_length, dgs_len_le (by omega)]
      exact hsz i (by omega)
    exact text_end S _ _ s _ i hSl (by omega) (ldigits_ev _ hv (by have := hsl i (by omega); omega))
  | succ m ih =>
    intro i hi
    have h2 := ih (i + 1) (by omega)
    have ht := ltimes_ev (M * 2 ^ i) 2 (by omega) (by omega) (by have := hsl i (by omega); omega)
    rw [Nat.mul_assoc, ← Nat.pow_succ] at ht
    have := ht.bind (f := fun k t354 => single_Text.l0 k (strOfNums S) t354 (e : Int) (wrap64 ((i : Int) + 1)) 0 s (M : Int) (e : Int)) (by
      refine Ev.congr (fun k => ?_) h2
      rw [next_k i (by omega)])
    refine Ev.step (fun k => ?_) this
    rw [single_Text.l0, if_pos (by omega)]
    rfl
theorem ld_one : ([1] : List Int) = dgs 1000000000 1 := by
  rw [dgs_pos (by omega) (by omega), show 1 / 1000000000 = 0 from rfl, dgs_zero]; rfl
/-- What Text says of a finite number. -/
theorem text_fin (S : List Int) (s : Bool) (M : Nat) (e : Int) (hS : By S) (hSl : S.length ≤ 1) (hM : M % 2 = 1 ∨ (M = 0 ∧ e = 0)) (hMb : M < 16777216) (he0 : -400 ≤ e) (he1 : e ≤ 400) :
    Ev (fun k => single_Text.j0 k (strOfNums S) 0 s (M : Int) e) (strOfNums (S ++ txt M e)) := by
  by_cases c0 : M = 0
  · have ce : e = 0 := by omega
    subst c0 ce
    have h1 : Ev (fun k => single_long_times.f k [1] ((0 : Int) % 4294967296)) (dn 1000000000 1 0) := by
      refine Ev.step (f := fun k => single_long_times.l0 k 0 [0] 0 [1] 1 1) (fun k => ?_) ?_
      · show single_long_times.l0 (k + 1) 0 [] 0 [1] 1 0 = _
        rw [single_long_times.l0, if_pos (by decide), if_pos (by decide), if_pos (by decide), if_pos (by decide), show (IntKind.u64.wrap (IntKind.u64.wrap (IntKind.u64.wrap (rd [1] 0) * IntKind.u64.wrap 0) + 0)) = 0 from by decide +kernel, show wrap64 (0 + 1) = 1 from by decide +kernel, show Int.tmod 0 1000000000 % 4294967296 = 0 from by decide +kernel, show IntKind.u64.wrap (Int.tdiv 0 1000000000) = 0 from by decide +kernel]
        rfl
      · refine Ev.step (f := fun k => single_long_times.l1 k [0] 0) (fun k => ?_) ?_
        · rw [single_long_times.l0, if_neg (by decide)]
        · refine Ev.step (f := fun k => some [0]) (fun k => ?_) (Ev.now _)
          rw [single_long_times.l1, if_neg (by decide)]
    have h2 := digits_ev 1 0 (by omega) (by omega) (by omega)
    have h3 := text_end S (dz 0) _ s 0 0 hSl (by unfold dz; simp) h2
    have h4 : S ++ txt 0 0 = S ++ dz 0 := rfl
    rw [h4]
    have := h1.bind (f := fun k t351 => single_Text.l0 k (strOfNums S) t351 0 0 0 s 0 0) h3
    refine Ev.step (fun k => ?_) this
    rw [single_Text.j0, if_neg (by omega), if_neg (by omega)]
    rfl
  · have hodd : M % 2 = 1 := by omega
    have ht := ltimes_ev 1 M (by omega) (by omega) (by rw [← ld_one]; simp)
    rw [Nat.one_mul, ← ld_one] at ht
    have hmod : (M : Int) % 4294967296 = (M : Int) := by omega
    have key : Ev (fun k => single_Text.l0 k (strOfNums S) (dgs 1000000000 M) e 0 0 s (M : Int) e) (strOfNums (S ++ txt M e)) := by
      by_cases c : 0 ≤ e
      · obtain ⟨n, rfl⟩ := Int.eq_ofNat_of_zero_le c
        have := text_l0 S s M n hSl c0 hMb (by omega) n 0 (by omega)
        rw [Nat.pow_zero, Nat.mul_one] at this
        unfold txt dz
        rw [if_pos c, Int.toNat_natCast, if_neg (Nat.mul_ne_zero c0 (Nat.ne_of_gt (Nat.pow_pos (by omega))))]
        exact this
      · obtain ⟨p, hp⟩ : ∃ p : Nat, -e = (p : Int) := Int.eq_ofNat_of_zero_le (by omega)
        have := text_l1 S M p hS hSl hodd hMb (by omega) (by omega) p 0 (by omega)
        rw [Nat.pow_zero, Nat.mul_one] at this
        unfold txt
        rw [if_neg c, hp, Int.toNat_natCast]
        refine Ev.step (fun k => ?_) this
        rw [single_Text.l0, if_neg (by omega), if_neg (by omega), wrap_in (by omega) (by omega), hp]
        rfl
    have := ht.bind (f := fun k t351 => single_Text.l0 k (strOfNums S) t351 e 0 0 s (M : Int) e) key
    refine Ev.step (fun k => ?_) this
    rw [single_Text.j0, if_neg (by omega), if_neg (by omega), hmod]
/-- A single's parts: kind, sign, odd number and power. -/
theorem parts_cases (a : Int) (h0 : 0 ≤ a) (h1 : a < 4294967296) :
    (partsV a = (2, false, 0, 0) ∧ rawV a = (2, false, 0, 0)) ∨ (∃ s, partsV a = (1, s, 0, 0) ∧ rawV a = (1, s, 0, 0) ∧ a = sgn s + 2139095040) ∨
    (∃ (s : Bool) (m : Nat) (e : Int) (M t : Nat), partsV a = (0, s, (M : Int), if m = 0 then 0 else e + t) ∧ rawV a = (0, s, (m : Int), e) ∧ Fin32 a s m e ∧ m = 2 ^ t * M ∧ (M % 2 = 1 ∨ (M = 0 ∧ t = 0)) ∧ M < 16777216 ∧ t < 64 ∧ m < 16777216 ∧ -149 ≤ e ∧ e ≤ 104) := by
  rcases raw_cases a h0 h1 with ⟨ra, _⟩ | ⟨s, ra, _, hw⟩ | ⟨s, m, e, ra, _, fa⟩
  · exact .inl ⟨by rw [partsV_of ra, if_pos rfl], ra⟩
  · exact .inr (.inl ⟨s, by rw [partsV_of ra, if_pos rfl], ra, hw⟩)
  · have hb : m < 16777216 ∧ -149 ≤ e ∧ e ≤ 104 := by rcases fa.form with ⟨g1, g2⟩ | ⟨g1, g2, g3, g4⟩ <;> omega
    by_cases c : m = 0
    · subst c
      refine .inr (.inr ⟨s, 0, e, 0, 0, ?_, ra, fa, by omega, .inr ⟨rfl, rfl⟩, by omega, by omega, by omega, hb.2.1, hb.2.2⟩)
      rw [partsV_of ra, if_pos rfl, if_pos (show ((0 : Nat) : Int) = 0 from rfl)]; rfl
    · obtain ⟨q, hq⟩ := tz_spec m c (by omega)
      have ht := tz_lt m c (by omega)
      have hp := Nat.two_pow_pos (tz m)
      have hdiv : m / 2 ^ tz m = 2 * q + 1 := by
        obtain ⟨T, hT⟩ : ∃ T, 2 ^ tz m = T := ⟨_, rfl⟩
        rw [hT] at hq hp ⊢
        rw [hq, Nat.mul_div_cancel_left _ hp]
      have hle : 2 * q + 1 ≤ m := by rw [← hdiv]; exact Nat.div_le_self _ _
      refine .inr (.inr ⟨s, m, e, 2 * q + 1, tz m, ?_, ra, fa, hq, .inl (by omega), by omega, ht, hb.1, hb.2.1, hb.2.2⟩)
      rw [partsV_of ra, if_neg (by omega), Int.toNat_natCast, hdiv, if_neg c]
theorem sg_empty : (⟨#[]⟩ : ByteArray) = strOfNums (sg false) := rfl
theorem sg_minus : (⟨#[45]⟩ : ByteArray) = strOfNums (sg true) := rfl
/-- What Text says. -/
theorem text_ev (a : Int) (h0 : 0 ≤ a) (h1 : a < 4294967296) :
    (partsV a = (2, false, 0, 0) → Ev (fun k => single_Text.f k a) (strOfNums [110, 111, 110, 101])) ∧
    (∀ s, partsV a = (1, s, 0, 0) → Ev (fun k => single_Text.f k a) (strOfNums (sg s ++ [105, 110, 102, 105, 110, 105, 116, 101]))) ∧
    (∀ (s : Bool) (M : Nat) (e : Int), partsV a = (0, s, (M : Int), e) → (M % 2 = 1 ∨ (M = 0 ∧ e = 0)) → M < 16777216 → -400 ≤ e → e ≤ 400 → Ev (fun k => single_Text.f k a) (strOfNums (sg s ++ txt M e))) := by
  have hp : single_Parts.f a = some (partsV a) := by unfold single_Parts.f; rw [if_pos ⟨h0, h1⟩]
  refine ⟨?_, ?_, ?_⟩
  · intro h
    refine ⟨5, fun k hk => ?_⟩
    obtain ⟨k, rfl⟩ : ∃ j, k = j + 1 := ⟨k - 1, by omega⟩
    show single_Text.f (k + 1) a = _
    unfold single_Text.f
    rw [hp, h, Option.bind_some, if_neg (by decide), single_Text.j0, if_pos (by rfl)]
    rfl
  · intro s h
    have key : Ev (fun k => single_Text.j0 k (strOfNums (sg s)) 1 s 0 0) (strOfNums (sg s ++ [105, 110, 102, 105, 110, 105, 116, 101])) := by
      have := sg_len s
      refine Ev.step (fun k => ?_) (Ev.now _)
      rw [single_Text.j0, if_neg (by omega), if_pos (by omega), nums_size, if_pos (by omega), nums_append]
      rfl
    refine Ev.congr (fun k => ?_) key
    unfold single_Text.f
    rw [hp, h, Option.bind_some]
    cases s
    · rw [if_neg (show ¬ (false = true) by decide), sg_empty]
    · rw [if_pos rfl, sg_minus]
  · intro s M e h hM hMb he0 he1
    have key := text_fin (sg s) s M e (sg_by s) (sg_len s) hM hMb he0 he1
    refine Ev.congr (fun k => ?_) key
    unfold single_Text.f
    rw [hp, h, Option.bind_some]
    cases s
    · rw [if_neg (show ¬ (false = true) by decide), sg_empty]
    · rw [if_pos rfl, sg_minus]
end Go.Proofs.YteecekhfpfnepaaDoor.Tx
end

section
namespace Go.Proofs.YteecekhfpfnepaaDoor.Tx
open Go.RowKit Go.Proofs.YteecekhfpfnepaaDoor.PAll Go.Proofs.YteecekhfpfnepaaDoor.Nums Go.Proofs.YteecekhfpfnepaaDoorW.PrintWords Go.Proofs.YteecekhfpfnepaaDoorW.PrintLast Go.Proofs.YteecekhfpfnepaaDoorW.PrintMore
open Go.Proofs.YteecekhfpfnepaaDoor.Sg (NR sgn rung rung_scale rung_le join_div scale_join Fin32)
set_option linter.unusedVariables false
set_option linter.unusedSimpArgs false
theorem stk_spec (N D : Nat) (hD : 0 < D) : stk N D * D = 2 * N ∨ (stk N D % 2 = 1 ∧ (stk N D - 1) * D < 2 * N ∧ 2 * N < (stk N D + 1) * D) := by
  have h := Nat.mod_add_div N D
  have hl := Nat.mod_lt N hD
  obtain ⟨r, hr⟩ : ∃ r, N % D = r := ⟨_, rfl⟩
  obtain ⟨q, hq⟩ : ∃ q, N / D = q := ⟨_, rfl⟩
  rw [hr] at hl
  rw [hr, hq] at h
  have hs : stk N D = 2 * q + if r = 0 then 0 else 1 := by unfold stk; rw [hr, hq]
  have e : D * q = q * D := Nat.mul_comm _ _
  by_cases c : r = 0
  · rw [if_pos c, Nat.add_zero] at hs
    left
    rw [hs, Nat.mul_assoc, ← h]
    omega
  · rw [if_neg c] at hs
    right
    rw [hs]
    have e1 : (2 * q + 1 - 1) * D = 2 * (q * D) := by rw [Nat.add_sub_cancel, Nat.mul_assoc]
    have e2 : (2 * q + 1 + 1) * D = 2 * (q * D) + 2 * D := by rw [show 2 * q + 1 + 1 = 2 * (q + 1) by omega, Nat.mul_assoc, Nat.add_mul]; omega
    rw [e1, e2]
    generalize q * D = z at *
    omega
theorem NR_false (y : Nat) (e : Int) : NR false y e = (rung y e : Int) := by unfold NR; show (0 : Int) + _ = _; omega
theorem wf_pow_lt {a b : Nat} (h : 2 ^ a < 2 ^ b) : a < b := (Nat.pow_lt_pow_iff_right (by omega)).mp h
theorem ten_len {V k : Nat} (h : V < 10 ^ k) : (dgs 10 V).length ≤ k := (dgs_len_le (by omega)).mpr h
theorem cpl_all (s w : ByteArray) : ∀ (n i j : Nat), i + n ≤ s.size → j + n = w.size → (∀ t, t < n → bt s ((i + t : Nat) : Int) = bt w ((j + t : Nat) : Int)) → cpl s i w j = n
  | 0, i, j, h1, h2, h => by rw [cpl_no (fun g => by have := g.2.1; omega)]
  | n + 1, i, j, h1, h2, h => by
    have ih := cpl_all s w n (i + 1) (j + 1) (by omega) (by omega) (fun t ht => by
      have := h (t + 1) (by omega)
      rwa [show i + (t + 1) = i + 1 + t by omega, show j + (t + 1) = j + 1 + t by omega] at this)
    rw [cpl_yes ⟨by omega, by omega, by simpa using h 0 (by omega)⟩, ih]
theorem parse_wnone : Ev (fun k => single_Parse.f k (strOfNums [110, 111, 110, 101])) (2143289344, 0, 0) := by
  have e : strOfNums [110, 111, 110, 101] = wNone := rfl
  have hc := cpl_all wNone wNone 4 0 0 (by decide) (by decide) (fun t ht => rfl)
  have := parse_none wNone (by decide) (by decide +kernel) (by decide +kernel)
  rw [hc, if_pos ⟨rfl, rfl⟩] at this
  rw [e]; exact this
theorem parse_winf (s : Bool) : Ev (fun k => single_Parse.f k (strOfNums (sg s ++ [105, 110, 102, 105, 110, 105, 116, 101]))) (sgn s + 2139095040, 0, 0) := by
  have h8 : ∀ t : Nat, t < 8 → bt (strOfNums (sg s ++ [105, 110, 102, 105, 110, 105, 116, 101])) (((sg s).length + t : Nat) : Int) = bt wInf ((0 + t : Nat) : Int) := by
    intro t ht
    have : t = 0 ∨ t = 1 ∨ t = 2 ∨ t = 3 ∨ t = 4 ∨ t = 5 ∨ t = 6 ∨ t = 7 := by omega
    rcases this with rfl | rfl | rfl | rfl | rfl | rfl | rfl | rfl <;> cases s <;> decide +kernel
  have hn : ng (strOfNums (sg s ++ [105, 110, 102, 105, 110, 105, 116, 101])) = s := by cases s <;> decide +kernel
  have hi : i0 (strOfNums (sg s ++ [105, 110, 102, 105, 110, 105, 116, 101])) = (sg s).length := by unfold i0; rw [hn]; cases s <;> rfl
  have hf : fb (strOfNums (sg s ++ [105, 110, 102, 105, 110, 105, 116, 101])) = 105 := by cases s <;> decide +kernel
  have hsz : (strOfNums (sg s ++ [105, 110, 102, 105, 110, 105, 116, 101])).size = (sg s).length + 8 := by rw [nums_size]; simp
  have hl := sg_len s
  have hc := cpl_all _ wInf 8 (sg s).length 0 (by omega) (by decide) h8
  have := parse_inf _ (by omega) hf
  rw [hi, hc, hn, if_pos ⟨rfl, hsz.symm⟩] at this
  exact this
end Go.Proofs.YteecekhfpfnepaaDoor.Tx
end

section
namespace Go.Proofs.YteecekhfpfnepaaDoor.Tx
open Go.RowKit Go.Proofs.YteecekhfpfnepaaDoor.PAll Go.Proofs.YteecekhfpfnepaaDoor.Nums Go.Proofs.YteecekhfpfnepaaDoorW.PrintWords Go.Proofs.YteecekhfpfnepaaDoorW.PrintLast Go.Proofs.YteecekhfpfnepaaDoorW.PrintMore
open Go.Proofs.YteecekhfpfnepaaDoor.Sg (NR sgn rung rung_le join_div)
set_option linter.unusedVariables false
set_option linter.unusedSimpArgs false
theorem scan_f (s : ByteArray) (hs : s.size ≤ 1000000) : Ev (fun k => heraldref03_scan.f k s) (tS s (ng s) (i0 s)) := by
  have hi := i0_le s
  have h := scan_S s (ng s) (i0 s) hs hi.1
  have j0 : Ev (fun k => heraldref03_scan.j0 k s 0 (ng s)) (tS s (ng s) (i0 s)) := by
    refine Ev.step (fun k => ?_) h
    rw [heraldref03_scan.j0]
    unfold i0
    by_cases c : ng s = true
    · rw [if_pos c, if_pos c, show wrap64 (0 + 1) = 1 from by decide +kernel]; rfl
    · rw [if_neg c, if_neg c]; rfl
  refine Ev.congr (fun k => ?_) j0
  unfold heraldref03_scan.f ng
  by_cases c : 0 < s.size
  · rw [if_pos (by omega)]
    have e := bt_beq s 0 45
    rw [show ((0 : Nat) : Int) = 0 from rfl] at e
    rw [e]
    by_cases c2 : bt s 0 = 45
    · rw [decide_eq_true c2, decide_eq_true ⟨c, c2⟩]
    · rw [decide_eq_false c2, decide_eq_false (fun h => c2 h.2)]
  · rw [if_neg (by omega), decide_eq_false (fun h => c h.1)]
theorem scX_bad (s : ByteArray) (neg : Bool) (L : List Int) (beh : Int) (i e1 f2 e2 p : Nat) (h : scX s i e1 f2 e2 = .bad p) : (tX s neg L beh e2).2.2.2.2 = (p : Int) ∧ e2 ≤ p := by
  unfold scX at h
  unfold tX
  by_cases c : e2 < s.size ∧ (bt s (e2 : Int) = 101 ∨ bt s (e2 : Int) = 69)
  · rw [if_pos c] at h ⊢
    obtain ⟨q, hq⟩ : ∃ q, (if e2 + 1 < s.size ∧ (bt s ((e2 + 1 : Nat) : Int) = 43 ∨ bt s ((e2 + 1 : Nat) : Int) = 45) then e2 + 2 else e2 + 1) = q := ⟨_, rfl⟩
    have hql : e2 ≤ q := by rw [← hq]; split <;> omega
    rw [hq] at h ⊢
    unfold scY at h
    unfold tY
    by_cases c2 : dE s q = q
    · rw [if_pos c2] at h ⊢
      injection h with h
      subst h
      exact ⟨rfl, hql⟩
    · rw [if_neg c2] at h
      cases h
  · rw [if_neg c] at h
    cases h
theorem scX_good (s : ByteArray) (neg : Bool) (L : List Int) (beh : Int) (i e1 f2 e2 p i' e1' f2' e2' : Nat) (g : Bool) (q : Nat) (he : e2 ≤ s.size) (h : scX s i e1 f2 e2 = .good p i' e1' f2' e2' g q) :
    (i' = i ∧ e1' = e1 ∧ f2' = f2 ∧ e2' = e2) ∧ e2 ≤ p ∧ p ≤ s.size ∧ Dd (seg s q p) ∧ (p < s.size → (tX s neg L beh e2).2.2.2.2 = (p : Int)) ∧ (¬ p < s.size → tX s neg L beh e2 = (neg, L, beh, powV g (rf 0 (seg s q p)), -1)) := by
  unfold scX at h
  unfold tX
  by_cases c : e2 < s.size ∧ (bt s (e2 : Int) = 101 ∨ bt s (e2 : Int) = 69)
  · rw [if_pos c] at h
    rw [if_pos c]
    obtain ⟨q', hq⟩ : ∃ q, (if e2 + 1 < s.size ∧ (bt s ((e2 + 1 : Nat) : Int) = 43 ∨ bt s ((e2 + 1 : Nat) : Int) = 45) then e2 + 2 else e2 + 1) = q := ⟨_, rfl⟩
    obtain ⟨g', hg⟩ : ∃ g, decide (e2 + 1 < s.size ∧ bt s ((e2 + 1 : Nat) : Int) = 45) = g := ⟨_, rfl⟩
    have hql : e2 ≤ q' ∧ q' ≤ s.size := by
      rw [← hq]
      split
      · omega
      · have := c.1; omega
    rw [hq, hg] at h
    rw [hq, hg]
    unfold scY at h
    unfold tY
    by_cases c2 : dE s q' = q'
    · rw [if_pos c2] at h; cases h
    · rw [if_neg c2] at h
      rw [if_neg c2]
      injection h with h1 h2 h3 h4 h5 h6 h7
      subst h1 h2 h3 h4 h5 h6 h7
      have hle := dE_le s q'
      have hz := dE_size s q' hql.2
      refine ⟨⟨rfl, rfl, rfl, rfl⟩, by omega, hz, seg_dd s _ q' rfl, ?_, ?_⟩
      · intro hp; rw [if_pos hp]
      · intro hp; rw [if_neg hp]
  · rw [if_neg c] at h
    rw [if_neg c]
    injection h with h1 h2 h3 h4 h5 h6 h7
    subst h1 h2 h3 h4 h5 h6 h7
    refine ⟨⟨rfl, rfl, rfl, rfl⟩, by omega, he, by rw [seg_self]; exact Dd.nil, ?_, ?_⟩
    · intro hp; rw [if_pos hp]
    · intro hp; rw [if_neg hp, seg_self]; rfl
theorem sc_bad (s : ByteArray) (neg : Bool) (i p : Nat) (h : scS s i = .bad p) : (tS s neg i).2.2.2.2 = (p : Int) ∧ i ≤ p := by
  have hle := dE_le s i
  unfold scS at h
  unfold tS
  by_cases c0 : dE s i = i
  · rw [if_pos c0] at h ⊢
    injection h with h
    subst h
    exact ⟨rfl, Nat.le_refl _⟩
  · rw [if_neg c0] at h ⊢
    by_cases c1 : dE s i < s.size ∧ bt s ((dE s i : Nat) : Int) = 46
    · rw [if_pos c1] at h ⊢
      have hle2 := dE_le s (dE s i + 1)
      by_cases c2 : dE s (dE s i + 1) = dE s i + 1
      · rw [if_pos c2] at h ⊢
        injection h with h
        subst h
        exact ⟨rfl, by omega⟩
      · rw [if_neg c2] at h ⊢
        obtain ⟨h1, h2⟩ := scX_bad s neg _ _ _ _ _ _ _ h
        exact ⟨h1, by omega⟩
    · rw [if_neg c1] at h ⊢
      obtain ⟨h1, h2⟩ := scX_bad s neg _ _ _ _ _ _ _ h
      exact ⟨h1, by omega⟩
theorem sc_good (s : ByteArray) (neg : Bool) (i p i' e1 f2 e2 : Nat) (g : Bool) (q : Nat) (hi : i ≤ s.size) (h : scS s i = .good p i' e1 f2 e2 g q) :
    i ≤ p ∧ p ≤ s.size ∧ i' ≤ e1 ∧ e1 ≤ s.size ∧ f2 ≤ e2 ∧ e2 ≤ s.size ∧ e1 ≤ f2 ∧ Dd (seg s i' e1) ∧ Dd (seg s f2 e2) ∧ Dd (seg s q p) ∧ (p < s.size → (tS s neg i).2.2.2.2 = (p : Int)) ∧
    (¬ p < s.size → tS s neg i = (neg, dvs (seg s i' e1 ++ seg s f2 e2), ((e2 - f2 : Nat) : Int), powV g (rf 0 (seg s q p)), -1)) := by
  have hle := dE_le s i
  have hz := dE_size s i hi
  have hd := seg_dd s _ i rfl
  have happ : ∀ a b : List Int, dvs (a ++ b) = dvs a ++ dvs b := fun a b => by unfold dvs; rw [List.map_append]
  unfold scS at h
  unfold tS
  by_cases c0 : dE s i = i
  · rw [if_pos c0] at h; cases h
  · rw [if_neg c0] at h
    rw [if_neg c0]
    by_cases c1 : dE s i < s.size ∧ bt s ((dE s i : Nat) : Int) = 46
    · rw [if_pos c1] at h
      rw [if_pos c1]
      have hle2 := dE_le s (dE s i + 1)
      have hz2 := dE_size s (dE s i + 1) (by omega)
      have hd2 := seg_dd s _ (dE s i + 1) rfl
      by_cases c2 : dE s (dE s i + 1) = dE s i + 1
      · rw [if_pos c2] at h; cases h
      · rw [if_neg c2] at h
        rw [if_neg c2]
        obtain ⟨⟨rfl, rfl, rfl, rfl⟩, g2, g3, g4, g5, g6⟩ := scX_good s neg (dvs (seg s i (dE s i)) ++ dvs (seg s (dE s i + 1) (dE s (dE s i + 1)))) ((dE s (dE s i + 1) - (dE s i + 1) : Nat) : Int) _ _ _ _ _ _ _ _ _ _ _ hz2 h
        exact ⟨by omega, g3, hle, hz, hle2, hz2, by omega, hd, hd2, g4, g5, fun hp => by rw [g6 hp, happ]⟩
    · rw [if_neg c1] at h
      rw [if_neg c1]
      obtain ⟨⟨rfl, rfl, rfl, rfl⟩, g2, g3, g4, g5, g6⟩ := scX_good s neg (dvs (seg s i (dE s i))) 0 _ _ _ _ _ _ _ _ _ _ _ hz h
      refine ⟨by omega, g3, hle, hz, Nat.le_refl _, hz, Nat.le_refl _, hd, by rw [seg_self]; exact Dd.nil, g4, g5, fun hp => ?_⟩
      rw [g6 hp, seg_self, List.append_nil, Nat.sub_self]
      rfl
/-- Digits times a power of ten: the nearest single, told twice. -/
theorem dec_same (neg : Bool) (L : List Int) (P E : Int) (hL : Dd L) (hl : L.length ≤ 240) (hP0 : -50000000 ≤ P) (hP1 : P ≤ 50000000) (hE0 : -50000000 ≤ E) (hE1 : E ≤ 50000000) (hPE : P = E ∨ (90000 ≤ P ∧ 90000 ≤ E) ∨ (P ≤ -90000 ∧ E ≤ -90000)) :
    ∃ R : Nat, R < 2147483648 ∧ Ev (fun k => single_nearest.f k (strOfNums L) P) (R : Int) ∧ Ev (fun k => heraldref03_decimal.f k neg (dvs L) E) (sgn neg + (R : Int)) := by
  have hvl := pv_lt L 0 hL
  rw [Nat.zero_add, Nat.one_mul] at hvl
  have hlen := ten_len hvl
  have hVb := bl_lt_ten hvl
  obtain ⟨V, hV⟩ : ∃ V, pv 0 L = V := ⟨_, rfl⟩
  have N := nearest_head L P hL hl (by omega) (by omega)
  have D := decimal_head neg L E hL hl (by omega) (by omega)
  rw [hV] at hlen hVb N D
  have z0 : sgn neg + ((0 : Nat) : Int) = sgn neg := by omega
  by_cases c0 : V = 0
  · refine ⟨0, by omega, N _ (fun _ => rfl) (fun h => absurd c0 h) (fun h => absurd c0 h) (fun h => absurd c0 h), ?_⟩
    rw [z0]
    exact D _ (fun _ => rfl) (fun h => absurd c0 h) (fun h => absurd c0 h) (fun h => absurd c0 h)
  · have hl0 := dgs_len_pos (b := 10) (n := V) (by omega) c0
    by_cases c1 : ((dgs 10 V).length : Int) + P < -60
    · have c1' : ((dgs 10 V).length : Int) + E < -60 := by rcases hPE with h | h | h <;> omega
      refine ⟨0, by omega, N _ (fun _ => rfl) (fun _ _ => rfl) (fun _ h => by omega) (fun _ h => absurd c1 h), ?_⟩
      rw [z0]
      exact D _ (fun _ => rfl) (fun _ _ => rfl) (fun _ h => by omega) (fun _ h => absurd c1' h)
    · by_cases c2 : ((dgs 10 V).length : Int) + P > 60
      · have c2' : ((dgs 10 V).length : Int) + E > 60 := by rcases hPE with h | h | h <;> omega
        refine ⟨2139095040, by omega, N _ (fun h => absurd h c0) (fun _ h => by omega) (fun _ _ => rfl) (fun _ _ h => absurd c2 h), ?_⟩
        exact D _ (fun h => absurd h c0) (fun _ h => by omega) (fun _ _ => rfl) (fun _ _ h => absurd c2' h)
      · have hEq : P = E := by rcases hPE with h | h | h <;> omega
        subst hEq
        have n0 : V * 10 ^ P.toNat ≠ 0 := Nat.mul_ne_zero c0 (Nat.ne_of_gt (Nat.pow_pos (by omega)))
        have d0 : 10 ^ (-P).toNat ≠ 0 := Nat.ne_of_gt (Nat.pow_pos (by omega))
        have bn : bl (V * 10 ^ P.toNat) ≤ 3000 := by
          have h1 : V * 10 ^ P.toNat < 10 ^ L.length * 10 ^ P.toNat := Nat.mul_lt_mul_of_pos_right (by rw [← hV]; exact hvl) (Nat.pow_pos (by omega))
          rw [← Nat.pow_add] at h1
          have := bl_lt_ten h1
          omega
        have bd : bl (10 ^ (-P).toNat) ≤ 3000 := by have := bl_ten (-P).toNat; omega
        obtain ⟨x, y, x1, x2, x3⟩ := ratio_ev _ _ n0 d0 (by omega) (by omega)
        obtain ⟨a, b, a1, a2, a3⟩ := scaled_ev neg _ _ n0 d0 bn bd
        obtain ⟨n, hn⟩ : ∃ n, V * 10 ^ P.toNat = n := ⟨_, rfl⟩
        obtain ⟨d, hd⟩ : ∃ d, 10 ^ (-P).toNat = d := ⟨_, rfl⟩
        rw [hn] at x1 x2 x3 a1 a2 a3 n0 N D
        rw [hd] at x1 x2 x3 a1 a2 a3 d0 N D
        have hdd : y + a ≤ x + b := by
          have px := Nat.pow_pos (n := x) (show 0 < 2 by omega)
          have py := Nat.pow_pos (n := y) (show 0 < 2 by omega)
          have pa := Nat.pow_pos (n := a) (show 0 < 2 by omega)
          have h1 : 549755813888 * (d * 2 ^ y) * 2 ^ a < n * 2 ^ x * 2 ^ a := Nat.mul_lt_mul_of_pos_right x1 pa
          have h2 : n * 2 ^ a * 2 ^ x < d * 2 ^ b * 2 ^ 26 * 2 ^ x := Nat.mul_lt_mul_of_pos_right a2 px
          have e1 : n * 2 ^ x * 2 ^ a = n * 2 ^ a * 2 ^ x := Nat.mul_right_comm _ _ _
          have e2 : 549755813888 * (d * 2 ^ y) * 2 ^ a = d * (549755813888 * 2 ^ (y + a)) := by rw [Nat.pow_add]; simp only [Nat.mul_assoc, Nat.mul_left_comm d]
          have e3 : d * 2 ^ b * 2 ^ 26 * 2 ^ x = d * (67108864 * 2 ^ (x + b)) := by
            rw [Nat.pow_add, show (2 : Nat) ^ 26 = 67108864 from rfl]
            simp only [Nat.mul_assoc, Nat.mul_comm (2 ^ b), Nat.mul_left_comm (2 ^ b)]
          rw [e1, e2] at h1
          rw [e3] at h2
          have h3 := Nat.lt_of_mul_lt_mul_left (Nat.lt_trans h1 h2)
          have h4 : 2 ^ (y + a) < 2 ^ (x + b) := by
            generalize 2 ^ (y + a) = u at *
            generalize 2 ^ (x + b) = v at *
            omega
          exact Nat.le_of_lt (wf_pow_lt h4)
        obtain ⟨t, ht⟩ : ∃ t, t + (y + a) = x + b := ⟨x + b - (y + a), by omega⟩
        have pB : 0 < d * 2 ^ b := Nat.mul_pos (by omega) (Nat.pow_pos (by omega))
        have pD : 0 < d * 2 ^ y := Nat.mul_pos (by omega) (Nat.pow_pos (by omega))
        have hq : 33554432 ≤ n * 2 ^ a / (d * 2 ^ b) := by
          rw [Nat.le_div_iff_mul_le pB, Nat.mul_comm]; exact a1
        have hX : stk (n * 2 ^ a) (d * 2 ^ b) * (d * 2 ^ b) = 2 * (n * 2 ^ a) ∨ (stk (n * 2 ^ a) (d * 2 ^ b) % 2 = 1 ∧ 33554432 ≤ stk (n * 2 ^ a) (d * 2 ^ b) ∧ (stk (n * 2 ^ a) (d * 2 ^ b) - 1) * (d * 2 ^ b) < 2 * (n * 2 ^ a) ∧ 2 * (n * 2 ^ a) < (stk (n * 2 ^ a) (d * 2 ^ b) + 1) * (d * 2 ^ b)) := by
          rcases stk_spec (n * 2 ^ a) (d * 2 ^ b) pB with h | ⟨h1, h2, h3⟩
          · exact .inl h
          · refine .inr ⟨h1, ?_, h2, h3⟩
            unfold stk
            omega
        have hj := join_div (stk (n * 2 ^ a) (d * 2 ^ b)) (stk (n * 2 ^ x) (d * 2 ^ y)) (2 * (n * 2 ^ a)) (d * 2 ^ b) (2 * (n * 2 ^ x)) (d * 2 ^ y) t ((y : Int) - x - 1) pB pD (by
          have e : 2 ^ a * (2 ^ t * 2 ^ y) = 2 ^ x * 2 ^ b := by rw [← Nat.pow_add, ← Nat.pow_add, ← Nat.pow_add, ← ht]; congr 1; omega
          calc 2 * (n * 2 ^ a) * 2 ^ t * (d * 2 ^ y) = 2 * n * d * (2 ^ a * (2 ^ t * 2 ^ y)) := by
                simp only [Nat.mul_assoc, Nat.mul_comm d, Nat.mul_left_comm d]
            _ = 2 * (n * 2 ^ x) * (d * 2 ^ b) := by
                rw [e]
                simp only [Nat.mul_assoc, Nat.mul_comm d, Nat.mul_left_comm d]) hX (stk_spec _ _ pD)
        rw [show (y : Int) - x - 1 + t = (b : Int) - a - 1 by omega] at hj
        refine ⟨rung (stk (n * 2 ^ x) (d * 2 ^ y)) ((y : Int) - x - 1), by have := rung_le (stk (n * 2 ^ x) (d * 2 ^ y)) ((y : Int) - x - 1); omega, ?_, ?_⟩
        · rw [NR_false] at x3
          exact N _ (fun h => absurd h c0) (fun _ h => absurd h c1) (fun _ h => absurd h c2) (fun _ _ _ => x3)
        · rw [hj]
          exact D _ (fun h => absurd h c0) (fun _ h => absurd h c1) (fun _ h => absurd h c2) (fun _ _ _ => a3)
end Go.Proofs.YteecekhfpfnepaaDoor.Tx
end

section
namespace Go.Proofs.YteecekhfpfnepaaDoor.Tx
open Go.RowKit Go.Proofs.YteecekhfpfnepaaDoor.PAll Go.Proofs.YteecekhfpfnepaaDoor.Nums Go.Proofs.YteecekhfpfnepaaDoorW.PrintWords Go.Proofs.YteecekhfpfnepaaDoorW.PrintLast Go.Proofs.YteecekhfpfnepaaDoorW.PrintMore
open Go.Proofs.YteecekhfpfnepaaDoor.Sg (sgn)
set_option linter.unusedVariables false
set_option linter.unusedSimpArgs false
def wMinf : ByteArray := ⟨#[45, 105, 110, 102, 105, 110, 105, 116, 101]⟩
theorem ref_word (s w : ByteArray) (hs : s.size ≤ 1000000) (hw : w.size ≤ 1000000) : ∀ (d i : Nat), d = s.size - i → i ≤ s.size → i ≤ w.size →
    Ev (fun k => heraldref03_word.l0 k s w (i : Int)) ((i + cpl s i w i : Nat) : Int) := by
  have fin : ∀ i : Nat, ¬ (i < s.size ∧ i < w.size ∧ bt s (i : Int) = bt w (i : Int)) → ∀ k, heraldref03_word.l0 (k + 1) s w (i : Int) = some ((i + cpl s i w i : Nat) : Int) := by
    intro i g k
    have z : i + cpl s i w i = i := by rw [cpl_no g]; rfl
    rw [z, heraldref03_word.l0]
    by_cases c1 : (i : Int) < (s.size : Int)
    · rw [if_pos c1]
      by_cases c2 : (i : Int) < (w.size : Int)
      · rw [if_pos c2, if_pos (by omega), if_neg (fun h => g ⟨by omega, by omega, h⟩)]
      · rw [if_neg c2]
    · rw [if_neg c1]
  intro d
  induction d with
  | zero =>
    intro i h h1 h2
    exact Ev.step (fin i (fun g => by have := g.1; omega)) (Ev.now _)
  | succ d ih =>
    intro i h h1 h2
    by_cases g : i < s.size ∧ i < w.size ∧ bt s (i : Int) = bt w (i : Int)
    · have hi := ih (i + 1) (by omega) (by omega) (by omega)
      obtain ⟨g1, g2, g3⟩ := g
      rw [cpl_yes ⟨g1, g2, g3⟩, show i + (cpl s (i + 1) w (i + 1) + 1) = i + 1 + cpl s (i + 1) w (i + 1) by omega]
      refine Ev.step (fun k => ?_) hi
      rw [heraldref03_word.l0, if_pos (by omega), if_pos (by omega), if_pos (by omega), if_pos g3, next_k i (by omega)]
    · exact Ev.step (fin i g) (Ev.now _)
theorem ref_word0 (s w : ByteArray) (hs : s.size ≤ 1000000) (hw : w.size ≤ 1000000) : Ev (fun k => heraldref03_word.f k s w) ((cpl s 0 w 0 : Nat) : Int) := by
  have := ref_word s w hs hw _ 0 rfl (by omega) (by omega)
  rw [Nat.zero_add] at this
  exact this
def wordsL : List ByteArray := [wInf, wMinf, wNone]
theorem ref_words (s : ByteArray) (hs : s.size ≤ 1000000) (p : Nat) : Ev (fun k => heraldref03_Parse.l0 k s (p : Int) wordsL 3 0) (0, ((max (max (max p (cpl s 0 wInf 0)) (cpl s 0 wMinf 0)) (cpl s 0 wNone 0) : Nat) : Int), 32) := by
  have one : ∀ (i : Nat) (w : ByteArray) (m : Nat) (R : Int × Int × Int), i < 3 → w.size ≤ 1000 → rdOf ByteArray.empty wordsL (i : Int) = w → Ev (fun k => heraldref03_Parse.l0 k s ((max m (cpl s 0 w 0) : Nat) : Int) wordsL 3 ((i + 1 : Nat) : Int)) R → Ev (fun k => heraldref03_Parse.l0 k s (m : Int) wordsL 3 (i : Int)) R := by
    intro i w m R hi hw hr h
    have hwd := ref_word0 s w hs (by omega)
    have := hwd.bind (f := fun k t324 => (if t324 > (m : Int) then (heraldref03_Parse.l0 k s t324 wordsL 3 (wrap64 ((i : Int) + 1))) else (heraldref03_Parse.l0 k s (m : Int) wordsL 3 (wrap64 ((i : Int) + 1))))) (r := R) (by
      refine Ev.congr (fun k => ?_) h
      rw [next_k i (by omega)]
      by_cases c : cpl s 0 w 0 > m
      · rw [if_pos (by omega), Nat.max_eq_right (by omega)]
      · rw [if_neg (by omega), Nat.max_eq_left (by omega)])
    refine Ev.step (fun k => ?_) this
    have hl : (wordsL.length : Int) = 3 := rfl
    rw [heraldref03_Parse.l0, if_pos (by omega), if_pos (by omega), if_pos (by omega), hr]
  have stop : ∀ m : Nat, Ev (fun k => heraldref03_Parse.l0 k s (m : Int) wordsL 3 ((2 + 1 : Nat) : Int)) (0, (m : Int), 32) := by
    intro m
    refine Ev.step (fun k => ?_) (Ev.now _)
    rw [heraldref03_Parse.l0, if_neg (by omega)]
  exact one 0 wInf p _ (by omega) (by decide) rfl (one 1 wMinf _ _ (by omega) (by decide) rfl (one 2 wNone _ _ (by omega) (by decide) rfl (stop _)))
theorem toList_iff (s : ByteArray) (l : List UInt8) : s.toList = l ↔ s = (⟨l.toArray⟩ : ByteArray) := by
  rw [ByteArray.toList_eq]
  constructor
  · intro h
    apply ByteArray.ext
    apply Array.ext'
    rw [h]
  · intro h; rw [h]
theorem ref_far (s : ByteArray) (hs : 200 < s.size) : Ev (fun k => heraldref03_Parse.f k s) (0, 200, 33) := by
  refine Ev.congr (fun k => ?_) (Ev.now _)
  unfold heraldref03_Parse.f
  rw [if_pos (by omega)]
theorem ref_wInf : Ev (fun k => heraldref03_Parse.f k wInf) (2139095040, 0, 0) := by
  refine Ev.congr (fun k => ?_) (Ev.now _)
  unfold heraldref03_Parse.f
  rw [if_neg (by decide), if_pos (show wInf.toList = ([105, 110, 102, 105, 110, 105, 116, 101] : List UInt8) from (toList_iff wInf _).mpr rfl)]
theorem ref_wMinf : Ev (fun k => heraldref03_Parse.f k wMinf) (4286578688, 0, 0) := by
  refine Ev.congr (fun k => ?_) (Ev.now _)
  unfold heraldref03_Parse.f
  rw [if_neg (by decide), if_neg (fun h => absurd (congrArg ByteArray.size ((toList_iff _ _).mp h)) (by decide)), if_pos (show wMinf.toList = ([45, 105, 110, 102, 105, 110, 105, 116, 101] : List UInt8) from (toList_iff wMinf _).mpr rfl)]
theorem ref_wNone : Ev (fun k => heraldref03_Parse.f k wNone) (2143289344, 0, 0) := by
  refine Ev.congr (fun k => ?_) (Ev.now _)
  unfold heraldref03_Parse.f
  rw [if_neg (by decide), if_neg (fun h => absurd (congrArg ByteArray.size ((toList_iff _ _).mp h)) (by decide)), if_neg (fun h => absurd (congrArg ByteArray.size ((toList_iff _ _).mp h)) (by decide)), if_pos (show wNone.toList = ([110, 111, 110, 101] : List UInt8) from (toList_iff wNone _).mpr rfl)]
theorem ref_else (s : ByteArray) (hs : s.size ≤ 200) (w1 : s ≠ wInf) (w2 : s ≠ wMinf) (w3 : s ≠ wNone) (R : Int × Int × Int)
    (h : Ev (fun k => ((fun bt313 : Bool × List Int × Int × Int × Int => (if bt313.2.2.2.2 ≥ 0 then (heraldref03_Parse.l0 k s bt313.2.2.2.2 wordsL 3 0) else ((heraldref03_decimal.f k bt313.1 bt313.2.1 (wrap64 (bt313.2.2.2.1 - bt313.2.2.1))).bind fun t325 => (some (t325, 0, 0))))) (tS s (ng s) (i0 s)))) R) : Ev (fun k => heraldref03_Parse.f k s) R := by
  have hsc := scan_f s (by omega)
  have := hsc.bind (f := fun k bt313 => (if bt313.2.2.2.2 ≥ 0 then (heraldref03_Parse.l0 k s bt313.2.2.2.2 wordsL 3 0) else ((heraldref03_decimal.f k bt313.1 bt313.2.1 (wrap64 (bt313.2.2.2.1 - bt313.2.2.1))).bind fun t325 => (some (t325, 0, 0))))) h
  refine Ev.congr (fun k => ?_) this
  unfold heraldref03_Parse.f
  rw [if_neg (by omega), if_neg (fun h => w1 ((toList_iff _ _).mp h)), if_neg (fun h => w2 ((toList_iff _ _).mp h)), if_neg (fun h => w3 ((toList_iff _ _).mp h))]
  rfl
theorem eq_of_bt (s w : ByteArray) (h : s.size = w.size) (hb : ∀ t, t < w.size → bt s ((t : Nat) : Int) = bt w ((t : Nat) : Int)) : s = w := by
  apply bytesOf_inj
  apply List.ext_getElem
  · rw [bytesOf_length, bytesOf_length, h]
  · intro i h1 h2
    rw [← bt_get s i h1, ← bt_get w i h2]
    rw [bytesOf_length] at h2
    exact hb i h2
theorem cpl_bt (s w : ByteArray) : ∀ (n i j : Nat), cpl s i w j = n → ∀ t, t < n → bt s ((i + t : Nat) : Int) = bt w ((j + t : Nat) : Int)
  | 0, i, j, h, t, ht => by omega
  | n + 1, i, j, h, t, ht => by
    by_cases g : i < s.size ∧ j < w.size ∧ bt s (i : Int) = bt w (j : Int)
    · rw [cpl_yes g] at h
      cases t with
      | zero => exact g.2.2
      | succ t =>
        have := cpl_bt s w n (i + 1) (j + 1) (by omega) t (by omega)
        rwa [show i + 1 + t = i + (t + 1) by omega, show j + 1 + t = j + (t + 1) by omega] at this
    · rw [cpl_no g] at h; omega
theorem minf_bt (j : Nat) (h : j < 8) : bt wMinf ((j + 1 : Nat) : Int) = bt wInf (j : Int) := by
  have : j = 0 ∨ j = 1 ∨ j = 2 ∨ j = 3 ∨ j = 4 ∨ j = 5 ∨ j = 6 ∨ j = 7 := by omega
  rcases this with rfl | rfl | rfl | rfl | rfl | rfl | rfl | rfl <;> decide +kernel
theorem cpl_minf (s : ByteArray) : ∀ (d i j : Nat), d = s.size - i → cpl s i wMinf (j + 1) = cpl s i wInf j := by
  have s1 : wMinf.size = 9 := rfl
  have s2 : wInf.size = 8 := rfl
  intro d
  induction d with
  | zero =>
    intro i j h
    rw [cpl_no (fun g => by have := g.1; omega), cpl_no (fun g => by have := g.1; omega)]
  | succ d ih =>
    intro i j h
    by_cases g : i < s.size ∧ j < wInf.size ∧ bt s (i : Int) = bt wInf (j : Int)
    · have hb := minf_bt j (by omega)
      rw [cpl_yes g, cpl_yes ⟨g.1, by omega, by rw [hb]; exact g.2.2⟩, ih (i + 1) (j + 1) (by omega)]
    · rw [cpl_no g, cpl_no]
      intro g2
      have hb := minf_bt j (by omega)
      exact g ⟨g2.1, by omega, by rw [← hb]; exact g2.2.2⟩
theorem ng_facts (s : ByteArray) : (ng s = true ∧ 0 < s.size ∧ bt s 0 = 45 ∧ i0 s = 1) ∨ (ng s = false ∧ ¬ (0 < s.size ∧ bt s 0 = 45) ∧ i0 s = 0) := by
  by_cases c : 0 < s.size ∧ bt s 0 = 45
  · have h : ng s = true := decide_eq_true c
    exact .inl ⟨h, c.1, c.2, by unfold i0; rw [if_pos h]⟩
  · have h : ng s = false := decide_eq_false c
    exact .inr ⟨h, c, by unfold i0; rw [h]; rfl⟩
theorem head_cpl (s w : ByteArray) (c : Int) (hw : bt w 0 = c) (h : ¬ (0 < s.size ∧ bt s 0 = c)) : cpl s 0 w 0 = 0 := by
  refine cpl_no (fun g => h ⟨g.1, ?_⟩)
  rw [← hw]; exact g.2.2
/-- What the words say of a text that is none of them. -/
theorem words_max (s : ByteArray) : ∃ a b c : Nat, cpl s 0 wInf 0 = a ∧ cpl s 0 wMinf 0 = b ∧ cpl s 0 wNone 0 = c ∧
    (fb s = 105 → ∀ m : Nat, max (max (max (i0 s) a) b) c = i0 s + cpl s (i0 s) wInf 0) ∧
    (fb s = 110 → ng s = false → max (max (max 0 a) b) c = cpl s 0 wNone 0) ∧
    (fb s ≠ 105 → ¬ (fb s = 110 ∧ ng s = false) → ∀ p, i0 s ≤ p → max (max (max p a) b) c = p) := by
  have b1 : bt wInf 0 = 105 := by decide +kernel
  have b2 : bt wMinf 0 = 45 := by decide +kernel
  have b3 : bt wNone 0 = 110 := by decide +kernel
  refine ⟨_, _, _, rfl, rfl, rfl, ?_, ?_, ?_⟩
  · intro hf m
    rcases ng_facts s with ⟨n1, n2, n3, n4⟩ | ⟨n1, n2, n3⟩
    · have z1 := head_cpl s wInf 105 b1 (fun h => by omega)
      have z3 := head_cpl s wNone 110 b3 (fun h => by omega)
      have z2 : cpl s 0 wMinf 0 = cpl s 1 wInf 0 + 1 := by
        have n3' : bt s ((0 : Nat) : Int) = bt wMinf ((0 : Nat) : Int) := n3.trans b2.symm
        rw [cpl_yes ⟨n2, by decide, n3'⟩, cpl_minf s _ (0 + 1) 0 rfl]
      rw [z1, z2, z3, n4]
      omega
    · have hb : bt s 0 = 105 ∧ 0 < s.size := by
        unfold fb at hf
        rw [n3] at hf
        by_cases c : 0 < s.size
        · rw [if_pos c] at hf; exact ⟨hf, c⟩
        · rw [if_neg c] at hf; omega
      have z2 := head_cpl s wMinf 45 b2 n2
      have z3 := head_cpl s wNone 110 b3 (fun h => by omega)
      rw [z2, z3, n3]
      omega
  · intro hf hn
    rcases ng_facts s with ⟨n1, _, _, _⟩ | ⟨n1, n2, n3⟩
    · rw [n1] at hn; cases hn
    · have hb : bt s 0 = 110 ∧ 0 < s.size := by
        unfold fb at hf
        rw [n3] at hf
        by_cases c : 0 < s.size
        · rw [if_pos c] at hf; exact ⟨hf, c⟩
        · rw [if_neg c] at hf; omega
      have z1 := head_cpl s wInf 105 b1 (fun h => by omega)
      have z2 := head_cpl s wMinf 45 b2 n2
      rw [z1, z2]
      omega
  · intro hf hn p hp
    rcases ng_facts s with ⟨n1, n2, n3, n4⟩ | ⟨n1, n2, n3⟩
    · have z1 := head_cpl s wInf 105 b1 (fun h => by omega)
      have z3 := head_cpl s wNone 110 b3 (fun h => by omega)
      have z2 : cpl s 0 wMinf 0 = 1 := by
        have n3' : bt s ((0 : Nat) : Int) = bt wMinf ((0 : Nat) : Int) := n3.trans b2.symm
        rw [cpl_yes ⟨n2, by decide, n3'⟩, cpl_minf s _ (0 + 1) 0 rfl, cpl_no]
        intro g
        apply hf
        unfold fb
        rw [n4, if_pos g.1]
        exact g.2.2.trans b1
      rw [z1, z2, z3]
      omega
    · have z1 := head_cpl s wInf 105 b1 (fun h => hf (by unfold fb; rw [n3, if_pos h.1]; exact h.2))
      have z2 := head_cpl s wMinf 45 b2 n2
      have z3 := head_cpl s wNone 110 b3 (fun h => hn ⟨by unfold fb; rw [n3, if_pos h.1]; exact h.2, n1⟩)
      rw [z1, z2, z3]
      omega
theorem sc_letter (s : ByteArray) (h : fb s = 105 ∨ fb s = 110) : scS s (i0 s) = .bad (i0 s) := by
  have hn : ¬ isD s (i0 s) := by
    intro g
    unfold fb at h
    rw [if_pos g.1] at h
    have := g.2
    omega
  unfold scS
  rw [dE_no hn, if_pos rfl]
/-- Both ways to read a text say the same. -/
theorem parse_same (s : ByteArray) : ∃ r : Int × Int × Int, Ev (fun k => single_Parse.f k s) r ∧ Ev (fun k => heraldref03_Parse.f k s) r := by
  by_cases hs : 200 < s.size
  · exact ⟨_, parse_far s hs, ref_far s hs⟩
  have hs : s.size ≤ 200 := by omega
  by_cases w1 : s = wInf
  · subst w1; exact ⟨_, parse_winf false, ref_wInf⟩
  by_cases w2 : s = wMinf
  · subst w2; exact ⟨_, parse_winf true, ref_wMinf⟩
  by_cases w3 : s = wNone
  · subst w3; exact ⟨_, parse_wnone, ref_wNone⟩
  obtain ⟨a, b, c, ha, hb, hc, m1, m2, m3⟩ := words_max s
  have bad : ∀ p m : Nat, scS s (i0 s) = .bad p → max (max (max p a) b) c = m → Ev (fun k => heraldref03_Parse.f k s) (0, (m : Int), 32) := by
    intro p m h hm
    obtain ⟨t1, t2⟩ := sc_bad s (ng s) (i0 s) p h
    refine ref_else s hs w1 w2 w3 _ ?_
    have hw := ref_words s (by omega) p
    rw [ha, hb, hc, hm] at hw
    refine Ev.congr (fun k => ?_) hw
    show (if (tS s (ng s) (i0 s)).2.2.2.2 ≥ 0 then _ else _) = _
    rw [t1, if_pos (by omega)]
  by_cases c1 : fb s = 105
  · have hp := parse_inf s hs c1
    have hne : ¬ (cpl s (i0 s) wInf 0 = 8 ∧ i0 s + 8 = s.size) := by
      rintro ⟨g1, g2⟩
      have hbt := cpl_bt s wInf 8 (i0 s) 0 g1
      rcases ng_facts s with ⟨n1, n2, n3, n4⟩ | ⟨n1, n2, n3⟩
      · apply w2
        refine eq_of_bt s wMinf (by rw [← g2, n4]; rfl) ?_
        intro t ht
        have ht : t < 9 := ht
        cases t with
        | zero => exact n3.trans (by decide +kernel)
        | succ t =>
          rw [minf_bt t (by omega)]
          have := hbt t (by omega)
          rw [n4, Nat.zero_add, Nat.add_comm 1 t] at this
          exact this
      · apply w1
        refine eq_of_bt s wInf (by rw [← g2, n3]; rfl) ?_
        intro t ht
        have := hbt t ht
        rw [n3, Nat.zero_add] at this
        exact this
    rw [if_neg hne] at hp
    exact ⟨_, hp, bad _ _ (sc_letter s (.inl c1)) (m1 c1 0)⟩
  by_cases c2 : fb s = 110 ∧ ng s = false
  · have hp := parse_none s hs c2.1 c2.2
    have hi : i0 s = 0 := by unfold i0; rw [c2.2]; rfl
    have hne : ¬ (cpl s 0 wNone 0 = 4 ∧ 4 = s.size) := by
      rintro ⟨g1, g2⟩
      have hbt := cpl_bt s wNone 4 0 0 g1
      apply w3
      refine eq_of_bt s wNone g2.symm ?_
      intro t ht
      have := hbt t ht
      rw [Nat.zero_add] at this
      exact this
    rw [if_neg hne] at hp
    have hsc := sc_letter s (.inr c2.1)
    refine ⟨_, hp, bad _ _ hsc ?_⟩
    rw [hi]
    exact m2 c2.1 c2.2
  have hi := i0_le s
  cases h : scS s (i0 s) with
  | bad p =>
    have hp := parse_bad s hs c1 c2 p h
    have := sc_bad s (ng s) (i0 s) p h
    exact ⟨_, hp, bad p p h (m3 c1 c2 p this.2)⟩
  | good p i e1 f2 e2 g q =>
    obtain ⟨g1, g2, g3, g4, g5, g6, g7, d1, d2, d3, t1, t2⟩ := sc_good s (ng s) (i0 s) p i e1 f2 e2 g q hi.1 h
    have l1 := seg_length s i e1 g4
    have l2 := seg_length s f2 e2 g6
    have hcl := cl_pv (seg s q p) 0 0 (by omega)
    have hrf := rf_pv (seg s q p) 0 0 d3 (.inl ⟨rfl, by omega⟩)
    obtain ⟨v, hv⟩ : ∃ v, cl 0 (seg s q p) = v := ⟨_, rfl⟩
    obtain ⟨r, hr⟩ : ∃ r, rf 0 (seg s q p) = r := ⟨_, rfl⟩
    obtain ⟨u, hu⟩ : ∃ u, pv 0 (seg s q p) = u := ⟨_, rfl⟩
    rw [hu] at hcl
    rw [hr, hu] at hrf
    rw [hv] at hcl
    have hPE : powV g v - ((e2 - f2 : Nat) : Int) = powV g r - ((e2 - f2 : Nat) : Int) ∨ (90000 ≤ powV g v - ((e2 - f2 : Nat) : Int) ∧ 90000 ≤ powV g r - ((e2 - f2 : Nat) : Int)) ∨ (powV g v - ((e2 - f2 : Nat) : Int) ≤ -90000 ∧ powV g r - ((e2 - f2 : Nat) : Int) ≤ -90000) := by
      cases g
      · show (v : Int) - _ = (r : Int) - _ ∨ (90000 ≤ (v : Int) - _ ∧ 90000 ≤ (r : Int) - _) ∨ ((v : Int) - _ ≤ -90000 ∧ (r : Int) - _ ≤ -90000)
        omega
      · show -(v : Int) - _ = -(r : Int) - _ ∨ (90000 ≤ -(v : Int) - _ ∧ 90000 ≤ -(r : Int) - _) ∨ (-(v : Int) - _ ≤ -90000 ∧ -(r : Int) - _ ≤ -90000)
        omega
    have hb1 : -2000000 ≤ powV g v - ((e2 - f2 : Nat) : Int) ∧ powV g v - ((e2 - f2 : Nat) : Int) ≤ 2000000 := by
      cases g
      · show -2000000 ≤ (v : Int) - _ ∧ (v : Int) - _ ≤ 2000000
        omega
      · show -2000000 ≤ -(v : Int) - _ ∧ -(v : Int) - _ ≤ 2000000
        omega
    have hb2 : -2000000 ≤ powV g r - ((e2 - f2 : Nat) : Int) ∧ powV g r - ((e2 - f2 : Nat) : Int) ≤ 2000000 := by
      cases g
      · show -2000000 ≤ (r : Int) - _ ∧ (r : Int) - _ ≤ 2000000
        omega
      · show -2000000 ≤ -(r : Int) - _ ∧ -(r : Int) - _ ≤ 2000000
        omega
    obtain ⟨R, R1, R2, R3⟩ := dec_same (ng s) (seg s i e1 ++ seg s f2 e2) _ _ (d1.app d2) (by rw [List.length_append]; omega) (by omega) (by omega) (by omega) (by omega) hPE
    have hp := parse_good s hs c1 c2 p i e1 f2 e2 g q h R R1 (by
      refine Ev.congr (fun k => ?_) R2
      rw [seg_nums, seg_nums, ← nums_append, hv])
    by_cases cp : p < s.size
    · rw [if_pos cp] at hp
      refine ⟨_, hp, ref_else s hs w1 w2 w3 _ ?_⟩
      have hw := ref_words s (by omega) p
      rw [ha, hb, hc, m3 c1 c2 p g1] at hw
      refine Ev.congr (fun k => ?_) hw
      show (if (tS s (ng s) (i0 s)).2.2.2.2 ≥ 0 then _ else _) = _
      rw [t1 cp, if_pos (by omega)]
    · rw [if_neg cp] at hp
      refine ⟨_, hp, ref_else s hs w1 w2 w3 _ ?_⟩
      rw [t2 cp, hr]
      have := R3.bind (f := fun _ t325 => some (t325, (0 : Int), (0 : Int))) (Ev.now _)
      refine Ev.congr (fun k => ?_) this
      have hw : wrap64 (powV g r - ((e2 - f2 : Nat) : Int)) = powV g r - ((e2 - f2 : Nat) : Int) := wrap_in (by omega) (by omega)
      show (if (-1 : Int) ≥ 0 then _ else ((heraldref03_decimal.f k (ng s) (dvs (seg s i e1 ++ seg s f2 e2)) (wrap64 (powV g r - ((e2 - f2 : Nat) : Int)))).bind fun t325 => some (t325, (0 : Int), (0 : Int)))) = _
      rw [if_neg (by omega), hw]
end Go.Proofs.YteecekhfpfnepaaDoor.Tx
end

section
namespace Go.Proofs.YteecekhfpfnepaaDoor.Tx
open Go.RowKit Go.Proofs.YteecekhfpfnepaaDoor.PAll Go.Proofs.YteecekhfpfnepaaDoor.Nums Go.Proofs.YteecekhfpfnepaaDoorW.PrintWords Go.Proofs.YteecekhfpfnepaaDoorW.PrintLast Go.Proofs.YteecekhfpfnepaaDoorW.PrintMore
set_option linter.unusedVariables false
set_option linter.unusedSimpArgs false
theorem rdigits_ev : ∀ (n : Nat) (out : List Int), n < 9223372036854775808 → out.length + bl n ≤ 1000000 → Ev (fun k => heraldref03_digits.l0 k (n : Int) out) (out ++ dgs 10 n) := by
  intro n
  induction n using Nat.strongRecOn with
  | ind n ih =>
    intro out hn hl
    by_cases h : n = 0
    · subst h
      rw [dgs_zero, List.append_nil]
      refine Ev.step (fun k => ?_) (Ev.now _)
      rw [heraldref03_digits.l0, if_neg (by omega)]
    · have hb : bl (n / 10) + 1 ≤ bl n := by
        have h2 : bl (n / 10 * 2) ≤ bl n := bl_mono (by omega)
        by_cases g : n / 10 = 0
        · rw [g, bl_zero]; exact bl_pos.mpr h
        · have := bl_shift (n / 10) 1 g
          rw [Nat.pow_one] at this
          omega
      have hi := ih (n / 10) (by omega) (out ++ [((n % 10 : Nat) : Int)]) (by omega) (by simp; omega)
      rw [List.append_assoc, List.singleton_append] at hi
      rw [dgs_pos (by omega) h]
      have e1 : Int.tmod (n : Int) 10 = ((n % 10 : Nat) : Int) := by rw [show (10 : Int) = ((10 : Nat) : Int) from rfl, ← Int.ofNat_tmod]
      have e2 : wrap64 (Int.tdiv (n : Int) 10) = ((n / 10 : Nat) : Int) := by rw [show (10 : Int) = ((10 : Nat) : Int) from rfl, ← Int.ofNat_tdiv, wrap_in (by omega) (by omega)]
      refine Ev.step (fun k => ?_) hi
      rw [heraldref03_digits.l0, if_pos (by omega), if_pos (by omega), e1, e2]
/-- The rest of a row of digits, from a place downwards, with a point ahead of the last p. -/
def rest (Q : List Int) (p : Nat) : Nat → List Int
  | 0 => []
  | j + 1 => (if j + 1 = p then [46] else []) ++ ((48 + rd Q (j : Int)) :: rest Q p j)
theorem digit_text (d : Int) (h0 : 0 ≤ d) (h1 : d ≤ 9) : (⟨#[48, 49, 50, 51, 52, 53, 54, 55, 56, 57]⟩ : ByteArray).extract (d : Int).toNat ((wrap64 (d + 1)) : Int).toNat = strOfNums [48 + d] := by
  rw [wrap_in (by omega) (by omega)]
  have : d = 0 ∨ d = 1 ∨ d = 2 ∨ d = 3 ∨ d = 4 ∨ d = 5 ∨ d = 6 ∨ d = 7 ∨ d = 8 ∨ d = 9 := by omega
  rcases this with rfl | rfl | rfl | rfl | rfl | rfl | rfl | rfl | rfl | rfl <;> rfl
theorem out_loop (Q : List Int) (p : Nat) (hQ : Dg (10 : Nat) Q) (hQl : Q.length ≤ 1000000) (hp : p ≤ 1000000) : ∀ (j : Nat) (S : List Int), j ≤ Q.length → S.length + 2 * j ≤ 10000000 →
    Ev (fun k => heraldref03_Text.l4 k Q (p : Int) (strOfNums S) ((j : Int) - 1)) (strOfNums (S ++ rest Q p j)) := by
  intro j
  induction j with
  | zero =>
    intro S _ _
    rw [rest, List.append_nil]
    refine Ev.step (fun k => ?_) (Ev.now _)
    rw [heraldref03_Text.l4, if_neg (by omega)]
  | succ j ih =>
    intro S hj hS
    have hlt : j < Q.length := by omega
    have hd := hQ Q[j] (List.getElem_mem hlt)
    have hrd := rd_at Q j hlt
    have e0 : ((j + 1 : Nat) : Int) - 1 = (j : Int) := by omega
    have e1 : wrap64 ((j : Int) - 1) = (j : Int) - 1 := wrap_in (by omega) (by omega)
    have e2 : wrap64 ((p : Int) - 1) = (p : Int) - 1 := wrap_in (by omega) (by omega)
    have e3 : wrap64 (rd Q (j : Int) + 1) = rd Q (j : Int) + 1 := by rw [hrd, wrap_in (by omega) (by omega)]
    have dt := digit_text (rd Q (j : Int)) (by rw [hrd]; omega) (by rw [hrd]; omega)
    rw [e3] at dt
    have hpt : (⟨#[46]⟩ : ByteArray) = strOfNums [46] := rfl
    rw [e0, rest]
    by_cases c : j + 1 = p
    · rw [if_pos c]
      have hi := ih (S ++ [46] ++ [48 + rd Q (j : Int)]) (by omega) (by simp; omega)
      have eL : S ++ [46] ++ [48 + rd Q (j : Int)] ++ rest Q p j = S ++ ([46] ++ (48 + rd Q (j : Int)) :: rest Q p j) := by simp
      rw [eL] at hi
      refine Ev.step (fun k => ?_) hi
      rw [heraldref03_Text.l4, if_pos (by omega), e2, if_pos (by omega), if_pos (by rw [nums_size]; omega), if_pos (by omega), if_pos (by omega), e3, if_pos (by rw [hrd]; omega), if_pos (by omega), if_pos (by rw [hrd]; omega), hpt, ← nums_append, dt, if_pos (by rw [nums_size, nums_size]; simp; omega), ← nums_append, e1]
    · rw [if_neg c]
      have hi := ih (S ++ [48 + rd Q (j : Int)]) (by omega) (by simp; omega)
      have eL : S ++ [48 + rd Q (j : Int)] ++ rest Q p j = S ++ ([] ++ (48 + rd Q (j : Int)) :: rest Q p j) := by simp
      rw [eL] at hi
      refine Ev.step (fun k => ?_) hi
      rw [heraldref03_Text.l4, if_pos (by omega), e2, if_neg (by omega), if_pos (by omega), if_pos (by omega), e3, if_pos (by rw [hrd]; omega), if_pos (by omega), if_pos (by rw [hrd]; omega), dt, if_pos (by rw [nums_size, nums_size]; simp; omega), ← nums_append, e1]
theorem rest_low (Q : List Int) (p : Nat) : ∀ j : Nat, j ≤ Q.length → (j < p ∨ p = 0) → rest Q p j = ((Q.take j).reverse).map fun d => 48 + d := by
  intro j
  induction j with
  | zero => intro _ _; rw [rest, List.take_zero]; rfl
  | succ j ih =>
    intro hj h
    have hlt : j < Q.length := by omega
    have et : Q.take (j + 1) = Q.take j ++ [Q[j]] := by rw [List.take_add_one, List.getElem?_eq_getElem hlt]; rfl
    rw [rest, if_neg (by omega), ih (by omega) (by omega), et, rd_at Q j hlt, List.reverse_append, List.map_append]
    rfl
theorem rest_high (Q : List Int) (p : Nat) (hp : 1 ≤ p) : ∀ j : Nat, j ≤ Q.length → p ≤ j → rest Q p j = (((Q.take j).drop p).reverse.map fun d => 48 + d) ++ ([46] ++ ((Q.take p).reverse.map fun d => 48 + d)) := by
  intro j
  induction j with
  | zero => intro _ h; omega
  | succ j ih =>
    intro hj h
    have hlt : j < Q.length := by omega
    have et : Q.take (j + 1) = Q.take j ++ [Q[j]] := by rw [List.take_add_one, List.getElem?_eq_getElem hlt]; rfl
    rw [rest]
    by_cases c : j + 1 = p
    · have ep : Q.take p = Q.take j ++ [Q[j]] := by rw [← c]; exact et
      have hd : (Q.take (j + 1)).drop p = [] := by rw [List.drop_eq_nil_of_le]; rw [List.length_take]; omega
      rw [if_pos c, rest_low Q p j (by omega) (.inl (by omega)), rd_at Q j hlt, hd, ep, List.reverse_append, List.map_append]
      rfl
    · rw [if_neg c, ih (by omega) (by omega), rd_at Q j hlt, et, List.drop_append_of_le_length (by simp; omega)]
      simp
/-- Digits with zeros above, so that one at least stands above the last p. -/
def padr (p v : Nat) : List Int := dgs 10 v ++ List.replicate (p + 1 - (dgs 10 v).length) 0
theorem padr_length (p v : Nat) : (padr p v).length = max (p + 1) (dgs 10 v).length := by unfold padr; rw [List.length_append, List.length_replicate]; omega
theorem padr_dg (p v : Nat) : Dg (10 : Nat) (padr p v) := (dgs_dg (by omega) v).append (Dg.zeros (by omega) _)
theorem padr_pad (p v : Nat) : ((padr p v).reverse).map (fun d => 48 + d) = pad p v := by
  unfold padr pad dcs
  rw [List.reverse_append, List.map_append, List.reverse_replicate, List.map_replicate, List.length_map, List.length_reverse]
  rfl
theorem rest_pnt (p v : Nat) (hp : 1 ≤ p) : rest (padr p v) p (padr p v).length = pnt p v := by
  have hl := padr_length p v
  have hpl : (pad p v).length = (padr p v).length := by rw [← padr_pad]; simp
  rw [rest_high _ p hp _ (Nat.le_refl _) (by omega), List.take_of_length_le (Nat.le_refl _)]
  unfold pnt
  rw [hpl, ← padr_pad, ← List.map_take, ← List.map_drop, List.take_reverse, List.drop_reverse]
  rw [show (padr p v).length - ((padr p v).length - p) = p by omega]
theorem rest_int (v : Nat) (hv : v ≠ 0) : rest (padr 0 v) 0 (padr 0 v).length = dcs v := by
  have h0 := dgs_len_pos (b := 10) (by omega) hv
  have e : padr 0 v = dgs 10 v := by unfold padr; rw [show 0 + 1 - (dgs 10 v).length = 0 by omega]; simp
  rw [rest_low _ 0 _ (Nat.le_refl _) (.inr rfl), List.take_of_length_le (Nat.le_refl _), e]
  rfl
theorem l3_ev (S : List Int) (p v : Nat) (hS : S.length ≤ 10) (hl : (dgs 10 v).length ≤ 100000) (hp : p ≤ 100000) : ∀ (m i : Nat), m + i = p + 1 - (dgs 10 v).length →
    Ev (fun k => heraldref03_Text.l3 k (strOfNums S) (dgs 10 v ++ List.replicate i 0) (p : Int)) (strOfNums (S ++ rest (padr p v) p (padr p v).length)) := by
  have hpl := padr_length p v
  intro m
  induction m with
  | zero =>
    intro i hi
    have e : dgs 10 v ++ List.replicate i 0 = padr p v := by unfold padr; rw [show i = p + 1 - (dgs 10 v).length by omega]
    rw [e]
    have := out_loop (padr p v) p (padr_dg p v) (by omega) (by omega) (padr p v).length S (Nat.le_refl _) (by omega)
    refine Ev.step (fun k => ?_) this
    rw [heraldref03_Text.l3, if_neg (by omega), wrap_in (by omega) (by omega)]
  | succ m ih =>
    intro i hi
    have h2 := ih (i + 1) (by omega)
    have e : List.replicate (i + 1) (0 : Int) = List.replicate i 0 ++ [0] := List.replicate_succ'
    rw [e, ← List.append_assoc] at h2
    refine Ev.step (fun k => ?_) h2
    rw [heraldref03_Text.l3, if_pos (by rw [List.length_append, List.length_replicate]; omega), if_pos (by rw [List.length_append, List.length_replicate]; omega)]
theorem j5_ev (S : List Int) (p v : Nat) (hS : S.length ≤ 10) (hl : (dgs 10 v).length ≤ 100000) (hp : p ≤ 100000) : Ev (fun k => heraldref03_Text.j5 k (strOfNums S) (dgs 10 v) (p : Int)) (strOfNums (S ++ rest (padr p v) p (padr p v).length)) := by
  have := l3_ev S p v hS hl hp (p + 1 - (dgs 10 v).length) 0 (by omega)
  rw [List.replicate_zero, List.append_nil] at this
  refine Ev.step (fun k => ?_) this
  rw [heraldref03_Text.j5]
theorem pow_len (M b p : Nat) (hM : M < 16777216) (hb : b ≤ 10) : M * b ^ p < 10 ^ (8 + p) := by
  have h1 : b ^ p ≤ 10 ^ p := Nat.pow_le_pow_left hb p
  have h2 : M * b ^ p ≤ 16777216 * 10 ^ p := Nat.mul_le_mul (by omega) h1
  have h3 := Nat.pow_pos (n := p) (show 0 < 10 by omega)
  rw [Nat.pow_add]
  generalize 10 ^ p = z at *
  omega
theorem ten_len' {V k : Nat} (h : V < 10 ^ k) : (dgs 10 V).length ≤ k := (dgs_len_le (by omega)).mpr h
theorem rtext_l2 (S : List Int) (M : Nat) (p : Nat) (hS : S.length ≤ 10) (hM : M < 16777216) (hM0 : M ≠ 0) (hp : p ≤ 400) : ∀ (m i : Nat), m + i = p →
    Ev (fun k => heraldref03_Text.l2 k (M : Int) (-(p : Int)) (strOfNums S) (dgs 10 (M * 5 ^ i)) (i : Int) (i : Int)) (strOfNums (S ++ rest (padr p (M * 5 ^ p)) p (padr p (M * 5 ^ p)).length)) := by
  have hw : wrap64 (-(-(p : Int))) = (p : Int) := by rw [Int.neg_neg, wrap_in (by omega) (by omega)]
  have hl : ∀ i, i ≤ p → (dgs 10 (M * 5 ^ i)).length ≤ 8 + i := fun i _ => ten_len' (pow_len M 5 i hM (by omega))
  intro m
  induction m with
  | zero =>
    intro i hi
    obtain rfl : i = p := by omega
    have := j5_ev S i (M * 5 ^ i) hS (by have := hl i (by omega); omega) (by omega)
    refine Ev.step (fun k => ?_) this
    rw [heraldref03_Text.l2, hw, if_neg (by omega)]
  | succ m ih =>
    intro i hi
    have h2 := ih (i + 1) (by omega)
    have ht := rtimes_ev (M * 5 ^ i) 5 (by omega) (by omega) (by have := hl i (by omega); omega)
    rw [Nat.mul_assoc, ← Nat.pow_succ] at ht
    have := ht.bind (f := fun k t381 => heraldref03_Text.l2 k (M : Int) (-(p : Int)) (strOfNums S) t381 (wrap64 ((i : Int) + 1)) (wrap64 ((i : Int) + 1))) (by
      refine Ev.congr (fun k => ?_) h2
      rw [next_k i (by omega)])
    refine Ev.step (fun k => ?_) this
    rw [heraldref03_Text.l2, hw, if_pos (by omega), if_pos (by omega)]
    rfl
theorem rtext_l1 (S : List Int) (M : Nat) (e : Nat) (hS : S.length ≤ 10) (hM : M < 16777216) (hM0 : M ≠ 0) (he : e ≤ 400) : ∀ (m i : Nat), m + i = e →
    Ev (fun k => heraldref03_Text.l1 k (M : Int) (e : Int) (strOfNums S) (dgs 10 (M * 2 ^ i)) 0 (i : Int)) (strOfNums (S ++ dcs (M * 2 ^ e))) := by
  have hl : ∀ i, i ≤ e → (dgs 10 (M * 2 ^ i)).length ≤ 8 + i := fun i _ => ten_len' (pow_len M 2 i hM (by omega))
  intro m
  induction m with
  | zero =>
    intro i hi
    obtain rfl : i = e := by omega
    have hv : M * 2 ^ i ≠ 0 := Nat.mul_ne_zero hM0 (Nat.ne_of_gt (Nat.pow_pos (by omega)))
    have h5 := j5_ev S 0 (M * 2 ^ i) hS (by have := hl i (by omega); omega) (by omega)
    rw [rest_int _ hv] at h5
    have hl2 : Ev (fun k => heraldref03_Text.l2 k (M : Int) (i : Int) (strOfNums S) (dgs 10 (M * 2 ^ i)) 0 0) (strOfNums (S ++ dcs (M * 2 ^ i))) := by
      refine Ev.step (fun k => ?_) h5
      rw [heraldref03_Text.l2, wrap_in (by omega) (by omega), if_neg (by omega)]
      rfl
    refine Ev.step (fun k => ?_) hl2
    rw [heraldref03_Text.l1, if_neg (by omega)]
  | succ m ih =>
    intro i hi
    have h2 := ih (i + 1) (by omega)
    have ht := rtimes_ev (M * 2 ^ i) 2 (by omega) (by omega) (by have := hl i (by omega); omega)
    rw [Nat.mul_assoc, ← Nat.pow_succ] at ht
    have := ht.bind (f := fun k t378 => heraldref03_Text.l1 k (M : Int) (e : Int) (strOfNums S) t378 0 (wrap64 ((i : Int) + 1))) (by
      refine Ev.congr (fun k => ?_) h2
      rw [next_k i (by omega)])
    refine Ev.step (fun k => ?_) this
    rw [heraldref03_Text.l1, if_pos (by omega)]
    rfl
theorem rtext_j2 (S : List Int) (M : Nat) (E : Int) (hS : S.length ≤ 10) (hM : M < 16777216) (hM0 : M ≠ 0) (hE0 : -400 ≤ E) (hE1 : E ≤ 400) : Ev (fun k => heraldref03_Text.j2 k (M : Int) E (strOfNums S)) (strOfNums (S ++ txt M E)) := by
  have hd : Ev (fun k => heraldref03_digits.f k (M : Int)) (dgs 10 M) := by
    have := rdigits_ev M [] (by omega) (by have : bl M ≤ 24 := bl_le.mpr hM; simp; omega)
    exact this
  have hl1 : Ev (fun k => heraldref03_Text.l1 k (M : Int) E (strOfNums S) (dgs 10 M) 0 0) (strOfNums (S ++ txt M E)) := by
    by_cases c : 0 ≤ E
    · obtain ⟨n, rfl⟩ := Int.eq_ofNat_of_zero_le c
      have := rtext_l1 S M n hS hM hM0 (by omega) n 0 (by omega)
      rw [Nat.pow_zero, Nat.mul_one] at this
      unfold txt dz
      rw [if_pos c, Int.toNat_natCast, if_neg (Nat.mul_ne_zero hM0 (Nat.ne_of_gt (Nat.pow_pos (by omega))))]
      exact this
    · obtain ⟨p, hp⟩ : ∃ p : Nat, E = -(p : Int) := ⟨(-E).toNat, by omega⟩
      subst hp
      have := rtext_l2 S M p hS hM hM0 (by omega) p 0 (by omega)
      rw [Nat.pow_zero, Nat.mul_one, rest_pnt p _ (by omega)] at this
      unfold txt
      rw [if_neg c, Int.neg_neg, Int.toNat_natCast]
      refine Ev.step (fun k => ?_) this
      rw [heraldref03_Text.l1, if_neg (by omega)]
      rfl
  have := hd.bind (f := fun k t375 => heraldref03_Text.l1 k (M : Int) E (strOfNums S) t375 0 0) hl1
  refine Ev.step (fun k => ?_) this
  rw [heraldref03_Text.j2]
theorem rtext_l0 (S : List Int) (M : Nat) (hS : S.length ≤ 10) (hM : M % 2 = 1) (hMb : M < 16777216) : ∀ (t : Nat) (e : Int), 2 ^ t * M < 16777216 → t ≤ 64 → -300 ≤ e → e + t ≤ 300 →
    Ev (fun k => heraldref03_Text.l0 k ((2 ^ t * M : Nat) : Int) e (strOfNums S)) (strOfNums (S ++ txt M (e + t))) := by
  intro t
  induction t with
  | zero =>
    intro e h1 h2 h3 h4
    rw [Nat.pow_zero, Nat.one_mul, show e + ((0 : Nat) : Int) = e by omega]
    have := rtext_j2 S M e hS hMb (by omega) (by omega) (by omega)
    refine Ev.step (fun k => ?_) this
    have e1 : Int.tmod (M : Int) 2 = ((M % 2 : Nat) : Int) := by rw [show (2 : Int) = ((2 : Nat) : Int) from rfl, ← Int.ofNat_tmod]
    rw [heraldref03_Text.l0, if_pos (by omega), e1, if_neg (by omega)]
  | succ t ih =>
    intro e h1 h2 h3 h4
    have e1 : 2 ^ (t + 1) * M = 2 * (2 ^ t * M) := by rw [Nat.pow_succ, Nat.mul_comm (2 ^ t) 2, Nat.mul_assoc]
    rw [e1] at h1 ⊢
    have hpos : 0 < 2 ^ t * M := Nat.mul_pos (Nat.pow_pos (by omega)) (by omega)
    have hi := ih (e + 1) (by omega) (by omega) (by omega) (by omega)
    rw [show e + 1 + (t : Int) = e + ((t + 1 : Nat) : Int) by omega] at hi
    obtain ⟨z, hz⟩ : ∃ z, 2 ^ t * M = z := ⟨_, rfl⟩
    rw [hz] at h1 hi hpos ⊢
    have m1 : Int.tmod ((2 * z : Nat) : Int) 2 = 0 := by rw [show (2 : Int) = ((2 : Nat) : Int) from rfl, ← Int.ofNat_tmod]; omega
    have m2 : wrap64 (Int.tdiv ((2 * z : Nat) : Int) 2) = (z : Int) := by rw [show (2 : Int) = ((2 : Nat) : Int) from rfl, ← Int.ofNat_tdiv, wrap_in (by omega) (by omega)]; omega
    refine Ev.step (fun k => ?_) hi
    rw [heraldref03_Text.l0, if_pos (by omega), m1, if_pos rfl, m2, wrap_in (by omega) (by omega)]
theorem rtext_zero (S : List Int) (e : Int) (hS : S.length ≤ 10) (he0 : -300 ≤ e) (he1 : e < 0) : Ev (fun k => heraldref03_Text.l0 k 0 e (strOfNums S)) (strOfNums (S ++ txt 0 0)) := by
  have h5 := j5_ev S 0 0 hS (by rw [dgs_zero]; simp) (by omega)
  have hr : rest (padr 0 0) 0 (padr 0 0).length = [48] := by
    have : padr 0 0 = [0] := by unfold padr; rw [dgs_zero]; rfl
    rw [this]; rfl
  have ht : txt 0 0 = [48] := rfl
  rw [hr, dgs_zero] at h5
  have hl2 : Ev (fun k => heraldref03_Text.l2 k 0 e (strOfNums S) [] 0 0) (strOfNums (S ++ [48])) := by
    refine Ev.step (fun k => ?_) h5
    rw [heraldref03_Text.l2, wrap_in (by omega) (by omega), if_pos (by omega), if_neg (by omega)]
    rfl
  have hl1 : Ev (fun k => heraldref03_Text.l1 k 0 e (strOfNums S) [] 0 0) (strOfNums (S ++ [48])) := by
    refine Ev.step (fun k => ?_) hl2
    rw [heraldref03_Text.l1, if_neg (by omega)]
  have hd : Ev (fun k => heraldref03_digits.f k 0) [] := by
    have := rdigits_ev 0 [] (by omega) (by decide)
    rw [dgs_zero] at this
    exact this
  have hj2 : Ev (fun k => heraldref03_Text.j2 k 0 e (strOfNums S)) (strOfNums (S ++ [48])) := by
    have := hd.bind (f := fun k t375 => heraldref03_Text.l1 k 0 e (strOfNums S) t375 0 0) hl1
    refine Ev.step (fun k => ?_) this
    rw [heraldref03_Text.j2]
  rw [ht]
  refine Ev.step (fun k => ?_) hj2
  rw [heraldref03_Text.l0, if_neg (by omega)]
theorem rtext_of (a : Int) (h0 : 0 ≤ a) (h1 : a < 4294967296) (kd : Int) (s : Bool) (m e : Int) (h : rawV a = (kd, s, m, e)) (R : ByteArray) (hR : Ev (fun k => heraldref03_Text.j0 k kd m e (strOfNums (sg s))) R) : Ev (fun k => heraldref03_Text.f k a) R := by
  refine Ev.congr (fun k => ?_) hR
  unfold heraldref03_Text.f heraldref03_raw.f
  rw [if_pos ⟨h0, h1⟩, h, Option.bind_some]
  cases s
  · rw [if_neg (show ¬ (false = true) by decide), sg_empty]
  · rw [if_pos rfl, sg_minus]
/-- Text: the program's and the reference's. -/
theorem text_same (a : Int) (h0 : 0 ≤ a) (h1 : a < 4294967296) : ∃ T : ByteArray, Ev (fun k => single_Text.f k a) T ∧ Ev (fun k => heraldref03_Text.f k a) T := by
  obtain ⟨t1, t2, t3⟩ := text_ev a h0 h1
  rcases parts_cases a h0 h1 with ⟨pa, ra⟩ | ⟨s, pa, ra, _⟩ | ⟨s, m, e, M, t, pa, ra, fa, hm, hM, hMb, ht, hmb, he0, he1⟩
  · refine ⟨_, t1 pa, rtext_of a h0 h1 _ _ _ _ ra _ ?_⟩
    refine Ev.step (fun k => ?_) (Ev.now _)
    rw [heraldref03_Text.j0, if_pos rfl]
    rfl
  · refine ⟨_, t2 s pa, rtext_of a h0 h1 _ _ _ _ ra _ ?_⟩
    have := sg_len s
    refine Ev.step (fun k => ?_) (Ev.now _)
    rw [heraldref03_Text.j0, if_neg (by omega), if_pos (by omega), nums_size, if_pos (by omega), nums_append]
    rfl
  · have hs := sg_len s
    by_cases c : m = 0
    · rw [if_pos c] at pa
      have hM0 : M = 0 := by
        rw [c] at hm
        rcases Nat.mul_eq_zero.mp hm.symm with h | h
        · have := Nat.pow_pos (n := t) (show 0 < 2 by omega); omega
        · exact h
      have he : e < 0 := by
        rcases fa.form with ⟨_, g2⟩ | ⟨g1, _, _, _⟩
        · omega
        · omega
      subst hM0
      have hx := t3 s 0 0 pa (.inr ⟨rfl, rfl⟩) (by omega) (by omega) (by omega)
      refine ⟨_, hx, rtext_of a h0 h1 _ _ _ _ ra _ ?_⟩
      have := rtext_zero (sg s) e (by omega) (by omega) he
      rw [c]
      refine Ev.step (fun k => ?_) this
      rw [heraldref03_Text.j0, if_neg (by omega), if_neg (by omega)]
      rfl
    · rw [if_neg c] at pa
      have hodd : M % 2 = 1 := by
        rcases hM with h | ⟨h, _⟩
        · exact h
        · rw [h, Nat.mul_zero] at hm; exact absurd hm c
      have hx := t3 s M (e + t) pa (.inl hodd) hMb (by omega) (by omega)
      refine ⟨_, hx, rtext_of a h0 h1 _ _ _ _ ra _ ?_⟩
      have := rtext_l0 (sg s) M (by omega) hodd hMb t e (by rw [← hm]; exact hmb) (by omega) (by omega) (by omega)
      rw [hm]
      refine Ev.step (fun k => ?_) this
      rw [heraldref03_Text.j0, if_neg (by omega), if_neg (by omega)]
end Go.Proofs.YteecekhfpfnepaaDoor.Tx
end

section
namespace Go.Proofs.YteecekhfpfnepaaDoor.Sg
open Go.RowKit Go.Proofs.YteecekhfpfnepaaDoor.PAll Go.Proofs.YteecekhfpfnepaaDoorW.PrintWords Go.Proofs.YteecekhfpfnepaaDoorW.PrintLast Go.Proofs.YteecekhfpfnepaaDoorW.PrintMore
set_option linter.unusedVariables false
set_option linter.unusedSimpArgs false
theorem one_one : single_Add.f 1065353216 1065353216 = some 1073741824 := by decide +kernel
theorem three_half : NR false 3 (-1) = 1069547520 := by decide +kernel
theorem awake_some (k : Nat) (hk : 80 ≤ k) : heraldlaw03_awake.f k = some true := by
  unfold heraldlaw03_awake.f
  rw [one_one]
  simp only [Option.bind_some, if_true]
  rw [near_some 3 (-1) (by omega) (by omega) k (by omega), if_neg (by decide)]
  have e : NR (decide ((3 : Int) < 0)) (3 : Int).natAbs (-1) = 1069547520 := three_half
  rw [e]
  rfl
theorem wf_u32 {a : Int} (h : (Lit.int .u32 a).wf = true) : 0 ≤ a ∧ a ≤ 4294967295 := (Lit.wf_int_iff _ _).1 h
end Go.Proofs.YteecekhfpfnepaaDoor.Sg
end

section
namespace Go.Proofs.YteecekhfpfnepaaDoor.Pure
open Go.RowKit Go.Proofs.YteecekhfpfnepaaDoor.PAll Go.Proofs.YteecekhfpfnepaaDoor.Tx Go.Proofs.YteecekhfpfnepaaDoor.Nums Go.Proofs.YteecekhfpfnepaaDoorW.PrintWords Go.Proofs.YteecekhfpfnepaaDoorW.PrintLast
open Go.Proofs.YteecekhfpfnepaaDoor.Sg (awake_some wf_u32)
set_option linter.unusedVariables false
theorem texts_ev (a : Int) (h0 : 0 ≤ a) (h1 : a < 4294967296) (s : ByteArray) : Ev (fun k => heraldlaw03_SingleTexts.f k a s) true := by
  obtain ⟨⟨r1, r2, r3⟩, ⟨K1, p1⟩, ⟨K2, p2⟩⟩ := parse_same s
  obtain ⟨T, ⟨K3, p3⟩, ⟨K4, p4⟩⟩ := text_same a h0 h1
  refine ⟨K1 + K2 + K3 + K4 + 80, fun k hk => ?_⟩
  have g1 : single_Parse.f k s = some (r1, r2, r3) := p1 k (by omega)
  have g2 : heraldref03_Parse.f k s = some (r1, r2, r3) := p2 k (by omega)
  have g3 : single_Text.f k a = some T := p3 k (by omega)
  have g4 : heraldref03_Text.f k a = some T := p4 k (by omega)
  have g5 := awake_some k (by omega)
  show heraldlaw03_SingleTexts.f k a s = some true
  unfold heraldlaw03_SingleTexts.f
  rw [g1, Option.bind_some, g2, Option.bind_some, g5, Option.bind_some, if_pos rfl, g3, Option.bind_some, g4, Option.bind_some, if_pos rfl, if_pos rfl, if_pos rfl, beq_self_eq_true]
theorem SingleTexts : heraldlaw03_SingleTexts.Pure := fun a s h _ => (texts_ev a (wf_u32 h).1 (by have := (wf_u32 h).2; omega) s).rounds
end Go.Proofs.YteecekhfpfnepaaDoor.Pure
end
