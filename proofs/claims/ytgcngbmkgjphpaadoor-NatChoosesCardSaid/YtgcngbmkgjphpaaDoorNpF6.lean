/- Texts of this session and printed texts, merged, what is not needed left out: NmL, PureNatChooses. -/
import Derived.Test.YtgcngbmkgjphpaaDoorNpF0
import Derived.Test.YtgcngbmkgjphpaaDoorNpF1
import Derived.Test.YtgcngbmkgjphpaaDoorNpF2
import Derived.Test.YtgcngbmkgjphpaaDoorNpF3
import Derived.Test.YtgcngbmkgjphpaaDoorNpF4
import Derived.Test.YtgcngbmkgjphpaaDoorNpF5
section
namespace Go.Proofs.YtgcngbmkgjphpaaDoor.Nums
open Go.RowKit Go.Proofs.YtgcngbmkgjphpaaDoor.PAll Go.Proofs.YtgcngbmkgjphpaaDoorW.PrintWords Go.Proofs.YtgcngbmkgjphpaaDoorW.PrintLast Go.Proofs.YtgcngbmkgjphpaaDoorW.PrintMore
set_option linter.unusedVariables false
set_option linter.unusedSimpArgs false
/-- In how many ways k things of n can be taken. -/
def ch : Nat → Nat → Nat
  | _, 0 => 1
  | 0, _ + 1 => 0
  | n + 1, k + 1 => ch n k + ch n (k + 1)
theorem ch_zero (n : Nat) : ch n 0 = 1 := by cases n <;> rfl
theorem ch_succ (n k : Nat) : ch (n + 1) (k + 1) = ch n k + ch n (k + 1) := rfl
theorem ch_over : ∀ (n k : Nat), n < k → ch n k = 0
  | 0, k + 1, _ => rfl
  | n + 1, k + 1, h => by rw [ch_succ, ch_over n k (by omega), ch_over n (k + 1) (by omega)]
theorem ch_self : ∀ n : Nat, ch n n = 1
  | 0 => rfl
  | n + 1 => by rw [ch_succ, ch_self n, ch_over n (n + 1) (by omega)]
theorem ch_le : ∀ (n k : Nat), ch n k ≤ 2 ^ n
  | 0, 0 => by decide
  | 0, k + 1 => by rw [ch_over 0 (k + 1) (by omega)]; exact Nat.zero_le _
  | n + 1, 0 => by rw [ch_zero]; exact Nat.pow_pos (by omega)
  | n + 1, k + 1 => by
    have h1 := ch_le n k
    have h2 := ch_le n (k + 1)
    rw [ch_succ, Nat.pow_succ]; omega
theorem ch_absorb : ∀ (n k : Nat), (k + 1) * ch (n + 1) (k + 1) = (n + 1) * ch n k
  | 0, 0 => by decide
  | 0, k + 1 => by rw [ch_over 1 (k + 1 + 1) (by omega), ch_over 0 (k + 1) (by omega), Nat.mul_zero, Nat.mul_zero]
  | n + 1, 0 => by
    have h := ch_absorb n 0
    rw [ch_succ, ch_zero, Nat.mul_add]
    rw [ch_zero] at h
    omega
  | n + 1, k + 1 => by
    have h1 := ch_absorb n k
    have h2 := ch_absorb n (k + 1)
    have e := ch_succ n k
    rw [ch_succ (n + 1) (k + 1), Nat.mul_add, h2]
    have e1 : (k + 1 + 1) * ch (n + 1) (k + 1) = (k + 1) * ch (n + 1) (k + 1) + ch (n + 1) (k + 1) := Nat.succ_mul _ _
    have e2 : (n + 1 + 1) * ch (n + 1) (k + 1) = (n + 1) * ch (n + 1) (k + 1) + ch (n + 1) (k + 1) := Nat.succ_mul _ _
    rw [e1, e2, h1, e, Nat.mul_add]
    omega
theorem ch_step (n k : Nat) (h : k ≤ n) : (k + 1) * ch n (k + 1) = (n - k) * ch n k := by
  have h1 := ch_absorb n k
  rw [ch_succ, Nat.mul_add] at h1
  obtain ⟨d, rfl⟩ : ∃ d, n = k + d := ⟨n - k, by omega⟩
  rw [show k + d - k = d by omega]
  have e : (k + d + 1) * ch (k + d) k = (k + 1) * ch (k + d) k + d * ch (k + d) k := by rw [← Nat.add_mul]; congr 1; omega
  omega
theorem ch_symm : ∀ (a b : Nat), ch (a + b) a = ch (a + b) b
  | 0, b => by rw [ch_zero, Nat.zero_add, ch_self]
  | a + 1, 0 => by rw [ch_zero, Nat.add_zero, ch_self]
  | a + 1, b + 1 => by
    have h1 := ch_symm a (b + 1)
    have h2 := ch_symm (a + 1) b
    rw [show a + 1 + (b + 1) = (a + b + 1) + 1 by omega, ch_succ (a + b + 1) a, ch_succ (a + b + 1) b]
    rw [show a + (b + 1) = a + b + 1 by omega] at h1
    rw [show a + 1 + b = a + b + 1 by omega] at h2
    omega
theorem bl_ch_of (n k m : Nat) (h : n ≤ m) : bl (ch n k) ≤ m + 1 := bl_le.mpr (Nat.lt_of_le_of_lt (ch_le n k) (Nat.pow_lt_pow_right (by omega) (by omega)))
theorem bl_ch (n k : Nat) (h : n ≤ 4096) : bl (ch n k) ≤ 4097 := bl_ch_of n k 4096 h
theorem pd_ch (n k : Nat) (h : n ≤ 4096) : (dgs 4294967296 (ch n k)).length ≤ 129 := pd_len (by have := bl_ch n k h; omega)
theorem rg_ch (n k : Nat) (h : n ≤ 4096) : (dgs 65536 (ch n k)).length ≤ 257 := rg_len (by have := bl_ch n k h; omega)
theorem sub_arg (n i : Nat) (h : i ≤ n) (hn : n ≤ 4096) : (wrap64 ((n : Int) - (i : Int))) % 4294967296 = ((n - i : Nat) : Int) := by rw [wrap_in (by omega) (by omega)]; omega
theorem one_arg (i : Nat) (h : i ≤ 4096) : ((i + 1 : Nat) : Int) % 4294967296 = ((i + 1 : Nat) : Int) := by omega
theorem ref_arg (n k i : Nat) (h : k ≤ n) (hn : n ≤ 4096) (hi : i ≤ 4096) : wrap64 (wrap64 ((n : Int) - (k : Int)) + ((i : Int) + 1)) = ((n - k + i + 1 : Nat) : Int) := by rw [wrap_in (a := (n : Int) - (k : Int)) (by omega) (by omega), wrap_in (by omega) (by omega)]; omega
theorem ref_next (i : Nat) (hi : i ≤ 4096) : wrap64 ((i : Int) + 1 + 1) = ((i + 1 : Nat) : Int) + 1 := by rw [wrap_in (by omega) (by omega)]; omega
theorem int_sub (n k : Int) (h0 : 0 ≤ n) (h1 : n ≤ 4096) (h2 : 0 ≤ k) (h3 : k ≤ n) : wrap64 (n - k) = n - k := wrap_in (by omega) (by omega)
theorem nat_pred (n : Nat) (h : 1 ≤ n) (hn : n ≤ 4096) : wrap64 ((n : Int) - 1) = ((n - 1 : Nat) : Int) := by rw [wrap_in (by omega) (by omega)]; omega
theorem int_pred (k : Int) (h0 : 0 ≤ k) (h1 : k ≤ 4096) : wrap64 (k - 1) = k - 1 := wrap_in (by omega) (by omega)
/-- The program's loop. -/
theorem choose_loop (n k : Nat) (hn : n ≤ 4096) (hk : k ≤ n) : ∀ (m i : Nat), m = k - i → i ≤ k → Ev (fun kk => nat_Choose.l0 kk (n : Int) (k : Int) (i : Int) (dgs 4294967296 (ch n i))) (dgs 4294967296 (ch n k), 0) := by
  intro m
  induction m with
  | zero =>
    intro i hm hi
    obtain rfl : i = k := by omega
    refine Ev.step (f := fun _ => some (dgs 4294967296 (ch n i), 0)) (fun kk => ?_) (Ev.now _)
    rw [nat_Choose.l0, if_neg (by omega)]
  | succ m ih =>
    intro i hm hi
    have hl := pd_ch n i hn
    have ht := times_ev (n := ch n i) (m := n - i) (a := 0) (by omega) (by omega) (by omega)
    rw [Nat.add_zero] at ht
    have hst := ch_step n i (by omega)
    have hl2 := mul_len 4294967296 (n - i) (ch n i) (by omega)
    have hl3 : (dgs 4294967296 (n - i)).length ≤ 1 := (dgs_len_le (by omega)).mpr (by omega)
    have hb := by_ev (n := (n - i) * ch n i) (d := i + 1) (by omega) (by omega) (by omega)
    have hq : (n - i) * ch n i / (i + 1) = ch n (i + 1) := by rw [← hst, Nat.mul_div_cancel_left _ (by omega)]
    rw [hq] at hb
    have ihh := ih (i + 1) (by omega) (by omega)
    have q1 := hb.bind (f := fun kk bt447 => (nat_Choose.l0 kk (n : Int) (k : Int) ((i + 1 : Nat) : Int) bt447.1)) ihh
    have q2 := ht.bind (f := fun kk t444 => ((nat_Nat_by.f kk t444 ((i + 1 : Nat) : Int)).bind fun bt447 => (nat_Choose.l0 kk (n : Int) (k : Int) ((i + 1 : Nat) : Int) bt447.1))) q1
    have c1 : (i : Int) < (k : Int) := by omega
    have k1 : i ≤ n := by omega
    have k2 : i < 1000000000000 := by omega
    have k3 : i ≤ 4096 := by omega
    have e1 := sub_arg n i k1 hn
    have e2 := next_k i k2
    have e3 := one_arg i k3
    refine Ev.step (fun kk => ?_) q2
    rw [nat_Choose.l0, if_pos c1, e1, e2, e3]
    rfl
theorem choose_j0 (n k : Nat) (hn : n ≤ 4096) (hk : k ≤ n) : Ev (fun kk => nat_Choose.j0 kk (n : Int) (k : Int) false) (dgs 4294967296 (ch n k), 0) := by
  obtain ⟨m, hm, h1, h2⟩ : ∃ m : Nat, mn (k : Int) (wrap64 ((n : Int) - (k : Int))) = (m : Int) ∧ m ≤ n ∧ ch n m = ch n k := by
    rw [wrap_in (by omega) (by omega)]
    unfold mn
    by_cases c : (n : Int) - (k : Int) < (k : Int)
    · rw [if_pos c]
      refine ⟨n - k, by omega, by omega, ?_⟩
      have := ch_symm (n - k) k
      rwa [show n - k + k = n by omega] at this
    · rw [if_neg c]; exact ⟨k, rfl, hk, rfl⟩
  have hl := choose_loop n m hn h1 m 0 (by omega) (by omega)
  rw [ch_zero, h2] at hl
  have q := (of_ev 1 (by omega)).bind (f := fun kk t440 => (nat_Choose.l0 kk (n : Int) (m : Int) 0 t440)) hl
  have c1 : ¬ (k : Int) < 0 := by omega
  have c2 : ¬ (k : Int) > (n : Int) := by omega
  refine Ev.step (fun kk => ?_) q
  rw [nat_Choose.j0, if_neg (by decide), if_neg c1, if_neg c2, hm]
  rfl
/-- What is chosen: nothing where k lies outside. -/
def chI (n : Nat) (k : Int) : Nat := if k < 0 then 0 else ch n k.toNat
theorem choose_ev (n : Nat) (k : Int) (hn : n ≤ 4096) : Ev (fun kk => nat_Choose.f kk (n : Int) k) (dgs 4294967296 (chI n k), 0) := by
  have c1 : ¬ (n : Int) < 0 := by omega
  have c2 : decide ((n : Int) > 4096) = false := decide_eq_false (by omega)
  have lay : Ev (fun kk => nat_Choose.j0 kk (n : Int) k false) (dgs 4294967296 (chI n k), 0) → Ev (fun kk => nat_Choose.f kk (n : Int) k) (dgs 4294967296 (chI n k), 0) := by
    intro h
    refine Ev.congr (fun kk => ?_) h
    unfold nat_Choose.f
    rw [if_neg c1, c2]
  apply lay
  unfold chI
  by_cases g1 : k < 0
  · rw [if_pos g1, dgs_zero]
    refine Ev.step (f := fun _ => some ([], 0)) (fun kk => ?_) (Ev.now _)
    rw [nat_Choose.j0, if_neg (by decide), if_pos g1]
  · rw [if_neg g1]
    obtain ⟨j, rfl⟩ := Int.eq_ofNat_of_zero_le (show 0 ≤ k by omega)
    rw [Int.toNat_natCast]
    by_cases g2 : n < j
    · rw [ch_over n j g2, dgs_zero]
      refine Ev.step (f := fun _ => some ([], 0)) (fun kk => ?_) (Ev.now _)
      rw [nat_Choose.j0, if_neg (by decide), if_neg g1, if_pos (by omega)]
    · exact choose_j0 n j hn (by omega)
theorem choose_bad (n k : Int) (h : n < 0 ∨ n > 4096) : Ev (fun kk => nat_Choose.f kk n k) ([], 1) := by
  have j : Ev (fun kk => nat_Choose.j0 kk n k true) ([], 1) := by
    refine Ev.step (f := fun _ => some ([], 1)) (fun kk => ?_) (Ev.now _)
    rw [nat_Choose.j0, if_pos rfl]
  refine Ev.congr (fun kk => ?_) j
  unfold nat_Choose.f
  by_cases c : n < 0
  · rw [if_pos c]
  · rw [if_neg c, decide_eq_true (h.resolve_left c)]
theorem rchoose_bad (n k : Int) (h : n < 0 ∨ n > 4096) : Ev (fun kk => heraldref04_Choose.f kk n k) ([], 1) := by
  have j : Ev (fun kk => heraldref04_Choose.j0 kk n k true) ([], 1) := by
    refine Ev.step (f := fun _ => some ([], 1)) (fun kk => ?_) (Ev.now _)
    rw [heraldref04_Choose.j0, if_pos rfl]
  refine Ev.congr (fun kk => ?_) j
  unfold heraldref04_Choose.f
  by_cases c : n < 0
  · rw [if_pos c]
  · rw [if_neg c, decide_eq_true (h.resolve_left c)]
/-- The reference's loop. -/
theorem rchoose_loop (n k : Nat) (hn : n ≤ 4096) (hk : k ≤ n) : ∀ (m i : Nat), m = k - i → i ≤ k → Ev (fun kk => heraldref04_Choose.l0 kk (n : Int) (k : Int) (dgs 65536 (ch (n - k + i) i)) ((i : Int) + 1)) (dgs 65536 (ch n k), 0) := by
  intro m
  induction m with
  | zero =>
    intro i hm hi
    obtain rfl : i = k := by omega
    rw [show n - i + i = n by omega]
    refine Ev.step (f := fun _ => some (dgs 65536 (ch n i), 0)) (fun kk => ?_) (Ev.now _)
    rw [heraldref04_Choose.l0, if_neg (by omega)]
  | succ m ih =>
    intro i hm hi
    have hl := rg_ch (n - k + i) i (by omega)
    have hof := rof_ev (n - k + i + 1) (by omega)
    have lof : (dgs 65536 (n - k + i + 1)).length ≤ 1 := (dgs_len_le (by omega)).mpr (by omega)
    have hmul := rmul_ev (x := ch (n - k + i) i) (y := n - k + i + 1) (by omega)
    have hl2 := mul_len 65536 (ch (n - k + i) i) (n - k + i + 1) (by omega)
    have hs := small_ev (n := ch (n - k + i) i * (n - k + i + 1)) (d := i + 1) (by omega) (by omega) (by omega)
    have hab := ch_absorb (n - k + i) i
    have hq : ch (n - k + i) i * (n - k + i + 1) / (i + 1) = ch (n - k + (i + 1)) (i + 1) := by
      rw [Nat.mul_comm, ← hab, Nat.mul_div_cancel_left _ (by omega)]; rfl
    rw [hq] at hs
    have ihh := ih (i + 1) (by omega) (by omega)
    have q1 := hs.bind (f := fun kk bt460 => (heraldref04_Choose.l0 kk (n : Int) (k : Int) bt460.1 (((i + 1 : Nat) : Int) + 1))) ihh
    have q2 := hmul.bind (f := fun kk t457 => ((heraldref04_small.f kk t457 ((i + 1 : Nat) : Int)).bind fun bt460 => (heraldref04_Choose.l0 kk (n : Int) (k : Int) bt460.1 (((i + 1 : Nat) : Int) + 1)))) q1
    have q3 := hof.bind (f := fun kk t454 => ((heraldref04_Mul.f kk (dgs 65536 (ch (n - k + i) i)) t454).bind fun t457 => ((heraldref04_small.f kk t457 ((i + 1 : Nat) : Int)).bind fun bt460 => (heraldref04_Choose.l0 kk (n : Int) (k : Int) bt460.1 (((i + 1 : Nat) : Int) + 1))))) q2
    have c1 : (i : Int) + 1 ≤ (k : Int) := by omega
    have k1 : i ≤ 4096 := by omega
    have e3 : (i : Int) + 1 = ((i + 1 : Nat) : Int) := by omega
    have e1 := ref_arg n k i hk hn k1
    have e2 := ref_next i k1
    refine Ev.step (fun kk => ?_) q3
    rw [heraldref04_Choose.l0, if_pos c1, e1, e2, e3]
theorem rchoose_ev (n : Nat) (k : Int) (hn : n ≤ 4096) : Ev (fun kk => heraldref04_Choose.f kk (n : Int) k) (dgs 65536 (chI n k), 0) := by
  have c1 : ¬ (n : Int) < 0 := by omega
  have c2 : decide ((n : Int) > 4096) = false := decide_eq_false (by omega)
  have lay : ∀ b : Bool, Ev (fun kk => heraldref04_Choose.j1 kk (n : Int) k b) (dgs 65536 (chI n k), 0) → (∀ kk, (if k < 0 then (heraldref04_Choose.j1 kk (n : Int) k true) else (heraldref04_Choose.j1 kk (n : Int) k (decide (k > (n : Int))))) = heraldref04_Choose.j1 kk (n : Int) k b) → Ev (fun kk => heraldref04_Choose.f kk (n : Int) k) (dgs 65536 (chI n k), 0) := by
    intro b h e
    have h2 : Ev (fun kk => heraldref04_Choose.j0 kk (n : Int) k false) (dgs 65536 (chI n k), 0) := by
      refine Ev.step (fun kk => ?_) h
      rw [heraldref04_Choose.j0, if_neg (by decide), e]
    refine Ev.congr (fun kk => ?_) h2
    unfold heraldref04_Choose.f
    rw [if_neg c1, c2]
  by_cases g1 : k < 0
  · refine lay true ?_ (fun kk => by rw [if_pos g1])
    unfold chI
    rw [if_pos g1, dgs_zero]
    refine Ev.step (f := fun _ => some ([], 0)) (fun kk => ?_) (Ev.now _)
    rw [heraldref04_Choose.j1, if_pos rfl]
  · obtain ⟨j, rfl⟩ := Int.eq_ofNat_of_zero_le (show 0 ≤ k by omega)
    by_cases g2 : n < j
    · refine lay true ?_ (fun kk => by rw [if_neg g1, decide_eq_true (by omega)])
      unfold chI
      rw [if_neg g1, Int.toNat_natCast, ch_over n j g2, dgs_zero]
      refine Ev.step (f := fun _ => some ([], 0)) (fun kk => ?_) (Ev.now _)
      rw [heraldref04_Choose.j1, if_pos rfl]
    · refine lay false ?_ (fun kk => by rw [if_neg g1, decide_eq_false (by omega)])
      unfold chI
      rw [if_neg g1, Int.toNat_natCast]
      have hl := rchoose_loop n j hn (by omega) j 0 (by omega) (by omega)
      rw [ch_zero] at hl
      refine Ev.step (fun kk => ?_) hl
      rw [heraldref04_Choose.j1, if_neg (by decide), rone]
      rfl
theorem chI_small (n : Nat) (k : Int) (hn : n ≤ 4096) : bl (chI n k) ≤ 4097 := by
  unfold chI
  by_cases c : k < 0
  · rw [if_pos c, bl_zero]; omega
  · rw [if_neg c]; exact bl_ch n _ hn
/-- The sum of two of one thing less. -/
theorem chI_sum (n : Nat) (k : Int) (hn : 1 ≤ n) (h0 : 0 ≤ k) : chI (n - 1) (k - 1) + chI (n - 1) k = chI n k := by
  obtain ⟨j, rfl⟩ := Int.eq_ofNat_of_zero_le h0
  obtain ⟨m, rfl⟩ : ∃ m, n = m + 1 := ⟨n - 1, by omega⟩
  unfold chI
  rw [show m + 1 - 1 = m by omega, if_neg (show ¬ (j : Int) < 0 by omega), if_neg (show ¬ (j : Int) < 0 by omega), Int.toNat_natCast]
  cases j with
  | zero => rw [if_pos (by omega), ch_zero, ch_zero]
  | succ i => rw [if_neg (by omega), show (((i + 1 : Nat) : Int) - 1).toNat = i by omega, ch_succ]
theorem chI_same (n : Nat) (k : Int) (h0 : 0 ≤ k) (h1 : k ≤ n) : chI n ((n : Int) - k) = chI n k := by
  obtain ⟨j, rfl⟩ := Int.eq_ofNat_of_zero_le h0
  unfold chI
  rw [if_neg (by omega), if_neg (by omega), Int.toNat_natCast, show ((n : Int) - (j : Int)).toNat = n - j by omega]
  have := ch_symm (n - j) j
  rwa [show n - j + j = n by omega] at this
theorem chooses_end (N K k1 : Int) (L0 L1 L2 : List Int) (A B C D : Nat → Option (List Int × Int)) (c1 : Ev A (L0, 0)) (c2 : Ev B (L1, 0)) (c3 : Ev C (L2, 0)) (c4 : Ev D (L0, 0)) (cmp : Ev (fun kk => nat_Nat_Compare.f kk L0 L0) 0) (hD : ∀ kk, D kk = nat_Nat_Add.f kk L1 L2) :
    Ev (fun kk => (A kk).bind fun bt495 => ((B kk).bind fun bt500 => ((C kk).bind fun bt505 => ((nat_Nat_Add.f kk bt500.1 bt505.1).bind fun bt510 => (if bt495.2 = 0 then (if bt500.2 = 0 then (if bt505.2 = 0 then (if bt510.2 = 0 then ((nat_Nat_Compare.f kk bt495.1 L0).bind fun t515 => (if t515 = 0 then ((nat_Nat_Compare.f kk bt510.1 L0).bind fun t516 => (some (t516 == 0))) else (some false))) else (some false)) else (some false)) else (some false)) else (some false)))))) true := by
  obtain ⟨K1, h1⟩ := c1
  obtain ⟨K2, h2⟩ := c2
  obtain ⟨K3, h3⟩ := c3
  obtain ⟨K4, h4⟩ := c4
  obtain ⟨K5, h5⟩ := cmp
  refine ⟨K1 + K2 + K3 + K4 + K5, fun kk hk => ?_⟩
  have g4 := h4 kk (by omega)
  have g5 : nat_Nat_Compare.f kk L0 L0 = some 0 := h5 kk (by omega)
  show (A kk).bind _ = _
  rw [hD] at g4
  rw [h1 kk (by omega), Option.bind_some, h2 kk (by omega), Option.bind_some, h3 kk (by omega), Option.bind_some, g4, Option.bind_some, if_pos rfl, if_pos rfl, if_pos rfl, if_pos rfl, g5, Option.bind_some, if_pos rfl, Option.bind_some]
  rfl
theorem chooses_j0 (n : Nat) (k : Int) (hn : n ≤ 4096) (hn1 : 1 ≤ n) (h0 : 0 ≤ k) (h1 : k ≤ n) : Ev (fun kk => heraldlaw04_NatChooses.j0 kk (n : Int) k false (dgs 4294967296 (chI n k))) true := by
  have b0 := chI_small n k hn
  have b1 := chI_small (n - 1) (k - 1) (by omega)
  have b2 := chI_small (n - 1) k (by omega)
  have hs := chI_sum n k hn1 h0
  have l0 := pd_len (n := chI n k) (k := 2048) (by omega)
  have add := add_fits (x := chI (n - 1) (k - 1)) (y := chI (n - 1) k) (by omega) (by omega) (by rw [hs]; omega)
  rw [hs] at add
  have same := choose_ev n ((n : Int) - k) hn
  rw [chI_same n k h0 h1] at same
  have cmp := cmp_ev (chI n k) (chI n k) (by omega) (by omega)
  rw [cmpV_eq] at cmp
  have k1 : (n : Int) ≤ 4096 := by omega
  have k2 : (0 : Int) ≤ (n : Int) := by omega
  have k3 : k ≤ 4096 := by omega
  have e1 := int_sub (n : Int) k k2 k1 h0 h1
  have e2 := nat_pred n hn1 hn
  have e3 := int_pred k h0 k3
  have q := chooses_end (n : Int) k k (dgs 4294967296 (chI n k)) _ _ _ _ _ _ same (choose_ev (n - 1) (k - 1) (by omega)) (choose_ev (n - 1) k (by omega)) add cmp (fun _ => rfl)
  refine Ev.step (fun kk => ?_) q
  rw [heraldlaw04_NatChooses.j0, if_neg (by decide), e1, e2, e3]
theorem chooses_true (n k : Int) (l : List Int) : Ev (fun kk => heraldlaw04_NatChooses.j0 kk n k true l) true := by
  refine Ev.step (f := fun _ => some true) (fun kk => ?_) (Ev.now _)
  rw [heraldlaw04_NatChooses.j0, if_pos rfl]
theorem NatChooses_ev (n k : Int) : Ev (fun kk => heraldlaw04_NatChooses.f kk n k) true := by
  have fin : ∀ (a b : List Int) (e : Int), Ev (fun kk => nat_Choose.f kk n k) (a, e) → Ev (fun kk => heraldref04_Choose.f kk n k) (b, e) → Ev (fun kk => heraldlaw04_is.f kk a e b e) true → Ev (fun kk => (if e = 0 then (if n < 1 then (heraldlaw04_NatChooses.j0 kk n k true a) else (if k < 0 then (heraldlaw04_NatChooses.j0 kk n k true a) else (heraldlaw04_NatChooses.j0 kk n k (decide (k > n)) a))) else (heraldlaw04_NatChooses.j0 kk n k true a))) true → Ev (fun kk => heraldlaw04_NatChooses.f kk n k) true := by
    intro a b e h1 h2 h3 h4
    have q1 := h3.bind (f := fun kk t494 => (if t494 = true then (if e = 0 then (if n < 1 then (heraldlaw04_NatChooses.j0 kk n k true a) else (if k < 0 then (heraldlaw04_NatChooses.j0 kk n k true a) else (heraldlaw04_NatChooses.j0 kk n k (decide (k > n)) a))) else (heraldlaw04_NatChooses.j0 kk n k true a)) else (some false))) (r := true) (Ev.congr (fun kk => by rw [if_pos rfl]) h4)
    have q2 := h2.bind (f := fun kk bt490 => ((heraldlaw04_is.f kk a e bt490.1 bt490.2).bind fun t494 => (if t494 = true then (if e = 0 then (if n < 1 then (heraldlaw04_NatChooses.j0 kk n k true a) else (if k < 0 then (heraldlaw04_NatChooses.j0 kk n k true a) else (heraldlaw04_NatChooses.j0 kk n k (decide (k > n)) a))) else (heraldlaw04_NatChooses.j0 kk n k true a)) else (some false)))) q1
    have q3 := h1.bind (f := fun kk bt485 => ((heraldref04_Choose.f kk n k).bind fun bt490 => ((heraldlaw04_is.f kk bt485.1 bt485.2 bt490.1 bt490.2).bind fun t494 => (if t494 = true then (if bt485.2 = 0 then (if n < 1 then (heraldlaw04_NatChooses.j0 kk n k true bt485.1) else (if k < 0 then (heraldlaw04_NatChooses.j0 kk n k true bt485.1) else (heraldlaw04_NatChooses.j0 kk n k (decide (k > n)) bt485.1))) else (heraldlaw04_NatChooses.j0 kk n k true bt485.1)) else (some false))))) q2
    exact awake_ev.bind (f := fun kk t484 => (if t484 = true then ((nat_Choose.f kk n k).bind fun bt485 => ((heraldref04_Choose.f kk n k).bind fun bt490 => ((heraldlaw04_is.f kk bt485.1 bt485.2 bt490.1 bt490.2).bind fun t494 => (if t494 = true then (if bt485.2 = 0 then (if n < 1 then (heraldlaw04_NatChooses.j0 kk n k true bt485.1) else (if k < 0 then (heraldlaw04_NatChooses.j0 kk n k true bt485.1) else (heraldlaw04_NatChooses.j0 kk n k (decide (k > n)) bt485.1))) else (heraldlaw04_NatChooses.j0 kk n k true bt485.1)) else (some false))))) else (some false))) (r := true) (Ev.congr (fun kk => by rw [if_pos rfl]) q3)
  by_cases c : n < 0 ∨ n > 4096
  · refine fin [] [] 1 (choose_bad n k c) (rchoose_bad n k c) (is_nil 1) ?_
    exact Ev.congr (fun kk => by rw [if_neg (by decide)]) (chooses_true n k [])
  · obtain ⟨m, rfl⟩ := Int.eq_ofNat_of_zero_le (show 0 ≤ n by omega)
    have hb := chI_small m k (by omega)
    have l1 := pd_len (n := chI m k) (k := 2048) (by omega)
    have l2 := rg_len (n := chI m k) (k := 4096) (by omega)
    refine fin (dgs 4294967296 (chI m k)) (dgs 65536 (chI m k)) 0 (choose_ev m k (by omega)) (rchoose_ev m k (by omega)) (is_ev _ 0 (by omega) (by omega)) ?_
    by_cases g1 : (m : Int) < 1
    · exact Ev.congr (fun kk => by rw [if_pos rfl, if_pos g1]) (chooses_true (m : Int) k _)
    · by_cases g2 : k < 0
      · exact Ev.congr (fun kk => by rw [if_pos rfl, if_neg g1, if_pos g2]) (chooses_true (m : Int) k _)
      · by_cases g3 : k > (m : Int)
        · exact Ev.congr (fun kk => by rw [if_pos rfl, if_neg g1, if_neg g2, decide_eq_true g3]) (chooses_true (m : Int) k _)
        · exact Ev.congr (fun kk => by rw [if_pos rfl, if_neg g1, if_neg g2, decide_eq_false g3]) (chooses_j0 m k (by omega) (by omega) (by omega) (by omega))
end Go.Proofs.YtgcngbmkgjphpaaDoor.Nums
end

section
namespace Go.Proofs.YtgcngbmkgjphpaaDoor.Pure
set_option linter.unusedVariables false
open Go.RowKit Go.Proofs.YtgcngbmkgjphpaaDoor.PAll Go.Proofs.YtgcngbmkgjphpaaDoor.Nums Go.Proofs.YtgcngbmkgjphpaaDoorW.PrintWords
theorem NatChooses (a0 a1 : Int) (h0 : (Lit.int .i64 a0).wf = true) (h1 : (Lit.int .i64 a1).wf = true) : ∃ k, heraldlaw04_NatChooses.f k a0 a1 = some true :=
  (NatChooses_ev a0 a1).rounds
end Go.Proofs.YtgcngbmkgjphpaaDoor.Pure
end
