/- Texts of this session and printed texts, merged, what is not needed left out: NmB, NmC, HTrim, PAllx2, NmD, PAllx7, NmF, PAllx4. -/
import Derived.Test.YtgcngbmkgjphpaaDoorNpF0
import Derived.Test.YtgcngbmkgjphpaaDoorNpF1
import Derived.Test.YtgcngbmkgjphpaaDoorNpF2
section
namespace Go.Proofs.YtgcngbmkgjphpaaDoor.Nums
open Go.RowKit Go.Proofs.YtgcngbmkgjphpaaDoor.PAll Go.Proofs.YtgcngbmkgjphpaaDoorW.PrintWords Go.Proofs.YtgcngbmkgjphpaaDoorW.PrintLast Go.Proofs.YtgcngbmkgjphpaaDoorW.PrintMore
set_option linter.unusedVariables false
set_option linter.unusedSimpArgs false
theorem rep_dn (b L : Nat) (x : Int) (h : x = (L : Int)) : List.replicate x.toNat (0 : Int) = dn b L 0 := by
  subst h; rw [Int.toNat_natCast, dn_zero]
theorem by_loop (n d L : Nat) (hd : 0 < d) (hd2 : d < 4294967296) (hL : n < 4294967296 ^ L) (hlen : L = (dgs 4294967296 n).length) (hsz : L ≤ 72057594037927936) : ∀ i : Nat, i ≤ L →
    Ev (fun k => nat_Nat_by.l0 k (d : Int) (dn 4294967296 L (4294967296 ^ i * (n / 4294967296 ^ i / d))) ((n / 4294967296 ^ i % d : Nat) : Int) ((i : Int) - 1) (dgs 4294967296 n)) (dgs 4294967296 (n / d), ((n % d : Nat) : Int)) := by
  intro i
  induction i with
  | zero =>
    intro _
    have hv : n / d < 4294967296 ^ L := Nat.lt_of_le_of_lt (Nat.div_le_self _ _) hL
    have := (cut_dn (by omega) hv).bind (f := fun _ t => some (t, ((n % d : Nat) : Int) % 4294967296)) (Ev.now _)
    have hm := Nat.mod_lt n hd
    rw [show ((n % d : Nat) : Int) % 4294967296 = ((n % d : Nat) : Int) by omega] at this
    refine Ev.step (fun k => ?_) this
    rw [nat_Nat_by.l0, if_neg (by omega)]
    simp only [Nat.pow_zero, Nat.div_one, Nat.one_mul]
    rw [show ((n % d : Nat) : Int) % 4294967296 = ((n % d : Nat) : Int) by omega]
  | succ i ih =>
    intro hi
    refine Ev.step (fun k => ?_) (ih (by omega))
    obtain ⟨l1, l2, l3⟩ := ldiv (M := n / 4294967296 ^ i) (show 0 < 4294967296 by omega) hd
    rw [Nat.div_div_eq_div_mul (n / 4294967296 ^ i)] at l1
    have e1 : n / 4294967296 ^ i / 4294967296 = n / 4294967296 ^ (i + 1) := by rw [Nat.div_div_eq_div_mul, ← Nat.pow_succ]
    rw [← Nat.div_div_eq_div_mul, e1] at l1
    rw [e1] at l2 l3
    have hr := Nat.mod_lt (n / 4294967296 ^ (i + 1)) hd
    have hx := Nat.mod_lt (n / 4294967296 ^ i) (show 0 < 4294967296 by omega)
    rw [nat_Nat_by.l0, if_pos (by omega), if_pos (by omega), if_pos (by omega), u64_in (a := (d : Int)) (by omega) (by omega), if_neg (by omega), dn_length, if_pos (by omega)]
    rw [show ((i + 1 : Nat) : Int) - 1 = (i : Int) by omega, rd_dgs (by omega), wrap_in (a := (i : Int) - 1) (by omega) (by omega)]
    generalize hR : n / 4294967296 ^ (i + 1) % d = R at *
    generalize hX : n / 4294967296 ^ i % 4294967296 = X at *
    have o : Go.bits .or .u64 (IntKind.u64.wrap ((R : Int) * 4294967296)) (IntKind.u64.wrap (X : Int)) = ((R * 4294967296 + X : Nat) : Int) := by
      rw [u64_in (a := (R : Int) * 4294967296) (by omega) (by omega), u64_in (a := (X : Int)) (by omega) (by omega)]
      have := or64 (s := 32) (a := R) (c := X) (by omega) (by omega)
      rw [show ((2 ^ 32 * R : Nat) : Int) = (R : Int) * 4294967296 by omega, show 2 ^ 32 * R + X = R * 4294967296 + X by omega] at this
      exact this
    have hlt : (R * 4294967296 + X) / d < 4294967296 := l3
    rw [o, ← Int.ofNat_tdiv, ← Int.ofNat_tmod, ← l2, Int.toNat_natCast]
    generalize (R * 4294967296 + X) / d = Y at *
    rw [u64_in (a := (Y : Int)) (by omega) (by omega)]
    rw [show (Y : Int) % 4294967296 = (Y : Int) by omega]
    have hz : 4294967296 ^ (i + 1) * (n / 4294967296 ^ (i + 1) / d) / 4294967296 ^ i % 4294967296 = 0 := by
      rw [Nat.pow_succ, Nat.mul_assoc, Nat.mul_div_cancel_left _ (Nat.pow_pos (by omega)), Nat.mul_mod_right]
    have hs := dn_set (b := 4294967296) (by omega) i L (4294967296 ^ (i + 1) * (n / 4294967296 ^ (i + 1) / d)) Y (by omega) (by rw [hz]; omega)
    rw [hz, Nat.zero_add] at hs
    rw [hs, l1, Nat.mul_add, ← Nat.mul_assoc, ← Nat.pow_succ]
theorem by_ev {n d : Nat} (hd : 0 < d) (hd2 : d < 4294967296) (hsz : (dgs 4294967296 n).length ≤ 70368744177664) : Ev (fun k => nat_Nat_by.f k (dgs 4294967296 n) (d : Int)) (dgs 4294967296 (n / d), ((n % d : Nat) : Int)) := by
  have h := by_loop n d (dgs 4294967296 n).length hd hd2 (lt_pow_len (by omega)) rfl (by omega) (dgs 4294967296 n).length (Nat.le_refl _)
  have hz : n / 4294967296 ^ (dgs 4294967296 n).length = 0 := Nat.div_eq_of_lt (lt_pow_len (by omega))
  rw [hz, Nat.zero_div, Nat.zero_mod, Nat.mul_zero] at h
  refine Ev.congr (fun k => ?_) h
  unfold nat_Nat_by.f
  rw [if_pos (by omega), if_pos (by omega), wrap_in (a := ((dgs 4294967296 n).length : Int) - 1) (by omega) (by omega), rep_dn 4294967296 (dgs 4294967296 n).length _ rfl]
  rfl
theorem small_loop (n d L : Nat) (hd : 0 < d) (hd2 : d ≤ 65536) (hL : n < 65536 ^ L) (hlen : L = (dgs 65536 n).length) (hsz : L ≤ 72057594037927936) : ∀ i : Nat, i ≤ L →
    Ev (fun k => heraldref04_small.l0 k (dgs 65536 n) (d : Int) (dn 65536 L (65536 ^ i * (n / 65536 ^ i / d))) ((n / 65536 ^ i % d : Nat) : Int) ((i : Int) - 1)) (dgs 65536 (n / d), ((n % d : Nat) : Int)) := by
  intro i
  induction i with
  | zero =>
    intro _
    have hv : n / d < 65536 ^ L := Nat.lt_of_le_of_lt (Nat.div_le_self _ _) hL
    have := (rcut_dn (by omega) hv).bind (f := fun _ t => some (t, ((n % d : Nat) : Int))) (Ev.now _)
    refine Ev.step (fun k => ?_) this
    rw [heraldref04_small.l0, if_neg (by omega)]
    simp only [Nat.pow_zero, Nat.div_one, Nat.one_mul]
  | succ i ih =>
    intro hi
    refine Ev.step (fun k => ?_) (ih (by omega))
    obtain ⟨l1, l2, l3⟩ := ldiv (M := n / 65536 ^ i) (show 0 < 65536 by omega) hd
    have e1 : n / 65536 ^ i / 65536 = n / 65536 ^ (i + 1) := by rw [Nat.div_div_eq_div_mul, ← Nat.pow_succ]
    rw [e1] at l1 l2 l3
    have hr := Nat.mod_lt (n / 65536 ^ (i + 1)) hd
    have hx := Nat.mod_lt (n / 65536 ^ i) (show 0 < 65536 by omega)
    rw [heraldref04_small.l0, if_pos (by omega), if_pos (by omega), if_pos (by omega), if_neg (by omega), dn_length, if_pos (by omega)]
    rw [show ((i + 1 : Nat) : Int) - 1 = (i : Int) by omega, rd_dgs (by omega), wrap_in (a := (i : Int) - 1) (by omega) (by omega)]
    generalize hR : n / 65536 ^ (i + 1) % d = R at *
    generalize hX : n / 65536 ^ i % 65536 = X at *
    have o : wrap64 (wrap64 ((R : Int) * 65536) + (X : Int)) = ((R * 65536 + X : Nat) : Int) := by
      rw [wrap_in (a := (R : Int) * 65536) (by omega) (by omega), wrap_in (by omega) (by omega)]; omega
    have hlt : (R * 65536 + X) / d < 65536 := l3
    rw [o, ← Int.ofNat_tdiv, ← Int.ofNat_tmod, ← l2, Int.toNat_natCast]
    generalize (R * 65536 + X) / d = Y at *
    rw [wrap_in (a := (Y : Int)) (by omega) (by omega)]
    have hz : 65536 ^ (i + 1) * (n / 65536 ^ (i + 1) / d) / 65536 ^ i % 65536 = 0 := by
      rw [Nat.pow_succ, Nat.mul_assoc, Nat.mul_div_cancel_left _ (Nat.pow_pos (by omega)), Nat.mul_mod_right]
    have hs := dn_set (b := 65536) (by omega) i L (65536 ^ (i + 1) * (n / 65536 ^ (i + 1) / d)) Y (by omega) (by rw [hz]; omega)
    rw [hz, Nat.zero_add] at hs
    rw [hs, l1, Nat.mul_add, ← Nat.mul_assoc, ← Nat.pow_succ]
theorem small_ev {n d : Nat} (hd : 0 < d) (hd2 : d ≤ 65536) (hsz : (dgs 65536 n).length ≤ 35184372088832) : Ev (fun k => heraldref04_small.f k (dgs 65536 n) (d : Int)) (dgs 65536 (n / d), ((n % d : Nat) : Int)) := by
  have h := small_loop n d (dgs 65536 n).length hd hd2 (lt_pow_len (by omega)) rfl (by omega) (dgs 65536 n).length (Nat.le_refl _)
  have hz : n / 65536 ^ (dgs 65536 n).length = 0 := Nat.div_eq_of_lt (lt_pow_len (by omega))
  rw [hz, Nat.zero_div, Nat.zero_mod, Nat.mul_zero] at h
  refine Ev.congr (fun k => ?_) h
  unfold heraldref04_small.f
  rw [if_pos (by omega), if_pos (by omega), wrap_in (a := ((dgs 65536 n).length : Int) - 1) (by omega) (by omega), rep_dn 65536 (dgs 65536 n).length _ rfl]
  rfl
/-- A product with a small number, and a sum. -/
theorem times_loop (n m X L : Nat) (hm : m < 4294967296) (hL : L = (dgs 4294967296 n).length) (hsz : L ≤ 72057594037927936) (hX : X < 4294967296 ^ (L + 1)) : ∀ (j i c : Nat), j = L - i → i ≤ L → c < 4294967296 → X / 4294967296 ^ i = m * (n / 4294967296 ^ i) + c →
    Ev (fun k => nat_Nat_times.l0 k (m : Int) (dn 4294967296 (L + 1) (mix 4294967296 i X 0)) (c : Int) (dgs 4294967296 n) (L : Int) (i : Int) (dgs 4294967296 n)) (dgs 4294967296 X) := by
  intro j
  induction j with
  | zero =>
    intro i c hj hi hc hv
    obtain rfl : i = L := by omega
    have hz : n / 4294967296 ^ i = 0 := Nat.div_eq_of_lt (by rw [hL]; exact lt_pow_len (by omega))
    rw [hz, Nat.mul_zero, Nat.zero_add] at hv
    have := (cut_dn (L := i + 1) (by omega) hX).bind (f := fun _ t => some t) (Ev.now _)
    refine Ev.step (fun k => ?_) this
    rw [nat_Nat_times.l0, if_neg (by omega), if_pos (by omega), dn_length, ← hL, if_pos (by omega), Int.toNat_natCast]
    have hs := dn_mix (b := 4294967296) (by omega) i (i + 1) X 0 (by omega)
    rw [hv, Nat.mod_eq_of_lt hc, mix_all hX (Nat.pow_pos (by omega))] at hs
    rw [show (c : Int) % 4294967296 = (c : Int) by omega, hs]
  | succ j ih =>
    intro i c hj hi hc hv
    have hx := Nat.mod_lt (n / 4294967296 ^ i) (show 0 < 4294967296 by omega)
    have hb := mac_small (o := 0) (p := m) (n := n / 4294967296 ^ i % 4294967296) (c := c) (show 0 < 4294967296 by omega) (by omega) hm hx hc
    have e1 : X / 4294967296 ^ (i + 1) = X / 4294967296 ^ i / 4294967296 := by rw [Nat.div_div_eq_div_mul, ← Nat.pow_succ]
    have e2 : n / 4294967296 ^ (i + 1) = n / 4294967296 ^ i / 4294967296 := by rw [Nat.div_div_eq_div_mul, ← Nat.pow_succ]
    have hmod := mac_mod 0 m (n / 4294967296 ^ i) c 4294967296
    have hdiv := mac_div (b := 4294967296) (by omega) 0 m (n / 4294967296 ^ i) c
    rw [Nat.zero_mod, Nat.zero_add, Nat.zero_add, ← hv] at hmod
    rw [Nat.zero_mod, Nat.zero_div, Nat.zero_add, Nat.zero_add, Nat.zero_add, ← hv, ← e1, ← e2] at hdiv
    rw [Nat.zero_add] at hb
    refine Ev.step (fun k => ?_) (ih (i + 1) ((m * (n / 4294967296 ^ i % 4294967296) + c) / 4294967296) (by omega) (by omega) (div_lt_of hb) hdiv.symm)
    rw [nat_Nat_times.l0, if_pos (by omega), if_pos (by omega), if_pos (by omega), dn_length, if_pos (by omega), rd_dgs (by omega), Int.toNat_natCast, wrap_in (a := (i : Int) + 1) (by omega) (by omega)]
    generalize hx' : n / 4294967296 ^ i % 4294967296 = x at *
    have hc2 : (x : Int) * (m : Int) = ((m * x : Nat) : Int) := by push_cast; rw [Int.mul_comm]
    rw [u64_in (a := (x : Int)) (by omega) (by omega), u64_in (a := (m : Int)) (by omega) (by omega), hc2, u64_in (a := ((m * x : Nat) : Int)) (by omega) (by omega), u64_in (a := (c : Int) + _) (by omega) (by omega)]
    rw [show (c : Int) + ((m * x : Nat) : Int) = ((m * x + c : Nat) : Int) by omega]
    rw [show ((m * x + c : Nat) : Int) % 4294967296 = (((m * x + c) % 4294967296 : Nat) : Int) by omega, show ((m * x + c : Nat) : Int) / 4294967296 = (((m * x + c) / 4294967296 : Nat) : Int) by omega, hmod]
    rw [dn_mix (b := 4294967296) (by omega) i (L + 1) X 0 (by omega)]
    rfl
theorem times_ev {n m a : Nat} (hm : m < 4294967296) (ha : a < 4294967296) (hsz : (dgs 4294967296 n).length ≤ 35184372088832) : Ev (fun k => nat_Nat_times.f k (dgs 4294967296 n) (m : Int) (a : Int)) (dgs 4294967296 (m * n + a)) := by
  have hX : m * n + a < 4294967296 ^ ((dgs 4294967296 n).length + 1) := by
    have h1 : n < 4294967296 ^ (dgs 4294967296 n).length := lt_pow_len (by omega)
    have h2 : m * (n + 1) ≤ 4294967295 * 4294967296 ^ (dgs 4294967296 n).length := Nat.mul_le_mul (by omega) h1
    have h3 : 0 < 4294967296 ^ (dgs 4294967296 n).length := Nat.pow_pos (by omega)
    have h4 : m * (n + 1) = m * n + m := Nat.mul_succ _ _
    have h5 : 4294967296 ≤ 4294967296 ^ (dgs 4294967296 n).length ∨ n = 0 := by
      by_cases hn : n = 0
      · exact .inr hn
      · left
        have := dgs_len_pos (b := 4294967296) (n := n) (by omega) hn
        have := Nat.pow_le_pow_right (show 0 < 4294967296 by omega) this
        simpa using this
    rw [Nat.pow_succ]
    rcases h5 with h5 | h5
    · omega
    · subst h5; omega
  have h := times_loop n m (m * n + a) (dgs 4294967296 n).length hm rfl (by omega) hX (dgs 4294967296 n).length 0 a (by omega) (by omega) ha (by simp)
  refine Ev.congr (fun k => ?_) h
  unfold nat_Nat_times.f
  rw [mix_zero, wrap_in (a := ((dgs 4294967296 n).length : Int) + 1) (by omega) (by omega), if_pos (by omega), if_pos (by omega), rep_dn 4294967296 ((dgs 4294967296 n).length + 1) _ (by omega), u64_in (a := (a : Int)) (by omega) (by omega)]
  rfl
end Go.Proofs.YtgcngbmkgjphpaaDoor.Nums
end

section
namespace Go.Proofs.YtgcngbmkgjphpaaDoor.Nums
open Go.RowKit Go.Proofs.YtgcngbmkgjphpaaDoor.PAll Go.Proofs.YtgcngbmkgjphpaaDoorW.PrintWords Go.Proofs.YtgcngbmkgjphpaaDoorW.PrintLast Go.Proofs.YtgcngbmkgjphpaaDoorW.PrintMore
set_option linter.unusedVariables false
set_option linter.unusedSimpArgs false
theorem bl_mul {x y : Nat} (hx : x ≠ 0) (hy : y ≠ 0) : bl x + bl y ≤ bl (x * y) + 1 := by
  have h1 := bl_pos.mpr hx
  have h2 := bl_pos.mpr hy
  have a1 : 2 ^ (bl x - 1) ≤ x := lt_bl.mp (by omega)
  have a2 : 2 ^ (bl y - 1) ≤ y := lt_bl.mp (by omega)
  have a3 := Nat.mul_le_mul a1 a2
  rw [← Nat.pow_add] at a3
  have := lt_bl.mpr a3
  omega
/-- One row of the program's product. -/
theorem mul_row (x y i Lt V W p : Nat) (R : List Int × Int) (hp : p < 4294967296) (hW : W = V + 4294967296 ^ i * (p * y)) (hV : V < 4294967296 ^ (i + (dgs 4294967296 y).length)) (hWlt : W < 4294967296 ^ (i + (dgs 4294967296 y).length + 1)) (hLt : i + (dgs 4294967296 y).length < Lt) (hsz : Lt ≤ 72057594037927936)
    (hR : Ev (fun k => nat_Nat_Mul.l0 k (dn 4294967296 Lt W) (dgs 4294967296 x) ((dgs 4294967296 x).length : Int) ((i + 1 : Nat) : Int) (dgs 4294967296 y)) R) : ∀ (jj j c : Nat), jj = (dgs 4294967296 y).length - j → j ≤ (dgs 4294967296 y).length → c < 4294967296 → W / 4294967296 ^ (i + j) = V / 4294967296 ^ (i + j) + p * (y / 4294967296 ^ j) + c →
    Ev (fun k => nat_Nat_Mul.l1 k (dn 4294967296 Lt (mix 4294967296 (i + j) W V)) (i : Int) (p : Int) (c : Int) (dgs 4294967296 x) ((dgs 4294967296 x).length : Int) (i : Int) (dgs 4294967296 y) ((dgs 4294967296 y).length : Int) (j : Int) (dgs 4294967296 y)) R := by
  intro jj
  induction jj with
  | zero =>
    intro j c hj hjl hc hv
    obtain rfl : j = (dgs 4294967296 y).length := by omega
    have hz : y / 4294967296 ^ (dgs 4294967296 y).length = 0 := Nat.div_eq_of_lt (lt_pow_len (by omega))
    rw [hz, Nat.mul_zero, Nat.add_zero, Nat.div_eq_of_lt hV, Nat.zero_add] at hv
    refine Ev.step (fun k => ?_) hR
    have hs := dn_mix (b := 4294967296) (by omega) (i + (dgs 4294967296 y).length) Lt W V hLt
    rw [hv, Nat.mod_eq_of_lt hc, mix_all hWlt (Nat.lt_of_lt_of_le hV (Nat.pow_le_pow_right (by omega) (by omega)))] at hs
    rw [nat_Nat_Mul.l1, if_neg (by omega), wrap_in (a := (i : Int) + ((dgs 4294967296 y).length : Int)) (by omega) (by omega), dn_length, if_pos (by omega), if_pos (by omega), wrap_in (a := (i : Int) + 1) (by omega) (by omega)]
    rw [show ((i : Int) + ((dgs 4294967296 y).length : Int)).toNat = i + (dgs 4294967296 y).length by omega, show (c : Int) % 4294967296 = (c : Int) by omega, hs]
    rfl
  | succ jj ih =>
    intro j c hj hjl hc hv
    have hx := Nat.mod_lt (y / 4294967296 ^ j) (show 0 < 4294967296 by omega)
    have ho := Nat.mod_lt (V / 4294967296 ^ (i + j)) (show 0 < 4294967296 by omega)
    have hb := mac_small (o := V / 4294967296 ^ (i + j) % 4294967296) (p := p) (n := y / 4294967296 ^ j % 4294967296) (c := c) (show 0 < 4294967296 by omega) ho hp hx hc
    have e1 : W / 4294967296 ^ (i + (j + 1)) = W / 4294967296 ^ (i + j) / 4294967296 := by rw [Nat.div_div_eq_div_mul, ← Nat.pow_succ]; rfl
    have e2 : y / 4294967296 ^ (j + 1) = y / 4294967296 ^ j / 4294967296 := by rw [Nat.div_div_eq_div_mul, ← Nat.pow_succ]
    have e3 : V / 4294967296 ^ (i + (j + 1)) = V / 4294967296 ^ (i + j) / 4294967296 := by rw [Nat.div_div_eq_div_mul, ← Nat.pow_succ]; rfl
    have hmod := mac_mod (V / 4294967296 ^ (i + j)) p (y / 4294967296 ^ j) c 4294967296
    have hdiv := mac_div (b := 4294967296) (by omega) (V / 4294967296 ^ (i + j)) p (y / 4294967296 ^ j) c
    rw [← hv] at hmod
    rw [← hv, ← e1, ← e2, ← e3] at hdiv
    refine Ev.step (fun k => ?_) (ih (j + 1) ((V / 4294967296 ^ (i + j) % 4294967296 + p * (y / 4294967296 ^ j % 4294967296) + c) / 4294967296) (by omega) (by omega) (div_lt_of hb) hdiv.symm)
    rw [nat_Nat_Mul.l1, if_pos (by omega), if_pos (by omega), if_pos (by omega), wrap_in (a := (i : Int) + (j : Int)) (by omega) (by omega), dn_length, if_pos (by omega), if_pos (by omega), rd_dgs (by omega), wrap_in (a := (j : Int) + 1) (by omega) (by omega)]
    rw [show (i : Int) + (j : Int) = ((i + j : Nat) : Int) by omega, rd_dn (by omega), mix_get (by omega), Int.toNat_natCast]
    generalize hx' : y / 4294967296 ^ j % 4294967296 = X at *
    generalize hy' : V / 4294967296 ^ (i + j) % 4294967296 = O at *
    have hc2 : (p : Int) * (X : Int) = ((p * X : Nat) : Int) := by push_cast; rfl
    rw [u64_in (a := (X : Int)) (by omega) (by omega), u64_in (a := (p : Int)) (by omega) (by omega), u64_in (a := (O : Int)) (by omega) (by omega), hc2, u64_in (a := ((p * X : Nat) : Int)) (by omega) (by omega), u64_in (a := ((p * X : Nat) : Int) + (O : Int)) (by omega) (by omega), u64_in (a := (c : Int) + _) (by omega) (by omega)]
    rw [show (c : Int) + (((p * X : Nat) : Int) + (O : Int)) = ((O + p * X + c : Nat) : Int) by omega]
    rw [show ((O + p * X + c : Nat) : Int) % 4294967296 = (((O + p * X + c) % 4294967296 : Nat) : Int) by omega, show ((O + p * X + c : Nat) : Int) / 4294967296 = (((O + p * X + c) / 4294967296 : Nat) : Int) by omega, hmod]
    rw [dn_mix (b := 4294967296) (by omega) (i + j) Lt W V (by omega)]
    rfl
theorem mul_loop (x y Lt : Nat) (R : List Int × Int) (hLt : Lt = (dgs 4294967296 x).length + (dgs 4294967296 y).length) (hsz : Lt ≤ 72057594037927936)
    (hR : Ev (fun k => (nat_cut.f k (dn 4294967296 Lt (x * y))).bind fun t157 => ((nat_checked.f t157).bind fun bt160 => some (bt160.1, bt160.2))) R) : ∀ (m i : Nat), m = (dgs 4294967296 x).length - i → i ≤ (dgs 4294967296 x).length →
    Ev (fun k => nat_Nat_Mul.l0 k (dn 4294967296 Lt (x % 4294967296 ^ i * y)) (dgs 4294967296 x) ((dgs 4294967296 x).length : Int) (i : Int) (dgs 4294967296 y)) R := by
  intro m
  induction m with
  | zero =>
    intro i hm hi
    obtain rfl : i = (dgs 4294967296 x).length := by omega
    refine Ev.step (fun k => ?_) hR
    rw [nat_Nat_Mul.l0, if_neg (by omega), Nat.mod_eq_of_lt (lt_pow_len (by omega))]
  | succ m ih =>
    intro i hm hi
    have hx := Nat.mod_lt (x / 4294967296 ^ i) (show 0 < 4294967296 by omega)
    have hp : 0 < 4294967296 ^ i := Nat.pow_pos (by omega)
    have hp1 : 0 < 4294967296 ^ (i + 1) := Nat.pow_pos (by omega)
    have hV := mul_lt_pow (b := 4294967296) (Nat.mod_lt x hp) (lt_pow_len (b := 4294967296) (n := y) (by omega))
    have hW := mul_lt_pow (b := 4294967296) (Nat.mod_lt x hp1) (lt_pow_len (b := 4294967296) (n := y) (by omega))
    have hWV : x % 4294967296 ^ (i + 1) * y = x % 4294967296 ^ i * y + 4294967296 ^ i * (x / 4294967296 ^ i % 4294967296 * y) := by
      rw [Nat.mod_pow_succ, Nat.add_mul, Nat.mul_assoc]
    have h := mul_row x y i Lt (x % 4294967296 ^ i * y) (x % 4294967296 ^ (i + 1) * y) (x / 4294967296 ^ i % 4294967296) R hx hWV hV (by rw [show i + (dgs 4294967296 y).length + 1 = i + 1 + (dgs 4294967296 y).length by omega]; exact hW) (by omega) hsz (ih (i + 1) (by omega) (by omega)) (dgs 4294967296 y).length 0 0 (by omega) (by omega) (by omega)
      (by rw [Nat.add_zero i, Nat.add_zero, hWV, Nat.add_mul_div_left _ _ hp, Nat.pow_zero, Nat.div_one, Nat.add_zero])
    refine Ev.step (fun k => ?_) h
    rw [nat_Nat_Mul.l0, if_pos (by omega), if_pos (by omega), if_pos (by omega), rd_dgs (by omega)]
    congr 1
    rw [Nat.add_zero]
    congr 1
    unfold mix
    rw [hWV, Nat.add_mul_mod_self_left]
    exact (Nat.mod_add_div _ _).symm
theorem mul_len (b x y : Nat) (hb : 2 ≤ b) : (dgs b (x * y)).length ≤ (dgs b x).length + (dgs b y).length := (dgs_len_le hb).mpr (mul_lt_pow (lt_pow_len hb) (lt_pow_len hb))
theorem cut_mul (x y : Nat) (h : (dgs 4294967296 x).length + (dgs 4294967296 y).length ≤ 9223372036854775807) : Ev (fun k => nat_cut.f k (dn 4294967296 ((dgs 4294967296 x).length + (dgs 4294967296 y).length) (x * y))) (dgs 4294967296 (x * y)) := cut_dn h (mul_lt_pow (lt_pow_len (by omega)) (lt_pow_len (by omega)))
theorem rcut_mul (x y : Nat) (h : (dgs 65536 x).length + (dgs 65536 y).length ≤ 9223372036854775807) : Ev (fun k => heraldref04_cut.f k (dn 65536 ((dgs 65536 x).length + (dgs 65536 y).length) (x * y))) (dgs 65536 (x * y)) := rcut_dn h (mul_lt_pow (lt_pow_len (by omega)) (lt_pow_len (by omega)))
/-- The program's product. -/
theorem mul_f (k : Nat) (l0 l1 : List Int) (a b : Int) (h0 : nat_Nat_Bits.f l0 = some a) (h1 : nat_Nat_Bits.f l1 = some b) (hw : wrap64 (a + b) = a + b) (hn : wrap64 ((l0.length : Int) + (l1.length : Int)) = (l0.length : Int) + (l1.length : Int)) (hm : l0.length + l1.length ≤ 4096) :
    nat_Nat_Mul.f k l0 l1 = if a + b > 65537 then some ([], 41) else nat_Nat_Mul.l0 k (List.replicate (((l0.length : Int) + (l1.length : Int)).toNat) 0) l0 (l0.length : Int) 0 l1 := by
  unfold nat_Nat_Mul.f
  rw [h0, h1]
  simp only [Option.bind_some]
  rw [hw, hn, if_pos (c := (0 : Int) ≤ _) (by omega), if_pos (c := Int.toNat _ ≤ _) (by omega)]
theorem mul_head {x y : Nat} (hx : bl x ≤ 65536) (hy : bl y ≤ 65536) (k : Nat) : nat_Nat_Mul.f k (dgs 4294967296 x) (dgs 4294967296 y) = if ((bl x : Nat) : Int) + ((bl y : Nat) : Int) > 65537 then some ([], 41) else nat_Nat_Mul.l0 k (dn 4294967296 ((dgs 4294967296 x).length + (dgs 4294967296 y).length) 0) (dgs 4294967296 x) ((dgs 4294967296 x).length : Int) 0 (dgs 4294967296 y) := by
  have lx := pd_len (n := x) (k := 2048) (by omega)
  have ly := pd_len (n := y) (k := 2048) (by omega)
  rw [mul_f k _ _ _ _ (bits_some (by omega)) (bits_some (by omega)) (wrap_in (by omega) (by omega)) (wrap_in (by omega) (by omega)) (by omega), rep_dn 4294967296 ((dgs 4294967296 x).length + (dgs 4294967296 y).length) _ (by omega)]
theorem mul_checked (x y : Nat) (h : (dgs 4294967296 x).length + (dgs 4294967296 y).length ≤ 4096) (g : bl (x * y) ≤ 65536) : Ev (fun k => (nat_cut.f k (dn 4294967296 ((dgs 4294967296 x).length + (dgs 4294967296 y).length) (x * y))).bind fun t157 => ((nat_checked.f t157).bind fun bt160 => some (bt160.1, bt160.2))) (dgs 4294967296 (x * y), 0) := by
  have hlen := mul_len 4294967296 x y (by omega)
  refine (cut_mul x y (by omega)).bind ?_
  refine Ev.congr (fun k => ?_) (Ev.now _)
  rw [checked_some (by omega), if_pos g]
  rfl
theorem mul_over (x y : Nat) (h : (dgs 4294967296 x).length + (dgs 4294967296 y).length ≤ 4096) (g : ¬ bl (x * y) ≤ 65536) : Ev (fun k => (nat_cut.f k (dn 4294967296 ((dgs 4294967296 x).length + (dgs 4294967296 y).length) (x * y))).bind fun t157 => ((nat_checked.f t157).bind fun bt160 => some (bt160.1, bt160.2))) ([], 41) := by
  have hlen := mul_len 4294967296 x y (by omega)
  refine (cut_mul x y (by omega)).bind ?_
  refine Ev.congr (fun k => ?_) (Ev.now _)
  rw [checked_some (by omega), if_neg g]
  rfl
theorem mul_all (x y : Nat) (R : List Int × Int) (h : (dgs 4294967296 x).length + (dgs 4294967296 y).length ≤ 4096) (hR : Ev (fun k => (nat_cut.f k (dn 4294967296 ((dgs 4294967296 x).length + (dgs 4294967296 y).length) (x * y))).bind fun t157 => ((nat_checked.f t157).bind fun bt160 => some (bt160.1, bt160.2))) R) : Ev (fun k => nat_Nat_Mul.l0 k (dn 4294967296 ((dgs 4294967296 x).length + (dgs 4294967296 y).length) 0) (dgs 4294967296 x) ((dgs 4294967296 x).length : Int) 0 (dgs 4294967296 y)) R := by
  have h := mul_loop x y ((dgs 4294967296 x).length + (dgs 4294967296 y).length) R rfl (by omega) hR (dgs 4294967296 x).length 0 (by omega) (by omega)
  rw [Nat.pow_zero, Nat.mod_one, Nat.zero_mul] at h
  exact h
theorem mul_fits {x y : Nat} (hx : bl x ≤ 65536) (hy : bl y ≤ 65536) (g : bl (x * y) ≤ 65536) : Ev (fun k => nat_Nat_Mul.f k (dgs 4294967296 x) (dgs 4294967296 y)) (dgs 4294967296 (x * y), 0) := by
  have lx := pd_len (n := x) (k := 2048) (by omega)
  have ly := pd_len (n := y) (k := 2048) (by omega)
  refine Ev.congr (fun k => ?_) (mul_all x y _ (by omega) (mul_checked x y (by omega) g))
  rw [mul_head hx hy, if_neg]
  intro hbig
  have h1 : x ≠ 0 := by rintro rfl; rw [bl_zero] at hbig; omega
  have h2 : y ≠ 0 := by rintro rfl; rw [bl_zero] at hbig; omega
  have := bl_mul h1 h2
  omega
theorem mul_big {x y : Nat} (hx : bl x ≤ 65536) (hy : bl y ≤ 65536) (g : ¬ bl (x * y) ≤ 65536) : Ev (fun k => nat_Nat_Mul.f k (dgs 4294967296 x) (dgs 4294967296 y)) ([], 41) := by
  have lx := pd_len (n := x) (k := 2048) (by omega)
  have ly := pd_len (n := y) (k := 2048) (by omega)
  by_cases c : ((bl x : Nat) : Int) + ((bl y : Nat) : Int) > 65537
  · refine Ev.congr (fun k => ?_) (Ev.now _)
    rw [mul_head hx hy, if_pos c]
  · refine Ev.congr (fun k => ?_) (mul_all x y _ (by omega) (mul_over x y (by omega) g))
    rw [mul_head hx hy, if_neg c]
/-- One row of the reference's product. -/
theorem rmul_step (x y i j Lt V W p c k : Nat) (hj : i + j < Lt) (hsz : Lt ≤ 72057594037927936) (hi : i < (dgs 65536 x).length) (hlx : (dgs 65536 x).length ≤ 72057594037927936) (hp : p = x / 65536 ^ i % 65536) (hc : c < 65536) (hv : W / 65536 ^ (i + j) = V / 65536 ^ (i + j) + p * (y / 65536 ^ j) + c) :
    (if 0 ≤ (wrap64 ((i : Int) + (j : Int))) then (if (wrap64 ((i : Int) + (j : Int))) < ((dn 65536 Lt (mix 65536 (i + j) W V)).length : Int) then (if 0 ≤ (i : Int) then (if (i : Int) < ((dgs 65536 x).length : Int) then ((heraldref04_at.f (dgs 65536 y) (j : Int)).bind fun t253 => (heraldref04_Mul.l1 k (dgs 65536 x) (dgs 65536 y) ((dn 65536 Lt (mix 65536 (i + j) W V)).set ((wrap64 ((i : Int) + (j : Int))) : Int).toNat (Int.tmod (wrap64 ((wrap64 ((rd (dn 65536 Lt (mix 65536 (i + j) W V)) (wrap64 ((i : Int) + (j : Int)))) + (wrap64 ((rd (dgs 65536 x) (i : Int)) * t253)))) + (c : Int))) 65536)) (i : Int) (wrap64 (Int.tdiv (wrap64 ((wrap64 ((rd (dn 65536 Lt (mix 65536 (i + j) W V)) (wrap64 ((i : Int) + (j : Int)))) + (wrap64 ((rd (dgs 65536 x) (i : Int)) * t253)))) + (c : Int))) 65536)) (wrap64 ((j : Int) + 1)) ((dgs 65536 x).length : Int) (i : Int))) else (none)) else (none)) else (none)) else (none)) =
      heraldref04_Mul.l1 k (dgs 65536 x) (dgs 65536 y) (dn 65536 Lt (mix 65536 (i + (j + 1)) W V)) (i : Int) (((V / 65536 ^ (i + j) % 65536 + p * (y / 65536 ^ j % 65536) + c) / 65536 : Nat) : Int) ((j + 1 : Nat) : Int) ((dgs 65536 x).length : Int) (i : Int) := by
  have hpl : p < 65536 := by rw [hp]; exact Nat.mod_lt _ (by omega)
  have hx := Nat.mod_lt (y / 65536 ^ j) (show 0 < 65536 by omega)
  have ho := Nat.mod_lt (V / 65536 ^ (i + j)) (show 0 < 65536 by omega)
  have hb := mac_small (o := V / 65536 ^ (i + j) % 65536) (p := p) (n := y / 65536 ^ j % 65536) (c := c) (show 0 < 65536 by omega) ho hpl hx hc
  have hmod := mac_mod (V / 65536 ^ (i + j)) p (y / 65536 ^ j) c 65536
  rw [← hv] at hmod
  rw [wrap_in (a := (i : Int) + (j : Int)) (by omega) (by omega), dn_length, if_pos (by omega), if_pos (by omega), if_pos (by omega), if_pos (by omega), at_some]
  simp only [Option.bind_some]
  rw [show (i : Int) + (j : Int) = ((i + j : Nat) : Int) by omega, rd_dn (by omega), mix_get (by omega), Int.toNat_natCast, rd_dgs (by omega), ← hp, wrap_in (a := (j : Int) + 1) (by omega) (by omega)]
  generalize hx' : y / 65536 ^ j % 65536 = X at *
  generalize hy' : V / 65536 ^ (i + j) % 65536 = O at *
  have hc2 : (p : Int) * (X : Int) = ((p * X : Nat) : Int) := by push_cast; rfl
  rw [hc2, wrap_in (a := ((p * X : Nat) : Int)) (by omega) (by omega), wrap_in (a := (O : Int) + _) (by omega) (by omega), wrap_in (a := (O : Int) + ((p * X : Nat) : Int) + (c : Int)) (by omega) (by omega)]
  rw [show (O : Int) + ((p * X : Nat) : Int) + (c : Int) = ((O + p * X + c : Nat) : Int) by omega]
  rw [show (65536 : Int) = ((65536 : Nat) : Int) from rfl, ← Int.ofNat_tdiv, ← Int.ofNat_tmod, hmod, wrap_in (a := (((O + p * X + c) / 65536 : Nat) : Int)) (by omega) (by omega)]
  rw [dn_mix (b := 65536) (by omega) (i + j) Lt W V (by omega)]
  rfl
theorem rmul_row (x y i Lt V W p : Nat) (R : List Int) (hp : p = x / 65536 ^ i % 65536) (hi : i < (dgs 65536 x).length) (hlx : (dgs 65536 x).length ≤ 72057594037927936) (hW : W = V + 65536 ^ i * (p * y)) (hV : V < 65536 ^ (i + (dgs 65536 y).length)) (hWlt : W < 65536 ^ (i + (dgs 65536 y).length + 1)) (hLt : i + (dgs 65536 y).length < Lt) (hsz : Lt ≤ 72057594037927936)
    (hR : Ev (fun k => heraldref04_Mul.l0 k (dgs 65536 x) (dgs 65536 y) (dn 65536 Lt W) ((dgs 65536 x).length : Int) ((i + 1 : Nat) : Int)) R) : ∀ (jj j c : Nat), jj = (dgs 65536 y).length - j → j ≤ (dgs 65536 y).length → c < 65536 → W / 65536 ^ (i + j) = V / 65536 ^ (i + j) + p * (y / 65536 ^ j) + c →
    Ev (fun k => heraldref04_Mul.l1 k (dgs 65536 x) (dgs 65536 y) (dn 65536 Lt (mix 65536 (i + j) W V)) (i : Int) (c : Int) (j : Int) ((dgs 65536 x).length : Int) (i : Int)) R := by
  intro jj
  induction jj with
  | zero =>
    intro j c hj hjl hc hv
    obtain rfl : j = (dgs 65536 y).length := by omega
    have hz : y / 65536 ^ (dgs 65536 y).length = 0 := Nat.div_eq_of_lt (lt_pow_len (by omega))
    have hv2 := hv
    rw [hz, Nat.mul_zero, Nat.add_zero, Nat.div_eq_of_lt hV, Nat.zero_add] at hv
    have hV1 : V < 65536 ^ (i + (dgs 65536 y).length + 1) := Nat.lt_of_lt_of_le hV (Nat.pow_le_pow_right (by omega) (by omega))
    by_cases c0 : c = 0
    · have hW0 : W < 65536 ^ (i + (dgs 65536 y).length) := by
        rcases Nat.lt_or_ge W (65536 ^ (i + (dgs 65536 y).length)) with g | g
        · exact g
        · have := Nat.div_pos g (Nat.pow_pos (by omega)); omega
      refine Ev.step (fun k => ?_) hR
      rw [heraldref04_Mul.l1, if_neg (by omega), if_neg (by omega), mix_all hW0 hV, wrap_in (a := (i : Int) + 1) (by omega) (by omega)]
      rfl
    · refine Ev.step (f := fun k => heraldref04_Mul.l1 k (dgs 65536 x) (dgs 65536 y) (dn 65536 Lt W) (i : Int) 0 (((dgs 65536 y).length + 1 : Nat) : Int) ((dgs 65536 x).length : Int) (i : Int)) (fun k => ?_) (Ev.step (fun k => ?_) hR)
      · have st := rmul_step x y i (dgs 65536 y).length Lt V W p c k hLt hsz hi hlx hp hc hv2
        rw [heraldref04_Mul.l1, if_neg (by omega), if_pos (by omega), st, Nat.div_eq_of_lt hV, hz, Nat.zero_mod, Nat.mul_zero, Nat.add_zero, Nat.zero_add, Nat.div_eq_of_lt hc]
        rw [mix_all (s := i + ((dgs 65536 y).length + 1)) hWlt hV1]
        rfl
      · rw [heraldref04_Mul.l1, if_neg (by omega), if_neg (by omega), wrap_in (a := (i : Int) + 1) (by omega) (by omega)]
        rfl
  | succ jj ih =>
    intro j c hj hjl hc hv
    have hpl : p < 65536 := by rw [hp]; exact Nat.mod_lt _ (by omega)
    have hx := Nat.mod_lt (y / 65536 ^ j) (show 0 < 65536 by omega)
    have ho := Nat.mod_lt (V / 65536 ^ (i + j)) (show 0 < 65536 by omega)
    have hb := mac_small (o := V / 65536 ^ (i + j) % 65536) (p := p) (n := y / 65536 ^ j % 65536) (c := c) (show 0 < 65536 by omega) ho hpl hx hc
    have e1 : W / 65536 ^ (i + (j + 1)) = W / 65536 ^ (i + j) / 65536 := by rw [Nat.div_div_eq_div_mul, ← Nat.pow_succ]; rfl
    have e2 : y / 65536 ^ (j + 1) = y / 65536 ^ j / 65536 := by rw [Nat.div_div_eq_div_mul, ← Nat.pow_succ]
    have e3 : V / 65536 ^ (i + (j + 1)) = V / 65536 ^ (i + j) / 65536 := by rw [Nat.div_div_eq_div_mul, ← Nat.pow_succ]; rfl
    have hdiv := mac_div (b := 65536) (by omega) (V / 65536 ^ (i + j)) p (y / 65536 ^ j) c
    rw [← hv, ← e1, ← e2, ← e3] at hdiv
    refine Ev.step (fun k => ?_) (ih (j + 1) ((V / 65536 ^ (i + j) % 65536 + p * (y / 65536 ^ j % 65536) + c) / 65536) (by omega) (by omega) (div_lt_of hb) hdiv.symm)
    rw [heraldref04_Mul.l1, if_pos (by omega)]
    exact rmul_step x y i j Lt V W p c k (by omega) hsz hi hlx hp hc hv
theorem rmul_loop (x y Lt : Nat) (R : List Int) (hLt : Lt = (dgs 65536 x).length + (dgs 65536 y).length) (hsz : Lt ≤ 72057594037927936)
    (hR : Ev (fun k => (heraldref04_cut.f k (dn 65536 Lt (x * y))).bind fun t248 => some t248) R) : ∀ (m i : Nat), m = (dgs 65536 x).length - i → i ≤ (dgs 65536 x).length →
    Ev (fun k => heraldref04_Mul.l0 k (dgs 65536 x) (dgs 65536 y) (dn 65536 Lt (x % 65536 ^ i * y)) ((dgs 65536 x).length : Int) (i : Int)) R := by
  intro m
  induction m with
  | zero =>
    intro i hm hi
    obtain rfl : i = (dgs 65536 x).length := by omega
    refine Ev.step (fun k => ?_) hR
    rw [heraldref04_Mul.l0, if_neg (by omega), Nat.mod_eq_of_lt (lt_pow_len (by omega))]
  | succ m ih =>
    intro i hm hi
    have hp : 0 < 65536 ^ i := Nat.pow_pos (by omega)
    have hp1 : 0 < 65536 ^ (i + 1) := Nat.pow_pos (by omega)
    have hV := mul_lt_pow (b := 65536) (Nat.mod_lt x hp) (lt_pow_len (b := 65536) (n := y) (by omega))
    have hW := mul_lt_pow (b := 65536) (Nat.mod_lt x hp1) (lt_pow_len (b := 65536) (n := y) (by omega))
    have hWV : x % 65536 ^ (i + 1) * y = x % 65536 ^ i * y + 65536 ^ i * (x / 65536 ^ i % 65536 * y) := by
      rw [Nat.mod_pow_succ, Nat.add_mul, Nat.mul_assoc]
    have h := rmul_row x y i Lt (x % 65536 ^ i * y) (x % 65536 ^ (i + 1) * y) (x / 65536 ^ i % 65536) R rfl (by omega) (by omega) hWV hV (by rw [show i + (dgs 65536 y).length + 1 = i + 1 + (dgs 65536 y).length by omega]; exact hW) (by omega) hsz (ih (i + 1) (by omega) (by omega)) (dgs 65536 y).length 0 0 (by omega) (by omega) (by omega)
      (by rw [Nat.add_zero i, Nat.add_zero, hWV, Nat.add_mul_div_left _ _ hp, Nat.pow_zero, Nat.div_one, Nat.add_zero])
    refine Ev.step (fun k => ?_) h
    rw [heraldref04_Mul.l0, if_pos (by omega)]
    congr 1
    rw [Nat.add_zero]
    congr 1
    unfold mix
    rw [hWV, Nat.add_mul_mod_self_left]
    exact (Nat.mod_add_div _ _).symm
/-- The reference's product. -/
theorem rmul_ev {x y : Nat} (hsz : (dgs 65536 x).length + (dgs 65536 y).length ≤ 35184372088832) : Ev (fun k => heraldref04_Mul.f k (dgs 65536 x) (dgs 65536 y)) (dgs 65536 (x * y)) := by
  have h := rmul_loop x y ((dgs 65536 x).length + (dgs 65536 y).length) _ rfl (by omega) ((rcut_mul x y (by omega)).bind (Ev.now _)) (dgs 65536 x).length 0 (by omega) (by omega)
  refine Ev.congr (fun k => ?_) h
  unfold heraldref04_Mul.f
  rw [wrap_in (by omega) (by omega), if_pos (by omega), if_pos (by omega), rep_dn 65536 ((dgs 65536 x).length + (dgs 65536 y).length) _ (by omega), Nat.pow_zero, Nat.mod_one, Nat.zero_mul]
  rfl
/-- The reference's number of an int64. -/
theorem rof_loop : ∀ (n : Nat) (l : List Int), n < 9223372036854775808 → l.length + (dgs 65536 n).length ≤ 1000000000000 → Ev (fun k => heraldref04_Of.l0 k (n : Int) l) (l ++ dgs 65536 n) := by
  intro n
  induction n using Nat.strongRecOn with
  | ind n ih =>
    intro l hn hl
    by_cases h : n = 0
    · subst h
      refine Ev.step (f := fun _ => some (l ++ dgs 65536 0)) (fun k => ?_) (Ev.now _)
      rw [heraldref04_Of.l0, if_neg (by omega)]
      simp [dgs_zero]
    · rw [dgs_pos (by omega) h, List.length_cons] at hl
      refine Ev.step (fun k => ?_) (by
        have := ih (n / 65536) (by omega) (l ++ [((n % 65536 : Nat) : Int)]) (by omega) (by rw [List.length_append, List.length_singleton]; omega)
        rw [List.append_assoc, List.singleton_append, ← dgs_pos (by omega) h] at this
        exact this)
      rw [heraldref04_Of.l0, if_pos (by omega), if_pos (by omega), show (65536 : Int) = ((65536 : Nat) : Int) from rfl, ← Int.ofNat_tdiv, ← Int.ofNat_tmod, wrap_in (by omega) (by omega)]
theorem rof_ev (n : Nat) (hn : n < 9223372036854775808) : Ev (fun k => heraldref04_Of.f k (n : Int)) (dgs 65536 n) := by
  have hl : (dgs 65536 n).length ≤ 4 := (dgs_len_le (by omega)).mpr (by omega)
  exact rof_loop n [] hn (by simp only [List.length_nil]; omega)
end Go.Proofs.YtgcngbmkgjphpaaDoor.Nums
end

section
namespace Go.Proofs.YtgcngbmkgjphpaaDoor.PAll
open Go.RowKit Go.Proofs.YtgcngbmkgjphpaaDoorW.PrintWords Go.Proofs.YtgcngbmkgjphpaaDoorW.PrintLast Go.Proofs.YtgcngbmkgjphpaaDoorW.PrintMore
set_option linter.unusedVariables false
set_option linter.unusedSimpArgs false
def strings_TrimLeft.f (k : Nat) (a0 a1 : ByteArray) : Option ByteArray := if a1 = (⟨#[48]⟩ : ByteArray) then strings_trimLeftByte.f k a0 48 else none
set_option maxRecDepth 20000 in
set_option maxHeartbeats 800000 in
theorem strings_TrimLeft.calls (k : Nat) (a0 a1 : ByteArray) (r : ByteArray) (w : World) (h : strings_TrimLeft.f k a0 a1 = some r) :
    Calls Tryd.prog 52 #[.string a0, .string a1] w fun e w' => e = .returned (.string r) ∧ Drawn0 w w' := by
  unfold strings_TrimLeft.f at h
  split at h
  case isFalse => simp at h
  case isTrue hr =>
  subst hr
  by_cases c : a0.toList = ([] : List UInt8)
  · obtain rfl : a0 = (⟨#[]⟩ : ByteArray) := by
      rw [ByteArray.toList_eq] at c
      cases a0 with | mk d => cases d with | mk l => simp at c; rw [c]
    obtain rfl : (⟨#[]⟩ : ByteArray) = r := by
      cases k with
      | zero => exact absurd h (by simp [strings_trimLeftByte.f, strings_trimLeftByte.l0])
      | succ k =>
        have h2 : strings_trimLeftByte.l0 (k + 1) (⟨#[]⟩ : ByteArray) 48 = some r := h
        rw [strings_trimLeftByte.l0, if_neg (by decide)] at h2
        exact Option.some.inj h2
    clear h
    go_enter Tryd.func52, Tryd.ntmps52
    go_wp2
    go_ret
    exact ⟨rfl, by repeat (first | exact Drawn0.refl _ | apply Drawn0.step)⟩
  · have c0 : (a0.toList == ([] : List UInt8)) = false := beq_eq_false_iff_ne.mpr c
    have H := Aside0.mk h
    clear h c
    go_enter Tryd.func52, Tryd.ntmps52
    go_wp2_with (go_at_call 64; refine (strings_trimLeftByte.calls k a0 48 r _ H.out).mono ?_; rintro e w' ⟨rfl, hd⟩)
    go_ret
    exact ⟨rfl, by first | exact hd | (repeat (first | exact Drawn0.refl _ | exact hd | apply Drawn0.step))⟩
end Go.Proofs.YtgcngbmkgjphpaaDoor.PAll
end

section
namespace Go.Proofs.YtgcngbmkgjphpaaDoor.PAll
open Go.RowKit Go.Proofs.YtgcngbmkgjphpaaDoorW.PrintWords Go.Proofs.YtgcngbmkgjphpaaDoorW.PrintLast Go.Proofs.YtgcngbmkgjphpaaDoorW.PrintMore
attribute [local go_sem] max2_int min2_int max_two min_two max_three min_three max_four min_four   -- for this text's walks alone
set_option linter.unusedVariables false
set_option linter.unusedSimpArgs false
mutual
def nat_Nat_Text.l0 : Nat → List Int → List Int → Option (ByteArray)
  | 0, _, _ => none
  | k + 1, x3, x130000 => if (x130000.length : Int) > 0 then ((nat_Nat_by.f k x130000 1000000000).bind fun bt130 => (nat_Nat_Text.l1 k x3 bt130.2 0 bt130.1)) else (if 0 ≤ (x3.length : Int) then (if ((x3.length : Int) : Int).toNat ≤ 281474976710656 then (nat_Nat_Text.l2 k x3 (List.replicate ((x3.length : Int) : Int).toNat 0) x3 (x3.length : Int) 0) else (none)) else (none))
def nat_Nat_Text.l1 : Nat → List Int → Int → Int → List Int → Option (ByteArray)
  | 0, _, _, _, _ => none
  | k + 1, x3, x4, x21, x130000 => if x21 < 9 then (if x3.length < 140737488355328 then (nat_Nat_Text.l1 k (x3 ++ [(48 + ((Int.tmod x4 10) % 256)) % 256]) ((Int.tdiv x4 10) % 4294967296) (wrap64 (x21 + 1)) x130000) else (none)) else (nat_Nat_Text.l0 k x3 x130000)
def nat_Nat_Text.l2 : Nat → List Int → List Int → List Int → Int → Int → Option (ByteArray)
  | 0, _, _, _, _, _ => none
  | k + 1, x3, x5, x36, x37, x38 => if x38 < x37 then (if 0 ≤ x38 then (if x38 < (x36.length : Int) then (if 0 ≤ (wrap64 ((wrap64 ((x3.length : Int) - 1)) - x38)) then (if (wrap64 ((wrap64 ((x3.length : Int) - 1)) - x38)) < (x5.length : Int) then (nat_Nat_Text.l2 k x3 (x5.set ((wrap64 ((wrap64 ((x3.length : Int) - 1)) - x38)) : Int).toNat (rd x36 x38)) x36 x37 (wrap64 (x38 + 1))) else (none)) else (none)) else (none)) else (none)) else ((strings_TrimLeft.f k (strOfNums x5) (⟨#[48]⟩ : ByteArray)).bind fun t142 => (some t142))
end
def nat_Nat_Text.f (k : Nat) (l0_0 : List Int) : Option (ByteArray) := if (l0_0.length : Int) = 0 then (some (⟨#[48]⟩ : ByteArray)) else (nat_Nat_Text.l0 k ([] : List Int) l0_0)
set_option maxHeartbeats 8000000 in
set_option maxRecDepth 100000 in
theorem nat_Nat_Text.calls (k : Nat) (P0_0_ : Nat → Prop) (A0_0 : Option Addr) (c0_0 : Nat) (l0_0 : List Int) (r : ByteArray) (w : World) (hs0_0 : Kd.V (Kd.int .u32) 79 w w.heap.size (fun k_ => P0_0_ k_) (.slice A0_0 l0_0.length c0_0) l0_0) (h : nat_Nat_Text.f k l0_0 = some r) :
    Calls Tryd.prog 20 #[.agg #[.slice A0_0 l0_0.length c0_0]] w fun e w' => e = .returned (.string r) ∧ Below w.heap.size w w' := by
  have hu26 := Tryd.underlying26
  have HO0_0 := Aside0.mk (show Kd.V (Kd.int .u32) 79 w w.heap.size (fun k_ => (P0_0_ k_ ∨ w.heap.size ≤ k_)) (.slice A0_0 l0_0.length c0_0) l0_0 from Kd.V_mono hs0_0 (fun k_ hk => .inl hk))
  have HB := Aside0.mk (Below.refl w.heap.size w)
  have H : (if (l0_0.length : Int) = 0 then (some (⟨#[48]⟩ : ByteArray)) else (nat_Nat_Text.l0 k ([] : List Int) l0_0)) = some r := h
  clear h
  by_cases c2 : (l0_0.length : Int) = 0
  · rw [if_pos c2] at H
    have c2b0 : ((l0_0.length : Int) == 0) = true := beq_iff_eq.mpr c2
    have c2b1 : ((l0_0.length : Int) != 0) = false := bne_eq_false_iff_eq.mpr c2
    clear c2
    obtain rfl := Option.some.inj H
    go_enter Tryd.func20, Tryd.ntmps20
    go_wp2_with (first | ((with_reducible refine gate_dst (N := 1) rfl ?_); refine box_event ?hg (N := 1) ?hd (cs := #[.slice A0_0 l0_0.length c0_0]) (t := 26) ?hr ?_; (case hd => rfl); (case hg => rfl); (case hr => first | (go_simp; done) | (go_simp; rfl)); intro gb129 hg w3 hbox hb; have n0_ := Aside0.mk (Kd.V_below (Kd.V_elderB (by (with_reducible repeat (first | apply Kd.V_alloc | apply Kd.V_drewN | apply Kd.V_drew)); exact HO0_0.out) gb129 (Nat.le_of_eq hg.symm)) hb); have n1_ := Aside0.mk (below_step (by repeat (first | (with_reducible first | exact HB.out | apply below_alloc | apply pw_below_drewN | apply below_drew1) | exact HB.out)) hb); have n2_ := Aside0.mk (hbox); have n3_ := Aside0.mk ((by rw [hg]; exact (below_size (by repeat (first | (with_reducible first | exact HB.out | apply below_alloc | apply pw_below_drewN | apply below_drew1) | exact HB.out))) : w.heap.size ≤ gb129)); have n4_ := Aside0.mk ((by rw [hg]; exact (below_size (by repeat (first | (with_reducible first | exact HB.out | apply below_alloc | apply pw_below_drewN | apply below_drew1) | exact HB.out))) : w.heap.size ≤ gb129)); clear HO0_0; clear HB; have HO0_0 := n0_; have HB := n1_; have BK129 := n2_; have GW129 := n3_; have GE129 := n4_; clear n0_ n1_ n2_ n3_ n4_; clear hb hbox hg; have hcz4_0 : w3.cell? ⟨gb129, 0, none⟩ = some (.slice A0_0 l0_0.length c0_0) := (blk_cell BK129.out 0).trans rfl; have hfz4_0 := blk_frozen BK129.out 0))
    go_ret
    exact ⟨by first | rfl | (simp [errW_none, errW_some] <;> rfl) | (simp [*, errW_none, errW_some] <;> rfl), by repeat (first | (with_reducible first | exact HB.out | apply below_alloc | apply pw_below_drewN | apply below_drew1 | refine below_set ?_ GE129.out) | exact HB.out)⟩
  · rw [if_neg c2] at H
    have c2b0 : ((l0_0.length : Int) == 0) = false := beq_eq_false_iff_ne.mpr c2
    have c2b1 : ((l0_0.length : Int) != 0) = true := bne_iff_ne.mpr c2
    have c2b2 : ¬ (l0_0 = []) := fun h_ => c2 (by rw [h_]; rfl)
    have H' := Aside0.mk H
    clear H
    go_enter Tryd.func20, Tryd.ntmps20
    go_wp2_with (first | ((with_reducible refine gate_dst (N := 1) rfl ?_); refine box_event ?hg (N := 1) ?hd (cs := #[.slice A0_0 l0_0.length c0_0]) (t := 26) ?hr ?_; (case hd => rfl); (case hg => rfl); (case hr => first | (go_simp; done) | (go_simp; rfl)); intro gb129 hg w5 hbox hb; have n0_ := Aside0.mk (Kd.V_below (Kd.V_elderB (by (with_reducible repeat (first | apply Kd.V_alloc | apply Kd.V_drewN | apply Kd.V_drew)); exact HO0_0.out) gb129 (Nat.le_of_eq hg.symm)) hb); have n1_ := Aside0.mk (below_step (by repeat (first | (with_reducible first | exact HB.out | apply below_alloc | apply pw_below_drewN | apply below_drew1) | exact HB.out)) hb); have n2_ := Aside0.mk (hbox); have n3_ := Aside0.mk ((by rw [hg]; exact (below_size (by repeat (first | (with_reducible first | exact HB.out | apply below_alloc | apply pw_below_drewN | apply below_drew1) | exact HB.out))) : w.heap.size ≤ gb129)); have n4_ := Aside0.mk ((by rw [hg]; exact (below_size (by repeat (first | (with_reducible first | exact HB.out | apply below_alloc | apply pw_below_drewN | apply below_drew1) | exact HB.out))) : w.heap.size ≤ gb129)); clear HO0_0; clear HB; have HO0_0 := n0_; have HB := n1_; have BK129 := n2_; have GW129 := n3_; have GE129 := n4_; clear n0_ n1_ n2_ n3_ n4_; clear hb hbox hg; have hcz6_0 : w5.cell? ⟨gb129, 0, none⟩ = some (.slice A0_0 l0_0.length c0_0) := (blk_cell BK129.out 0).trans rfl; have hfz6_0 := blk_frozen BK129.out 0))
    go_loopg [3] k (fun kq v3 w' => ∃ (x3_1 : List Int) (x130000_1 : List Int) (u130000 : Value), Aside0 (nat_Nat_Text.l0 kq x3_1 x130000_1 = some r) ∧ Aside0 (kq ≤ k) ∧ Aside0 (Kd.R (Kd.int .u8) 5 w' w.heap.size (fun k_ => (w.heap.size ≤ k_)) v3 x3_1) ∧ Aside0 (Kd.V (Kd.int .u32) 79 w' w.heap.size (fun k_ => (P0_0_ k_ ∨ w.heap.size ≤ k_) ∧ some k_ ≠ (v3 : Value).ownBlock ∧ k_ ≠ gb129) u130000 x130000_1) ∧ Aside0 (w'.heap[gb129]? = some (.cells #[u130000] 26 (0, 0))) ∧ Aside0 (Below w.heap.size w w'))
    case atStart => exact ⟨(([] : List Int)), (l0_0), (.slice A0_0 l0_0.length c0_0), H', ⟨Nat.le_refl _⟩, ⟨by first | exact Kd.R_nil _ _ _ _ _ | exact Kd.N_nil _ _ _ _ _ | exact Kd.V_nil _ _ _ _ _ | exact Kd.Q_nil _ _ _ _ _ | exact Kd.S_nil _ _ _ _ _⟩, ⟨by (with_reducible repeat (first | apply Kd.V_alloc | apply Kd.V_drewN | apply Kd.V_drew)); exact Kd.V_mono HO0_0.out (fun _ hk => ⟨hk.1, ⟨(by simp [Value.ownBlock]), hk.2⟩⟩)⟩, ⟨by (with_reducible repeat (first | refine blk_drewN ?_ _ | refine blk_drew ?_ | refine blk_alloc ?_ _)); exact BK129.out⟩, ⟨by repeat (first | (with_reducible first | exact HB.out | apply below_alloc | apply pw_below_drewN | apply below_drew1 | refine below_set ?_ GE129.out) | exact HB.out)⟩⟩
    case round =>
      clear H'
      try clear c2
      try clear c2b0
      try clear c2b1
      try clear c2b2
      try clear p2
      try clear hcz4_0
      try clear hcz6_0
      try clear hfz4_0
      try clear hfz6_0
      obtain ⟨x3_1, x130000_1, u130000, HA, HK1, HO_3, HO_130000, BK129, HB⟩ := hrel
      cases gk with
      | zero => exact absurd HA.out (by simp [nat_Nat_Text.l0])
      | succ k1 =>
        have H := HA.out
        clear HA
        simp only [nat_Nat_Text.l0] at H
        by_cases c7 : (x130000_1.length : Int) > 0
        · rw [if_pos c7] at H
          have c7b0 : decide (0 < (x130000_1.length : Int)) = true := decide_eq_true c7
          have c7b1 : decide (0 < x130000_1.length) = true := decide_eq_true (by omega)
          clear c7
          replace H := Option.bind_eq_some_iff.mp H
          obtain ⟨⟨t130, t133⟩, A80, H⟩ := H
          replace H : (nat_Nat_Text.l1 k1 x3_1 t133 0 t130) = some r := H
          have A8 := Aside0.mk A80
          clear A80
          have H' := Aside0.mk H
          clear H
          have hcz9_0 : wr.cell? ⟨gb129, 0, none⟩ = some (u130000) := (blk_cell BK129.out 0).trans rfl
          have hfz9_0 := blk_frozen BK129.out 0
          obtain ⟨Ao10, co10, eo10⟩ := Kd.V_slice HO_130000.out
          subst eo10
          go_wp2_with (first | ((with_reducible refine gate_callee (f := 51) rfl ?_); refine goesL_ (some 18) rfl rfl Tryd.func51 (by kernel_rfl) rfl #[.agg #[.slice Ao10 x130000_1.length co10], .int .u32 1000000000] rfl (by (try simp only [List.map_toArray, List.map_cons, List.map_nil]); first | done | rfl | (simp only [List.length_drop, List.length_take]; rfl)) ?_; (with_reducible refine (nat_Nat_by.calls k1 _ _ x130000_1 1000000000 t130 t133 _ ?side1 ?side2 A8.out).mono ?_); (case side1 => repeat (first | exact (Kd.V_reads' HO_130000.out).2.2 | (with_reducible refine Kd.C_alloc ?_ _) | (with_reducible refine Kd.C_drewN ?_ _) | (with_reducible refine Kd.C_drew ?_))); (case side2 => exact (Kd.V_reads' HO_130000.out).2.1); rintro e w11 ⟨v131, rfl, ho0, hb⟩; refine ⟨_, rfl, ?_⟩; have n0_ := Aside0.mk (Kd.R_below (by (with_reducible repeat (first | apply Kd.R_alloc | apply Kd.R_drewN | apply Kd.R_drew)); exact HO_3.out) hb); have n1_ := Aside0.mk (Kd.V_below (by (with_reducible repeat (first | apply Kd.V_alloc | apply Kd.V_drewN | apply Kd.V_drew)); exact HO_130000.out) hb); have n2_ := Aside0.mk (Kd.V_lower (Kd.V_mono (ok' := fun k_ => (P0_0_ k_ ∨ w.heap.size ≤ k_) ∧ some k_ ≠ (u3 : Value).ownBlock ∧ k_ ≠ gb129) ho0 (fun k_ hk_ => ⟨(.inr (Nat.le_trans (below_size (by repeat (first | (with_reducible first | exact HB.out | apply below_alloc | apply pw_below_drewN | apply below_drew1 | refine below_set ?_ GE129.out) | exact HB.out))) hk_)), (Kd.fresh' (Kd.R_lt (by (with_reducible repeat (first | apply Kd.R_alloc | apply Kd.R_drewN | apply Kd.R_drew)); exact HO_3.out)) k_ hk_), (Kd.freshB (g := gb129) (o := .cells #[.slice Ao10 x130000_1.length co10] 26 (0, 0)) (by (with_reducible repeat (first | refine blk_drewN ?_ _ | refine blk_drew ?_ | refine blk_alloc ?_ _)); exact BK129.out) k_ hk_)⟩)) (below_size (by repeat (first | (with_reducible first | exact HB.out | apply below_alloc | apply pw_below_drewN | apply below_drew1 | refine below_set ?_ GE129.out) | exact HB.out)))); have n3_ := Aside0.mk (blk_below (g := gb129) (o := .cells #[.slice Ao10 x130000_1.length co10] 26 (0, 0)) (by (with_reducible repeat (first | refine blk_drewN ?_ _ | refine blk_drew ?_ | refine blk_alloc ?_ _)); exact BK129.out) hb); have n4_ := Aside0.mk (below_step (by repeat (first | (with_reducible first | exact HB.out | apply below_alloc | apply pw_below_drewN | apply below_drew1 | refine below_set ?_ GE129.out) | exact HB.out)) hb); clear HO_3; clear HO_130000; clear BK129; clear HB; have HO_3 := n0_; have HO_130000 := n1_; have HO132 := n2_; have BK129 := n3_; have HB := n4_; clear n0_ n1_ n2_ n3_ n4_; (try clear hb); (try clear hb2); (try clear hk); (try clear hi); (try clear ho0); obtain ⟨Ao12, co12, eo12⟩ := Kd.V_slice HO132.out; subst eo12; have hcz13_0 : w11.cell? ⟨gb129, 0, none⟩ = some (.slice Ao10 x130000_1.length co10) := (blk_cell BK129.out 0).trans rfl; have hfz13_0 := blk_frozen BK129.out 0))
          go_loopg [3, 4, 21] k1 (fun kq v3 v4 v21 w' => ∃ (x3_2 : List Int) (x4_2 : Int) (x21_2 : Int), v4 = .int .u32 x4_2 ∧ v21 = .int .i64 x21_2 ∧ Aside0 (nat_Nat_Text.l1 kq x3_2 x4_2 x21_2 t130 = some r) ∧ Aside0 (kq ≤ k1) ∧ Aside0 (Kd.R (Kd.int .u8) 5 w' w.heap.size (fun k_ => (w.heap.size ≤ k_)) v3 x3_2) ∧ Aside0 (Kd.V (Kd.int .u32) 79 w' w.heap.size (fun k_ => (P0_0_ k_ ∨ w.heap.size ≤ k_) ∧ some k_ ≠ (v3 : Value).ownBlock ∧ k_ ≠ gb129) (.slice Ao12 t130.length co12) t130) ∧ Aside0 (w'.heap[gb129]? = some (.cells #[(.slice Ao12 t130.length co12)] 26 (0, 0))) ∧ Aside0 (Below w.heap.size w w'))
          case atStart => exact ⟨(x3_1), (t133), (0), (by first | rfl | (simp; done) | (simp [*]; done) | (simp [i64_w]; done) | (simp [*, i64_w]; done)), (by first | rfl | (simp; done) | (simp [*]; done) | (simp [i64_w]; done) | (simp [*, i64_w]; done)), H', ⟨Nat.le_refl _⟩, ⟨by (with_reducible repeat (first | apply Kd.R_alloc | apply Kd.R_drewN | apply Kd.R_drew)); exact Kd.R_mono (Kd.R_far (p := ⟨gb129, 0, none⟩) (Kd.R_types HO_3.out BK129.out (by decide)) (fun _ hk => hk.2) (.slice Ao12 t130.length co12)) (fun _ hk => hk.1)⟩, ⟨by (with_reducible repeat (first | apply Kd.V_alloc | apply Kd.V_drewN | apply Kd.V_drew)); exact Kd.V_mono (Kd.V_far (p := ⟨gb129, 0, none⟩) (Kd.V_mono HO132.out (fun k_ hk => (⟨hk, hk.2.2⟩ : _ ∧ k_ ≠ gb129))) (fun _ hk => hk.2) (.slice Ao12 t130.length co12)) (fun _ hk => ⟨hk.1.1, ⟨hk.1.2.1, hk.1.2.2⟩⟩)⟩, ⟨by (with_reducible repeat (first | refine blk_drewN ?_ _ | refine blk_drew ?_ | refine blk_alloc ?_ _)); refine blk_put (cs := #[.slice Ao10 x130000_1.length co10]) ?_ 0 _ rfl; (with_reducible repeat (first | refine blk_drewN ?_ _ | refine blk_drew ?_ | refine blk_alloc ?_ _)); exact BK129.out⟩, ⟨by repeat (first | (with_reducible first | exact HB.out | apply below_alloc | apply pw_below_drewN | apply below_drew1 | refine below_set ?_ GE129.out) | exact HB.out)⟩⟩
          case round =>
            clear H'
            try clear c2
            try clear c2b0
            try clear c2b1
            try clear c2b2
            try clear p2
            try clear c5
            try clear c7
            try clear c7b0
            try clear c7b1
            try clear hcz13_0
            try clear hcz4_0
            try clear hcz6_0
            try clear hcz9_0
            try clear hfz13_0
            try clear hfz4_0
            try clear hfz6_0
            try clear hfz9_0
            try clear p2
            obtain ⟨x3_2, x4_2, x21_2, rfl, rfl, HA, HK2, HO_3, HO_130000, BK129, HB⟩ := hrel
            cases gk with
            | zero => exact absurd HA.out (by simp [nat_Nat_Text.l1])
            | succ k2 =>
              have H := HA.out
              clear HA
              simp only [nat_Nat_Text.l1] at H
              by_cases c14 : x21_2 < 9
              · rw [if_pos c14] at H
                have c14b0 : decide (x21_2 < 9) = true := decide_eq_true c14
                clear c14
                by_cases c15 : x3_2.length < 140737488355328
                · rw [if_pos c15] at H
                  have LMc15 := Aside0.mk c15
                  clear c15
                  obtain ⟨y134, hy134⟩ : ∃ y_ : List Int, y_ = (x3_2 ++ [(48 + ((Int.tmod x4_2 10) % 256)) % 256]) := ⟨_, rfl⟩
                  replace H : (nat_Nat_Text.l1 k2 y134 ((Int.tdiv x4_2 10) % 4294967296) (wrap64 (x21_2 + 1)) t130) = some r := by first | (rw [hy134]; with_reducible exact H) | (have H2_ := (Option.bind_some _ _).symm.trans H; rw [hy134]; with_reducible exact H2_) | (have H2_ := (Option.bind_some _ _).symm.trans H; with_reducible exact H2_) | with_reducible exact H | (rw [hy134]; exact H) | exact H
                  have Ny134 := Aside0.mk hy134
                  clear hy134
                  have H' := Aside0.mk H
                  clear H
                  go_wp2_with (first | ((with_reducible refine gate_builtin (b := .append) (xs := #[.tmp 23, .tmp 28]) rfl ?_); at_builtin; refine Kd.R_append (Kd.int .u8) (w0 := w) w.heap.size rfl (.tmp 23) (.tmp 28) 77 5 (.int .u8 0) 1 rfl Tryd.underlying77 info5 rfl (by decide) (by omega) u3 x3_2 ((48 + (Int.tmod x4_2 10)) % 256) [.int .u8 ((48 + (Int.tmod x4_2 10)) % 256)] (fun k_ => (w.heap.size ≤ k_)) (fun _ => False) rfl rfl ?aP (fun _ hk => hk.elim) ?aF ?aO ?aB ?aS ?aL ?_; (case aP => exact rfl); (case aB => exact (by repeat (first | (with_reducible first | exact HB.out | apply below_alloc | apply pw_below_drewN | apply below_drew1 | refine below_set ?_ GE129.out) | exact HB.out))); (case aF => exact (fun k_ hk => (Nat.le_trans (below_size (by repeat (first | (with_reducible first | exact HB.out | apply below_alloc | apply pw_below_drewN | apply below_drew1 | refine below_set ?_ GE129.out) | exact HB.out))) hk))); (case aO => exact (by (with_reducible repeat (first | apply Kd.R_alloc | apply Kd.R_drewN | apply Kd.R_drew)); exact HO_3.out)); (case aS => exact (below_size (by repeat (first | (with_reducible first | exact HB.out | apply below_alloc | apply pw_below_drewN | apply below_drew1 | refine below_set ?_ GE129.out) | exact HB.out)))); (case aL => have := LMc15.out; omega); intro v135 w16 ho hb hg hat; rw [show (48 + Int.tmod x4_2 10) % 256 = (48 + ((Int.tmod x4_2 10) % 256)) % 256 from by omega, ← Ny134.out] at ho; have n0_ := Aside0.mk (Kd.V_afterv (ok := (fun k_ => (P0_0_ k_ ∨ w.heap.size ≤ k_) ∧ k_ ≠ gb129)) (by (with_reducible repeat (first | apply Kd.V_alloc | apply Kd.V_drewN | apply Kd.V_drew)); exact Kd.V_mono HO_130000.out (fun _ hk => ⟨⟨hk.1, hk.2.2⟩, hk.2.1⟩)) hg hat); have n1_ := Aside0.mk (blk_grown (g := gb129) (o := .cells #[.slice Ao12 t130.length co12] 26 (0, 0)) (by (with_reducible repeat (first | refine blk_drewN ?_ _ | refine blk_drew ?_ | refine blk_alloc ?_ _)); exact BK129.out) hg (Kd.R_ne HO_3.out BK129.out (by decide))); have n2_ := Aside0.mk (hb); have n3_ := Aside0.mk (ho); clear HO_130000; clear BK129; clear HB; clear HO_3; have HO_130000 := n0_; have BK129 := n1_; have HB := n2_; have HO136 := n3_; clear n0_ n1_ n2_ n3_; clear ho hb hg hat))
                  go_roundg k2
                  case measure => have := HK1.out; have := HK2.out; omega
                  case rel => exact ⟨(y134), ((Int.tdiv x4_2 10) % 4294967296), (wrap64 (x21_2 + 1)), (by first | rfl | (simp; done) | (simp [*]; done) | (simp [i64_w]; done) | (simp [*, i64_w]; done)), (by first | rfl | (simp; done) | (simp [*]; done) | (simp [i64_w]; done) | (simp [*, i64_w]; done)), H', ⟨by have := HK1.out; have := HK2.out; omega⟩, ⟨by (with_reducible repeat (first | apply Kd.R_alloc | apply Kd.R_drewN | apply Kd.R_drew)); exact HO136.out⟩, ⟨by (with_reducible repeat (first | apply Kd.V_alloc | apply Kd.V_drewN | apply Kd.V_drew)); exact Kd.V_mono HO_130000.out (fun _ hk => ⟨hk.1.1, ⟨hk.2, hk.1.2⟩⟩)⟩, ⟨by (with_reducible repeat (first | refine blk_drewN ?_ _ | refine blk_drew ?_ | refine blk_alloc ?_ _)); exact BK129.out⟩, ⟨by repeat (first | (with_reducible first | exact HB.out | apply below_alloc | apply pw_below_drewN | apply below_drew1 | refine below_set ?_ GE129.out) | exact HB.out)⟩⟩
                · rw [if_neg c15] at H
                  exact absurd H (by simp)
              · rw [if_neg c14] at H
                have c14b0 : decide (x21_2 < 9) = false := decide_eq_false c14
                clear c14
                have H' := Aside0.mk H
                clear H
                go_wp2
                go_roundg k2
                case measure => have := HK1.out; have := HK2.out; omega
                case rel => exact ⟨(x3_2), (t130), (.slice Ao12 t130.length co12), H', ⟨by have := HK1.out; have := HK2.out; omega⟩, ⟨by (with_reducible repeat (first | apply Kd.R_alloc | apply Kd.R_drewN | apply Kd.R_drew)); exact HO_3.out⟩, ⟨by (with_reducible repeat (first | apply Kd.V_alloc | apply Kd.V_drewN | apply Kd.V_drew)); exact HO_130000.out⟩, ⟨by (with_reducible repeat (first | refine blk_drewN ?_ _ | refine blk_drew ?_ | refine blk_alloc ?_ _)); exact BK129.out⟩, ⟨by repeat (first | (with_reducible first | exact HB.out | apply below_alloc | apply pw_below_drewN | apply below_drew1 | refine below_set ?_ GE129.out) | exact HB.out)⟩⟩
        · rw [if_neg c7] at H
          have c7b0 : decide (0 < (x130000_1.length : Int)) = false := decide_eq_false c7
          have c7b1 : decide (0 < x130000_1.length) = false := decide_eq_false (by omega)
          clear c7
          by_cases c17 : 0 ≤ (x3_1.length : Int)
          · rw [if_pos c17] at H
            have c17b0 := eq_true c17
            have c17b1 : decide (0 ≤ (x3_1.length : Int)) = true := decide_eq_true c17
            clear c17
            by_cases c18 : ((x3_1.length : Int) : Int).toNat ≤ 281474976710656
            · rw [if_pos c18] at H
              have c18b0 := eq_true c18
              have c18b1 : decide (((x3_1.length : Int) : Int).toNat ≤ 281474976710656) = true := decide_eq_true c18
              clear c18
              obtain ⟨y137, hy137⟩ : ∃ y_ : List Int, y_ = (List.replicate ((x3_1.length : Int) : Int).toNat 0) := ⟨_, rfl⟩
              replace H : (nat_Nat_Text.l2 k1 x3_1 y137 x3_1 (x3_1.length : Int) 0) = some r := by first | (rw [hy137]; with_reducible exact H) | (have H2_ := (Option.bind_some _ _).symm.trans H; rw [hy137]; with_reducible exact H2_) | (have H2_ := (Option.bind_some _ _).symm.trans H; with_reducible exact H2_) | with_reducible exact H | (rw [hy137]; exact H) | exact H
              have Ny137 := Aside0.mk hy137
              clear hy137
              have H' := Aside0.mk H
              clear H
              have hcz19_0 : wr.cell? ⟨gb129, 0, none⟩ = some (u130000) := (blk_cell BK129.out 0).trans rfl
              have hfz19_0 := blk_frozen BK129.out 0
              obtain ⟨Ao20, co20, eo20⟩ := Kd.V_slice HO_130000.out
              subst eo20
              obtain ⟨Ao21, co21, eo21⟩ := Kd.R_slice HO_3.out
              subst eo21
              go_wp2_with (first | ((with_reducible refine gate_dst (N := 35) rfl ?_); refine Kd.R_make (Kd.int .u8) _ 5 rfl (N := 35) rfl 77 _ _ rfl (x3_1.length : Int) rfl rfl Tryd.underlying77 (.int .u8 0) 1 info5 rfl (by decide) (by omega) 0 (ok := fun _ => True) (okp := fun _ => True) rfl (fun _ hk => hk) trivial (of_decide_eq_true (by first | (with_reducible assumption) | assumption)) (Nat.le_trans (Nat.mul_le_mul_right _ (of_decide_eq_true (by first | (with_reducible assumption) | assumption) : (x3_1.length : Int).toNat ≤ 281474976710656)) (by omega)) (Below.refl _ _) (Nat.le_refl _) ?_; intro v138 w22 ho23 hb hg_ hnew_; clear hg_ hnew_; (first | rw [← Ny137.out] at ho23 | (simp only [Int.reduceToNat] at ho23; rw [← Ny137.out] at ho23)); have n0_ := Aside0.mk (Kd.R_elder' (by (with_reducible repeat (first | apply Kd.R_alloc | apply Kd.R_drewN | apply Kd.R_drew)); exact HO_3.out) (Kd.R_base ho23) hb); have n1_ := Aside0.mk (Kd.V_elder' (by (with_reducible repeat (first | apply Kd.V_alloc | apply Kd.V_drewN | apply Kd.V_drew)); exact HO_130000.out) (Kd.R_base ho23) hb); have n2_ := Aside0.mk (Kd.R_lower (Kd.R_new' (Kd.R_newM (M := fun k_ => (w.heap.size ≤ k_)) ho23 (below_size (by repeat (first | (with_reducible first | exact HB.out | apply below_alloc | apply pw_below_drewN | apply below_drew1 | refine below_set ?_ GE129.out) | exact HB.out))) (fun k_ h_ => h_)) (Kd.R_lt (by (with_reducible repeat (first | apply Kd.R_alloc | apply Kd.R_drewN | apply Kd.R_drew)); exact HO_3.out))) (below_size (by repeat (first | (with_reducible first | exact HB.out | apply below_alloc | apply pw_below_drewN | apply below_drew1 | refine below_set ?_ GE129.out) | exact HB.out)))); have n3_ := Aside0.mk (blk_below (g := gb129) (o := .cells #[.slice Ao20 x130000_1.length co20] 26 (0, 0)) (by (with_reducible repeat (first | refine blk_drewN ?_ _ | refine blk_drew ?_ | refine blk_alloc ?_ _)); exact BK129.out) hb); have n4_ := Aside0.mk (below_step (by repeat (first | (with_reducible first | exact HB.out | apply below_alloc | apply pw_below_drewN | apply below_drew1 | refine below_set ?_ GE129.out) | exact HB.out)) hb); clear HO_3; clear HO_130000; clear BK129; clear HB; have HO_3 := n0_; have HO_130000 := n1_; have HO139 := n2_; have BK129 := n3_; have HB := n4_; clear n0_ n1_ n2_ n3_ n4_; clear hb ho23))
              go_loopg [38] k1 (fun kq v38 w' => ∃ (x5_2 : List Int) (x38_2 : Int), v38 = .int .i64 x38_2 ∧ Aside0 (nat_Nat_Text.l2 kq x3_1 x5_2 x3_1 (x3_1.length : Int) x38_2 = some r) ∧ Aside0 (kq ≤ k1) ∧ Aside0 (Kd.R (Kd.int .u8) 5 w' w.heap.size (fun k_ => (w.heap.size ≤ k_) ∧ some k_ ≠ (v138 : Value).ownBlock) (.slice Ao21 x3_1.length co21) x3_1) ∧ Aside0 (Kd.R (Kd.int .u8) 5 w' w.heap.size (fun k_ => (w.heap.size ≤ k_) ∧ some k_ ≠ ((.slice Ao21 x3_1.length co21) : Value).ownBlock ∧ some k_ ≠ ((.slice Ao21 x3_1.length co21) : Value).ownBlock) v138 x5_2) ∧ Aside0 (Kd.R (Kd.int .u8) 5 w' w.heap.size (fun k_ => (w.heap.size ≤ k_) ∧ some k_ ≠ (v138 : Value).ownBlock) (.slice Ao21 x3_1.length co21) x3_1) ∧ Aside0 (Kd.V (Kd.int .u32) 79 w' w.heap.size (fun k_ => (P0_0_ k_ ∨ w.heap.size ≤ k_) ∧ some k_ ≠ ((.slice Ao21 x3_1.length co21) : Value).ownBlock ∧ some k_ ≠ (v138 : Value).ownBlock ∧ some k_ ≠ ((.slice Ao21 x3_1.length co21) : Value).ownBlock ∧ k_ ≠ gb129) (.slice Ao20 x130000_1.length co20) x130000_1) ∧ Aside0 (w'.heap[gb129]? = some (.cells #[(.slice Ao20 x130000_1.length co20)] 26 (0, 0))) ∧ Aside0 (Below w.heap.size w w'))
              case atStart => exact ⟨(y137), (0), (by first | rfl | (simp; done) | (simp [*]; done) | (simp [i64_w]; done) | (simp [*, i64_w]; done)), H', ⟨Nat.le_refl _⟩, ⟨by (with_reducible repeat (first | apply Kd.R_alloc | apply Kd.R_drewN | apply Kd.R_drew)); exact HO_3.out⟩, ⟨by (with_reducible repeat (first | apply Kd.R_alloc | apply Kd.R_drewN | apply Kd.R_drew)); exact Kd.R_mono HO139.out (fun _ hk => ⟨hk.1.1, ⟨hk.2, hk.2⟩⟩)⟩, ⟨by (with_reducible repeat (first | apply Kd.R_alloc | apply Kd.R_drewN | apply Kd.R_drew)); exact HO_3.out⟩, ⟨by (with_reducible repeat (first | apply Kd.V_alloc | apply Kd.V_drewN | apply Kd.V_drew)); exact Kd.V_mono HO_130000.out (fun _ hk => ⟨hk.1.1, ⟨hk.1.2.1, ⟨hk.2, ⟨hk.1.2.1, hk.1.2.2⟩⟩⟩⟩)⟩, ⟨by (with_reducible repeat (first | refine blk_drewN ?_ _ | refine blk_drew ?_ | refine blk_alloc ?_ _)); exact BK129.out⟩, ⟨by repeat (first | (with_reducible first | exact HB.out | apply below_alloc | apply pw_below_drewN | apply below_drew1 | refine below_set ?_ GE129.out) | exact HB.out)⟩⟩
              case round =>
                clear H'
                try clear c1
                try clear c2
                try clear c2b0
                try clear c2b1
                try clear c2b2
                try clear p2
                try clear c5
                try clear p6
                try clear c7
                try clear c7b0
                try clear c7b1
                try clear c14
                try clear c14b0
                try clear c15
                try clear c17
                try clear c17b0
                try clear c17b1
                try clear c18
                try clear c18b0
                try clear c18b1
                try clear c20
                try clear hcz13_0
                try clear hcz19_0
                try clear hcz4_0
                try clear hcz6_0
                try clear hcz9_0
                try clear hfz13_0
                try clear hfz19_0
                try clear hfz4_0
                try clear hfz6_0
                try clear hfz9_0
                try clear p2
                obtain ⟨x5_2, x38_2, rfl, HA, HK2, HO_3, HO_5, HO_36, HO_130000, BK129, HB⟩ := hrel
                cases gk with
                | zero => exact absurd HA.out (by simp [nat_Nat_Text.l2])
                | succ k2 =>
                  have H := HA.out
                  clear HA
                  simp only [nat_Nat_Text.l2] at H
                  by_cases c24 : x38_2 < (x3_1.length : Int)
                  · rw [if_pos c24] at H
                    have c24b0 : decide (x38_2 < (x3_1.length : Int)) = true := decide_eq_true c24
                    clear c24
                    by_cases c25 : 0 ≤ x38_2
                    · rw [if_pos c25] at H
                      have c25b0 : decide (0 ≤ x38_2) = true := decide_eq_true c25
                      clear c25
                      by_cases c26 : x38_2 < (x3_1.length : Int)
                      · rw [if_pos c26] at H
                        have c26b0 : decide (x38_2 < (x3_1.length : Int)) = true := decide_eq_true c26
                        clear c26
                        obtain ⟨ji27, hji27⟩ : ∃ j_ : Int, (wrap64 ((wrap64 ((x3_1.length : Int) - 1)) - x38_2)) = j_ := ⟨_, rfl⟩
                        replace H : (if 0 ≤ (ji27) then (if (ji27) < (x5_2.length : Int) then (nat_Nat_Text.l2 k2 x3_1 (x5_2.set ((ji27) : Int).toNat (rd x3_1 x38_2)) x3_1 (x3_1.length : Int) (wrap64 (x38_2 + 1))) else (none)) else (none)) = some r := by first | (rw [hji27] at H; exact H) | (simp only [hji27] at H ⊢; exact H)
                        have hji27w : (IntKind.i64.wrap ((wrap64 ((x3_1.length : Int) - 1)) - x38_2)) = ji27 := (i64_w _).trans hji27
                        by_cases c28 : 0 ≤ (ji27)
                        · rw [if_pos c28] at H
                          have c28b0 : decide (0 ≤ (ji27)) = true := decide_eq_true c28
                          clear c28
                          by_cases c29 : (ji27) < (x5_2.length : Int)
                          · rw [if_pos c29] at H
                            have c29b0 : decide ((ji27) < (x5_2.length : Int)) = true := decide_eq_true c29
                            clear c29
                            obtain ⟨y141, hy141⟩ : ∃ y_ : List Int, y_ = (x5_2.set ((ji27) : Int).toNat (rd x3_1 x38_2)) := ⟨_, rfl⟩
                            replace H : (nat_Nat_Text.l2 k2 x3_1 y141 x3_1 (x3_1.length : Int) (wrap64 (x38_2 + 1))) = some r := by first | (rw [hy141]; with_reducible exact H) | (have H2_ := (Option.bind_some _ _).symm.trans H; rw [hy141]; with_reducible exact H2_) | (have H2_ := (Option.bind_some _ _).symm.trans H; with_reducible exact H2_) | with_reducible exact H | (rw [hy141]; exact H) | exact H
                            have Ny141 := Aside0.mk hy141
                            clear hy141
                            have H' := Aside0.mk H
                            clear H
                            have p140 : 0 ≤ (x38_2 : Int) := of_decide_eq_true (by first | (with_reducible assumption) | assumption)
                            have q140 : x38_2 < (x3_1.length : Int) := of_decide_eq_true (by first | (with_reducible assumption) | assumption)
                            obtain ⟨ad140, e140, hx140_0⟩ := Kd.at_int (Kd.R_reads' HO_36.out).2.2 x38_2 p140 q140
                            cases e140
                            replace p140 := eq_true p140
                            replace q140 := eq_true q140
                            have p30 : 0 ≤ ((ji27) : Int) := of_decide_eq_true (by first | (with_reducible assumption) | assumption)
                            have q30 : ((ji27) : Int) < ((x5_2.length : Int) : Int) := of_decide_eq_true (by first | (with_reducible assumption) | assumption)
                            obtain ⟨go30, co30, eo30, gb30, gl30, cl30, HG30⟩ := Kd.R_form HO_5.out (by omega)
                            (first | cases eo30 | (injection eo30 with ea_ en_ ec_; (first | subst ea_ | (injection ea_ with ea_; subst ea_)); subst ec_; clear en_))
                            have GB30 := Aside0.mk gb30
                            have GG30 := Aside0.mk HG30
                            clear gb30 gl30 HG30
                            obtain ⟨hx30_0, hf30_0⟩ := Kd.R_celln 0 HO_5.out ((ji27) : Int) p30 q30
                            replace p30 := eq_true p30
                            replace q30 := eq_true q30
                            have HP31 := Kd.R_putg HO_5.out ((ji27) : Int) (rd x3_1 x38_2)
                            go_wp2_with (first | ((with_reducible refine gate_store (t := 5) (p := 50) rfl ?_); refine store_event (t := 5) (p := 50) (v := ?vo_w32) (w1 := (wr.setCell ⟨go30, ((ji27) : Int).toNat, none⟩ (.int .u8 (rd x3_1 x38_2)))) ?hg ?ho ?hn ?hr ?_; (case ho => rfl); (case hg => rfl); (case hn => rfl); (case hr => first | (go_simp; done) | (go_simp; rfl)); intro w32 hw; have hg : wr.grownBy w32 (some go30) := (by rw [hw]; exact HP31.2); have hp_ : Kd.R (Kd.int .u8) 5 w32 w.heap.size (fun k_ => (w.heap.size ≤ k_) ∧ some k_ ≠ (.slice (some ad140) x3_1.length co21 : Value).ownBlock ∧ some k_ ≠ (.slice (some ad140) x3_1.length co21 : Value).ownBlock) (.slice (some ⟨go30, 0, none⟩) x5_2.length co30) y141 := (by rw [hw, Ny141.out]; exact HP31.1); clear HP31; have n0_ := Aside0.mk (Kd.R_after (v := (.slice (some ⟨go30, 0, none⟩) x5_2.length co30)) (v1 := (.slice (some ⟨go30, 0, none⟩) x5_2.length co30)) (ok := (fun k_ => (w.heap.size ≤ k_))) (by (with_reducible repeat (first | apply Kd.R_alloc | apply Kd.R_drewN | apply Kd.R_drew)); exact HO_3.out) hg (.inl rfl)); have n1_ := Aside0.mk (hp_); have n2_ := Aside0.mk (Kd.R_after (v := (.slice (some ⟨go30, 0, none⟩) x5_2.length co30)) (v1 := (.slice (some ⟨go30, 0, none⟩) x5_2.length co30)) (ok := (fun k_ => (w.heap.size ≤ k_))) (by (with_reducible repeat (first | apply Kd.R_alloc | apply Kd.R_drewN | apply Kd.R_drew)); exact HO_36.out) hg (.inl rfl)); have n3_ := Aside0.mk (Kd.V_afterv (v := (.slice (some ⟨go30, 0, none⟩) x5_2.length co30)) (v1 := (.slice (some ⟨go30, 0, none⟩) x5_2.length co30)) (ok := (fun k_ => (P0_0_ k_ ∨ w.heap.size ≤ k_) ∧ some k_ ≠ (.slice (some ad140) x3_1.length co21 : Value).ownBlock ∧ some k_ ≠ (.slice (some ad140) x3_1.length co21 : Value).ownBlock ∧ k_ ≠ gb129)) (by (with_reducible repeat (first | apply Kd.V_alloc | apply Kd.V_drewN | apply Kd.V_drew)); exact Kd.V_mono HO_130000.out (fun _ hk => ⟨⟨hk.1, ⟨hk.2.1, ⟨hk.2.2.2.1, hk.2.2.2.2⟩⟩⟩, hk.2.2.1⟩)) hg (.inl rfl)); have n4_ := Aside0.mk (blk_grown (g := gb129) (o := .cells #[.slice Ao20 x130000_1.length co20] 26 (0, 0)) (by (with_reducible repeat (first | refine blk_drewN ?_ _ | refine blk_drew ?_ | refine blk_alloc ?_ _)); exact BK129.out) hg (Kd.R_ne HO_5.out BK129.out (by decide))); have n5_ := Aside0.mk ((by rw [hw]; exact below_set (HB.out) GB30.out : Below w.heap.size w w32)); clear HO_3; clear HO_5; clear HO_36; clear HO_130000; clear BK129; clear HB; have HO_3 := n0_; have HO_5 := n1_; have HO_36 := n2_; have HO_130000 := n3_; have BK129 := n4_; have HB := n5_; clear n0_ n1_ n2_ n3_ n4_ n5_; clear hg hw hp_))
                            go_roundg k2
                            case measure => have := HK1.out; have := HK2.out; omega
                            case rel => exact ⟨(y141), (wrap64 (x38_2 + 1)), (by first | rfl | (simp; done) | (simp [*]; done) | (simp [i64_w]; done) | (simp [*, i64_w]; done)), H', ⟨by have := HK1.out; have := HK2.out; omega⟩, ⟨by (with_reducible repeat (first | apply Kd.R_alloc | apply Kd.R_drewN | apply Kd.R_drew)); exact HO_3.out⟩, ⟨by (with_reducible repeat (first | apply Kd.R_alloc | apply Kd.R_drewN | apply Kd.R_drew)); exact HO_5.out⟩, ⟨by (with_reducible repeat (first | apply Kd.R_alloc | apply Kd.R_drewN | apply Kd.R_drew)); exact HO_36.out⟩, ⟨by (with_reducible repeat (first | apply Kd.V_alloc | apply Kd.V_drewN | apply Kd.V_drew)); exact Kd.V_mono HO_130000.out (fun _ hk => ⟨hk.1.1, ⟨hk.1.2.1, ⟨hk.2, ⟨hk.1.2.2.1, hk.1.2.2.2⟩⟩⟩⟩)⟩, ⟨by (with_reducible repeat (first | refine blk_drewN ?_ _ | refine blk_drew ?_ | refine blk_alloc ?_ _)); exact BK129.out⟩, ⟨by repeat (first | (with_reducible first | exact HB.out | apply below_alloc | apply pw_below_drewN | apply below_drew1 | refine below_set ?_ GE129.out) | exact HB.out)⟩⟩
                          · rw [if_neg c29] at H
                            exact absurd H (by simp)
                        · rw [if_neg c28] at H
                          exact absurd H (by simp)
                      · rw [if_neg c26] at H
                        exact absurd H (by simp)
                    · rw [if_neg c25] at H
                      exact absurd H (by simp)
                  · rw [if_neg c24] at H
                    have c24b0 : decide (x38_2 < (x3_1.length : Int)) = false := decide_eq_false c24
                    clear c24
                    replace H := Option.bind_eq_some_iff.mp H
                    obtain ⟨t142, A330, H⟩ := H
                    replace H : (some t142) = some r := H
                    have A33 := Aside0.mk A330
                    clear A330
                    obtain rfl := Option.some.inj H
                    have hcv34 := own_string (P := Tryd.prog) Tryd.underlying77 Tryd.underlying5 Tryd.underlying9 (Kd.own_of_R HO_5.out)
                    go_wp2_with (first | ((with_reducible refine gate_callee (f := 52) rfl ?_); refine goesL_ (some 54) rfl rfl Tryd.func52 (by kernel_rfl) rfl #[.string (strOfNums x5_2), .string (⟨#[48]⟩ : ByteArray)] rfl (by (try simp only [List.map_toArray, List.map_cons, List.map_nil]); first | done | rfl | (simp only [List.length_drop, List.length_take]; rfl)) ?_; (with_reducible refine (strings_TrimLeft.calls k2 (strOfNums x5_2) (⟨#[48]⟩ : ByteArray) t142 _ A33.out).mono ?_); rintro e w' ⟨rfl, ⟨nd, rfl⟩⟩; refine ⟨_, rfl, ?_⟩))
                    go_ret
                    exact ⟨by first | rfl | (simp [errW_none, errW_some] <;> rfl) | (simp [*, errW_none, errW_some] <;> rfl), by repeat (first | (with_reducible first | exact HB.out | apply below_alloc | apply pw_below_drewN | apply below_drew1 | refine below_set ?_ GE129.out) | exact HB.out)⟩
            · rw [if_neg c18] at H
              exact absurd H (by simp)
          · rw [if_neg c17] at H
            exact absurd H (by simp)
end Go.Proofs.YtgcngbmkgjphpaaDoor.PAll
end

section
namespace Go.Proofs.YtgcngbmkgjphpaaDoor.Nums
open Go.RowKit Go.Proofs.YtgcngbmkgjphpaaDoor.PAll Go.Proofs.YtgcngbmkgjphpaaDoorW.PrintWords Go.Proofs.YtgcngbmkgjphpaaDoorW.PrintLast Go.Proofs.YtgcngbmkgjphpaaDoorW.PrintMore
set_option linter.unusedVariables false
set_option linter.unusedSimpArgs false
/-- The text of a row of decimal digits, the lowest first. -/
def dd (l : List Int) : ByteArray := strOfNums ((l.map fun d => 48 + d).reverse)
/-- A number's text. -/
def dec (n : Nat) : ByteArray := if n = 0 then ⟨#[48]⟩ else dd (dgs 10 n)
/-- Digits in chunks of nine. -/
def cd (n : Nat) : List Int := if h : n = 0 then [] else dn 10 9 n ++ cd (n / 1000000000)
termination_by n
decreasing_by exact Nat.div_lt_self (by omega) (by omega)
theorem cd_zero : cd 0 = [] := by rw [cd]; simp
theorem cd_pos {n : Nat} (h : n ≠ 0) : cd n = dn 10 9 n ++ cd (n / 1000000000) := by rw [cd]; simp [h]
theorem cd_eq : ∀ n : Nat, ∃ z, z ≤ 9 ∧ cd n = dgs 10 n ++ List.replicate z 0 := by
  intro n
  induction n using Nat.strongRecOn with
  | ind n ih =>
    by_cases h : n = 0
    · subst h; exact ⟨0, by omega, by simp [cd_zero, dgs_zero]⟩
    · rw [cd_pos h]
      by_cases g : n / 1000000000 = 0
      · refine ⟨9 - (dgs 10 n).length, by omega, ?_⟩
        rw [g, cd_zero, List.append_nil]
        exact dn_eq (by omega) 9 n (by rw [show (10 : Nat) ^ 9 = 1000000000 from rfl]; omega)
      · obtain ⟨z, hz, e⟩ := ih (n / 1000000000) (by omega)
        refine ⟨z, hz, ?_⟩
        have := dgs_split (b := 10) (by omega) 9 n (by rw [show (10 : Nat) ^ 9 = 1000000000 from rfl]; exact g)
        rw [show (10 : Nat) ^ 9 = 1000000000 from rfl] at this
        rw [this, e, List.append_assoc]
theorem dec_len {n : Nat} : (dgs 10 n).length ≤ 10 * (dgs 4294967296 n).length := by
  rw [dgs_len_le (by omega), Nat.pow_mul]
  exact Nat.lt_of_lt_of_le (lt_pow_len (b := 4294967296) (by omega)) (Nat.pow_le_pow_left (by omega) _)
theorem rdec_len {n : Nat} : (dgs 10 n).length ≤ 5 * (dgs 65536 n).length := by
  rw [dgs_len_le (by omega), Nat.pow_mul]
  exact Nat.lt_of_lt_of_le (lt_pow_len (b := 65536) (by omega)) (Nat.pow_le_pow_left (by omega) _)
theorem text_l1 (q : List Int) (R : ByteArray) : ∀ (m j r : Nat) (back : List Int), m = 9 - j → j ≤ 9 → r < 4294967296 → back.length + m ≤ 100000000000000 →
    Ev (fun k => nat_Nat_Text.l0 k (back ++ (dn 10 m r).map fun d => 48 + d) q) R → Ev (fun k => nat_Nat_Text.l1 k back (r : Int) (j : Int) q) R := by
  intro m
  induction m with
  | zero =>
    intro j r back hm hj hr hb hR
    obtain rfl : j = 9 := by omega
    refine Ev.step (fun k => ?_) hR
    rw [nat_Nat_Text.l1, if_neg (by omega)]
    simp [dn]
  | succ m ih =>
    intro j r back hm hj hr hb hR
    have h := ih (j + 1) (r / 10) (back ++ [48 + ((r % 10 : Nat) : Int)]) (by omega) (by omega) (by omega) (by rw [List.length_append, List.length_singleton]; omega) (by
      rw [List.append_assoc]
      exact hR)
    refine Ev.step (fun k => ?_) h
    rw [nat_Nat_Text.l1, if_pos (by omega), if_pos (by omega), show (10 : Int) = ((10 : Nat) : Int) from rfl, ← Int.ofNat_tmod, ← Int.ofNat_tdiv, wrap_in (by omega) (by omega)]
    rw [show (48 + ((r % 10 : Nat) : Int) % 256) % 256 = 48 + ((r % 10 : Nat) : Int) by omega, show ((r / 10 : Nat) : Int) % 4294967296 = ((r / 10 : Nat) : Int) by omega]
    rfl
theorem text_l0 (R : ByteArray) : ∀ (n : Nat) (back : List Int), (dgs 4294967296 n).length ≤ 1000000000000 → back.length + (cd n).length ≤ 10000000000000 →
    Ev (fun k => nat_Nat_Text.l0 k (back ++ (cd n).map fun d => 48 + d) []) R → Ev (fun k => nat_Nat_Text.l0 k back (dgs 4294967296 n)) R := by
  intro n
  induction n using Nat.strongRecOn with
  | ind n ih =>
    intro back hl hb hR
    by_cases h : n = 0
    · subst h
      rw [cd_zero, List.map_nil, List.append_nil] at hR
      rw [dgs_zero]; exact hR
    · have hp := dgs_len_pos (b := 4294967296) (n := n) (by omega) h
      have hle : (dgs 4294967296 (n / 1000000000)).length ≤ (dgs 4294967296 n).length := (dgs_len_le (by omega)).mpr (Nat.lt_of_le_of_lt (Nat.div_le_self _ _) (lt_pow_len (by omega)))
      rw [cd_pos h] at hb hR
      rw [List.length_append, dn_length] at hb
      have h1 := ih (n / 1000000000) (by omega) (back ++ (dn 10 9 n).map fun d => 48 + d) (by omega) (by rw [List.length_append, List.length_map, dn_length]; omega) (by
        rw [List.append_assoc, ← List.map_append]; exact hR)
      have hm := dn_mod (b := 10) (by omega) 9 n
      rw [show (10 : Nat) ^ 9 = 1000000000 from rfl] at hm
      rw [← hm] at h1
      have h2 := text_l1 (dgs 4294967296 (n / 1000000000)) R 9 0 (n % 1000000000) back (by omega) (by omega) (by omega) (by omega) h1
      have h3 := (by_ev (n := n) (d := 1000000000) (by omega) (by omega) (by omega)).bind (f := fun k bt130 => nat_Nat_Text.l1 k back bt130.2 0 bt130.1) h2
      refine Ev.step (fun k => ?_) h3
      rw [nat_Nat_Text.l0, if_pos (by omega)]
      rfl
theorem set_rep (m : Nat) (v : Int) (T : List Int) : (List.replicate (m + 1) (0 : Int) ++ T).set m v = List.replicate m 0 ++ v :: T := by
  induction m with
  | zero => rfl
  | succ m ih => rw [List.replicate_succ, List.cons_append, List.set_cons_succ, ih, List.replicate_succ, List.cons_append]
theorem text_l2 (back : List Int) (R : ByteArray) (hb : back.length ≤ 281474976710656) (hR : Ev (fun k => strings_TrimLeft.f k (strOfNums back.reverse) (⟨#[48]⟩ : ByteArray)) R) : ∀ (m i : Nat), m + i = back.length →
    Ev (fun k => nat_Nat_Text.l2 k back (List.replicate m 0 ++ (back.take i).reverse) back (back.length : Int) (i : Int)) R := by
  intro m
  induction m with
  | zero =>
    intro i hi
    obtain rfl : i = back.length := by omega
    have := hR.bind (f := fun _ t => some t) (Ev.now _)
    refine Ev.step (fun k => ?_) this
    rw [nat_Nat_Text.l2, if_neg (by omega)]
    simp only [List.take_length, List.replicate_zero, List.nil_append]
  | succ m ih =>
    intro i hi
    refine Ev.step (fun k => ?_) (ih (i + 1) (by omega))
    have hl : (List.replicate (m + 1) (0 : Int) ++ (back.take i).reverse).length = back.length := by simp; omega
    rw [nat_Nat_Text.l2, if_pos (by omega), if_pos (by omega), if_pos (by omega), wrap_in (a := (back.length : Int) - 1) (by omega) (by omega), wrap_in (a := (back.length : Int) - 1 - (i : Int)) (by omega) (by omega), if_pos (by omega), hl, if_pos (by omega), wrap_in (by omega) (by omega)]
    rw [show ((back.length : Int) - 1 - (i : Int)).toNat = m by omega, set_rep, rd_at _ _ (by omega), List.take_succ_eq_append_getElem (show i < back.length by omega), List.reverse_append]
    rfl
theorem bt_strOf (l : List Int) (i : Nat) (h : i < l.length) (h0 : 0 ≤ l[i]) (h1 : l[i] < 256) : bt (strOfNums l) (i : Int) = l[i] := by
  have hs : (strOfNums l).size = l.length := strOfNums_size l
  unfold bt
  rw [dif_pos (by rw [hs, Int.toNat_natCast]; exact h)]
  have e : ((strOfNums l)[((i : Int)).toNat]'(by rw [hs, Int.toNat_natCast]; exact h)) = UInt8.ofNat (l[i]).toNat := by
    simp only [Int.toNat_natCast]
    show ((l.map fun n => UInt8.ofNat n.toNat).toArray)[i]'(by simpa using h) = _
    simp
  rw [e]
  have : (UInt8.ofNat (l[i]).toNat).toNat = (l[i]).toNat := by
    rw [UInt8.toNat_ofNat']; omega
  rw [this]; omega
theorem extract_one (x : Int) (l : List Int) : (strOfNums (x :: l)).extract 1 (strOfNums (x :: l)).size = strOfNums l := by
  apply ByteArray.ext
  rw [ByteArray.data_extract]
  simp [strOfNums, ByteArray.size]
  exact List.take_of_length_le (by simp)
theorem trim_ev : ∀ l : List Int, (∀ x ∈ l, 0 ≤ x ∧ x < 256) → l.length ≤ 281474976710656 → Ev (fun k => strings_trimLeftByte.l0 k (strOfNums l) 48) (strOfNums (l.dropWhile (· == 48)))
  | [], _, _ => by
    refine Ev.step (f := fun _ => some (strOfNums [])) (fun k => ?_) (Ev.now _)
    rw [strings_trimLeftByte.l0, strOfNums_size, if_neg (by simp)]
  | x :: l, h, hl => by
    have hx := h x (by simp)
    have hb := bt_strOf (x :: l) 0 (by simp) hx.1 hx.2
    have hs : ((strOfNums (x :: l)).size : Int) = (l.length : Int) + 1 := by rw [strOfNums_size]; simp
    have hb0 : bt (strOfNums (x :: l)) 0 = x := hb
    by_cases c : x = 48
    · subst c
      rw [List.length_cons] at hl
      have ih := trim_ev l (fun y hy => h y (by simp [hy])) (by omega)
      rw [show (48 :: l).dropWhile (· == 48) = l.dropWhile (· == 48) from by simp]
      refine Ev.step (fun k => ?_) ih
      rw [strings_trimLeftByte.l0, hs, if_pos (by omega), if_pos (by omega), hb0, if_pos rfl, if_pos (by omega), extract_one]
    · rw [show (x :: l).dropWhile (· == 48) = x :: l from by simp [c]]
      refine Ev.step (f := fun _ => some (strOfNums (x :: l))) (fun k => ?_) (Ev.now _)
      rw [strings_trimLeftByte.l0, hs, if_pos (by omega), if_pos (by omega), hb0, if_neg c]
theorem drop_rep (z : Nat) (l : List Int) : (List.replicate z (48 : Int) ++ l).dropWhile (· == 48) = l.dropWhile (· == 48) := by
  induction z with
  | zero => simp
  | succ z ih => rw [List.replicate_succ, List.cons_append, List.dropWhile_cons_of_pos (by decide)]; exact ih
theorem drop_digits {n : Nat} (hn : n ≠ 0) : (((dgs 10 n).map fun d => 48 + d).reverse).dropWhile (· == 48) = ((dgs 10 n).map fun d => 48 + d).reverse := by
  obtain ⟨a, r, t, e, ht, _⟩ := dgs_top (b := 10) (by omega) hn
  rw [e, List.map_append, List.reverse_append, List.map_singleton, List.reverse_singleton, List.singleton_append, List.dropWhile_cons_of_neg]
  simp only [beq_iff_eq]
  omega
/-- The program's text of a number. -/
theorem text_ev {n : Nat} (hl : (dgs 4294967296 n).length ≤ 100000000000) : Ev (fun k => nat_Nat_Text.f k (dgs 4294967296 n)) (dec n) := by
  by_cases hn : n = 0
  · subst hn
    refine Ev.congr (fun k => ?_) (Ev.now _)
    unfold nat_Nat_Text.f
    rw [if_pos (by simp [dgs_zero])]
    rfl
  · obtain ⟨z, hz, e⟩ := cd_eq n
    have hd := dec_len (n := n)
    have hlen : (cd n).length = (dgs 10 n).length + z := by rw [e]; simp
    have hp := dgs_len_pos (b := 4294967296) (n := n) (by omega) hn
    have hbig : ((cd n).map fun d => 48 + d).length = (cd n).length := List.length_map _
    have hmem : ∀ x ∈ ((cd n).map fun d => 48 + d).reverse, 0 ≤ x ∧ x < 256 := by
      intro x hx
      rw [List.mem_reverse, List.mem_map] at hx
      obtain ⟨d, hd2, rfl⟩ := hx
      have : Dg (10 : Nat) (cd n) := by rw [e]; exact (dgs_dg (by omega) n).append (Dg.zeros (by omega) z)
      have := this d hd2
      omega
    have ht := trim_ev _ hmem (by rw [List.length_reverse, hbig]; omega)
    have hdrop : (((cd n).map fun d => 48 + d).reverse).dropWhile (· == 48) = ((dgs 10 n).map fun d => 48 + d).reverse := by
      rw [e, List.map_append, List.reverse_append, List.map_replicate, List.reverse_replicate]
      rw [show (48 + (0 : Int)) = 48 from rfl, drop_rep, drop_digits hn]
    rw [hdrop] at ht
    have hT : Ev (fun k => strings_TrimLeft.f k (strOfNums ((cd n).map fun d => 48 + d).reverse) (⟨#[48]⟩ : ByteArray)) (dec n) := by
      unfold dec dd
      rw [if_neg hn]
      refine Ev.congr (fun k => ?_) ht
      unfold strings_TrimLeft.f
      rw [if_pos rfl]
      rfl
    have h2 := text_l2 ((cd n).map fun d => 48 + d) (dec n) (by omega) hT ((cd n).map fun d => 48 + d).length 0 (by omega)
    rw [List.take_zero, List.reverse_nil, List.append_nil] at h2
    have h0 : Ev (fun k => nat_Nat_Text.l0 k (([] : List Int) ++ (cd n).map fun d => 48 + d) []) (dec n) := by
      refine Ev.step (fun k => ?_) h2
      rw [nat_Nat_Text.l0, if_neg (by simp), List.nil_append, if_pos (by omega), if_pos (by omega), Int.toNat_natCast]
      rfl
    have h := text_l0 (dec n) n [] (by omega) (by simp only [List.length_nil]; omega) h0
    refine Ev.congr (fun k => ?_) h
    unfold nat_Nat_Text.f
    rw [if_neg (by omega)]
theorem str_append (a c : List Int) : strOfNums a ++ strOfNums c = strOfNums (a ++ c) := by
  apply ByteArray.ext
  rw [ByteArray.data_append]
  simp [strOfNums]
theorem dd_snoc (l : List Int) (d : Int) : strOfNums [48 + d] ++ dd l = dd (l ++ [d]) := by
  unfold dd
  rw [str_append]
  simp
theorem dd_size (l : List Int) : (dd l).size = l.length := by unfold dd; rw [strOfNums_size]; simp
theorem ten_digit (r : Nat) : wrap64 (48 + Int.tmod (r : Int) 10) % 256 = 48 + ((r % 10 : Nat) : Int) := by
  rw [show (10 : Int) = ((10 : Nat) : Int) from rfl, ← Int.ofNat_tmod, wrap_in (by omega) (by omega)]; omega
theorem half_ten (r : Nat) (h : r < 10000) : wrap64 (Int.tdiv (r : Int) 10) = ((r / 10 : Nat) : Int) := by
  rw [show (10 : Int) = ((10 : Nat) : Int) from rfl, ← Int.ofNat_tdiv, wrap_in (by omega) (by omega)]
theorem next_i (i : Nat) (h : i < 1000000000000) : wrap64 ((i : Int) + 1) = ((i + 1 : Nat) : Int) := by rw [wrap_in (by omega) (by omega)]; rfl
theorem fits_one (v : Int) (acc : List Int) (h : 1 + acc.length ≤ 9223372036854775807) : (strOfNums [v]).size + (dd acc).size ≤ 9223372036854775807 := by
  rw [strOfNums_size, dd_size, List.length_singleton]; exact h
theorem rtext_l1 (x : Nat) (R : ByteArray) (hx : (dgs 65536 x).length ≤ 1000000000000) : ∀ (m i r : Nat) (acc : List Int), m = 4 - i → i ≤ 4 → r < 10 ^ m → acc.length + m ≤ 100000000000000 →
    Ev (fun k => heraldref04_Text.l0 k (dgs 65536 x) (dd (acc ++ if x = 0 then dgs 10 r else dn 10 m r))) R → Ev (fun k => heraldref04_Text.l1 k (dgs 65536 x) (dd acc) (r : Int) (i : Int)) R := by
  intro m
  induction m with
  | zero =>
    intro i r acc hm hi hr hl hR
    obtain rfl : i = 4 := by omega
    obtain rfl : r = 0 := by simpa using hr
    refine Ev.step (fun k => ?_) hR
    rw [heraldref04_Text.l1, if_neg (by omega)]
    rw [show (if x = 0 then dgs 10 0 else dn 10 0 0) = [] from by rw [dgs_zero]; simp [dn], List.append_nil]
  | succ m ih =>
    intro i r acc hm hi hr hl hR
    have hlx := dgs_len_zero (b := 65536) (n := x) (by omega)
    rw [Nat.pow_succ] at hr
    have hr4 : r < 10000 := by
      have : (10 : Nat) ^ m ≤ 10 ^ 3 := Nat.pow_le_pow_right (by omega) (by omega)
      have : (10 : Nat) ^ 3 = 1000 := rfl
      omega
    by_cases stop : x = 0 ∧ r = 0
    · obtain ⟨hx0, hr0⟩ := stop
      subst hx0 hr0
      rw [if_pos rfl, dgs_zero 10, List.append_nil] at hR
      refine Ev.step (fun k => ?_) hR
      rw [heraldref04_Text.l1, if_pos (by omega), if_neg (by rw [dgs_zero]; simp), if_neg (by omega)]
    · have hs0 : 1 + acc.length ≤ 9223372036854775807 := by omega
      have h := ih (i + 1) (r / 10) (acc ++ [((r % 10 : Nat) : Int)]) (by omega) (by omega) (by omega) (by rw [List.length_append, List.length_singleton]; omega) (by
        rw [List.append_assoc]
        by_cases hx0 : x = 0
        · rw [if_pos hx0] at hR ⊢
          rw [dgs_pos (b := 10) (by omega) (show r ≠ 0 by omega)] at hR
          exact hR
        · rw [if_neg hx0] at hR ⊢
          exact hR)
      have c0 : (i : Int) < 4 := by omega
      have cx : ¬ x = 0 → ((dgs 65536 x).length : Int) > 0 := by omega
      have cx0 : x = 0 → ¬ ((dgs 65536 x).length : Int) > 0 := by omega
      have cr : x = 0 → (r : Int) > 0 := by omega
      have e1 := ten_digit r
      have e2 := half_ten r (by omega)
      have e3 := next_i i (by omega)
      refine Ev.step (fun k => ?_) h
      rw [heraldref04_Text.l1, if_pos c0, e1, e2, e3]
      by_cases hx0 : x = 0
      · rw [if_neg (cx0 hx0), if_pos (cr hx0), Option.bind_some, if_pos (fits_one _ acc hs0), dd_snoc]
      · rw [if_pos (cx hx0), Option.bind_some, if_pos (fits_one _ acc hs0), dd_snoc]
theorem rtext_l0 : ∀ (n : Nat) (acc : List Int), (dgs 65536 n).length ≤ 1000000000000 → acc.length + (dgs 10 n).length ≤ 10000000000000 →
    Ev (fun k => heraldref04_Text.l0 k (dgs 65536 n) (dd acc)) (dd (acc ++ dgs 10 n)) := by
  intro n
  induction n using Nat.strongRecOn with
  | ind n ih =>
    intro acc hl hb
    by_cases h : n = 0
    · subst h
      refine Ev.step (f := fun _ => some (dd (acc ++ dgs 10 0))) (fun k => ?_) (Ev.now _)
      rw [heraldref04_Text.l0, if_neg (by rw [dgs_zero]; simp), dgs_zero, List.append_nil]
    · have hp := dgs_len_pos (b := 65536) (n := n) (by omega) h
      have hle : (dgs 65536 (n / 10000)).length ≤ (dgs 65536 n).length := (dgs_len_le (by omega)).mpr (Nat.lt_of_le_of_lt (Nat.div_le_self _ _) (lt_pow_len (by omega)))
      have hsp : acc ++ dgs 10 n = (acc ++ if n / 10000 = 0 then dgs 10 (n % 10000) else dn 10 4 (n % 10000)) ++ dgs 10 (n / 10000) := by
        by_cases g : n / 10000 = 0
        · rw [if_pos g, g, dgs_zero, List.append_nil, Nat.mod_eq_of_lt (by omega)]
        · have := dgs_split (b := 10) (by omega) 4 n (by rw [show (10 : Nat) ^ 4 = 10000 from rfl]; exact g)
          have hm := dn_mod (b := 10) (by omega) 4 n
          rw [show (10 : Nat) ^ 4 = 10000 from rfl] at this hm
          rw [if_neg g, this, hm, List.append_assoc]
      have hlen : (acc ++ dgs 10 n).length = acc.length + (dgs 10 n).length := List.length_append
      have h1 := ih (n / 10000) (by omega) (acc ++ if n / 10000 = 0 then dgs 10 (n % 10000) else dn 10 4 (n % 10000)) (by omega) (by
        rw [← List.length_append, ← hsp, hlen]; exact hb)
      rw [← hsp] at h1
      have h2 := rtext_l1 (n / 10000) _ (by omega) 4 0 (n % 10000) acc (by omega) (by omega) (by rw [show (10 : Nat) ^ 4 = 10000 from rfl]; omega) (by omega) h1
      have h3 := (small_ev (n := n) (d := 10000) (by omega) (by omega) (by omega)).bind (f := fun k bt210 => heraldref04_Text.l1 k bt210.1 (dd acc) bt210.2 0) h2
      refine Ev.step (fun k => ?_) h3
      rw [heraldref04_Text.l0, if_pos (by omega)]
      rfl
/-- The reference's text of a number. -/
theorem rtext_ev {n : Nat} (hl : (dgs 65536 n).length ≤ 100000000000) : Ev (fun k => heraldref04_Text.f k (dgs 65536 n)) (dec n) := by
  by_cases hn : n = 0
  · subst hn
    refine Ev.congr (fun k => ?_) (Ev.now _)
    unfold heraldref04_Text.f
    rw [if_pos (by simp [dgs_zero])]
    rfl
  · have hd := rdec_len (n := n)
    have hp := dgs_len_pos (b := 65536) (n := n) (by omega) hn
    have h := rtext_l0 n [] (by omega) (by simp only [List.length_nil]; omega)
    rw [List.nil_append] at h
    unfold dec
    rw [if_neg hn]
    refine Ev.congr (fun k => ?_) h
    unfold heraldref04_Text.f
    rw [if_neg (by omega)]
    rfl
end Go.Proofs.YtgcngbmkgjphpaaDoor.Nums
end

section
namespace Go.Proofs.YtgcngbmkgjphpaaDoor.PAll
open Go.RowKit Go.Proofs.YtgcngbmkgjphpaaDoorW.PrintWords Go.Proofs.YtgcngbmkgjphpaaDoorW.PrintLast Go.Proofs.YtgcngbmkgjphpaaDoorW.PrintMore
attribute [local go_sem] max2_int min2_int max_two min_two max_three min_three max_four min_four   -- for this text's walks alone
set_option linter.unusedVariables false
set_option linter.unusedSimpArgs false
def heraldlaw04_is.f (k : Nat) (l0_0 : List Int) (a1 : Int) (l2 : List Int) (a3 : Int) : Option (Bool) := if a1 = a3 then ((nat_Nat_Text.f k l0_0).bind fun t221 => ((heraldref04_Text.f k l2).bind fun t222 => (some (t221.toList == t222.toList)))) else (some false)
set_option maxHeartbeats 8000000 in
set_option maxRecDepth 100000 in
theorem heraldlaw04_is.calls (k : Nat) (A0_0 : Option Addr) (c0_0 : Nat) (l0_0 : List Int) (a1 : Int) (A2 : Option Addr) (c2 : Nat) (l2 : List Int) (a3 : Int) (r : Bool) (w : World) (hr0_0 : Kd.C (Kd.int .u32) w A0_0 l0_0.length l0_0) (hc0_0 : l0_0.length ≤ c0_0) (hr2 : Kd.C (Kd.int .i64) w A2 l2.length l2) (hc2 : l2.length ≤ c2) (h : heraldlaw04_is.f k l0_0 a1 l2 a3 = some r) :
    Calls Tryd.prog 14 #[.agg #[.slice A0_0 l0_0.length c0_0], .int .i64 a1, .slice A2 l2.length c2, .int .i64 a3] w fun e w' => e = .returned (.bool r) ∧ Below w.heap.size w w' := by
  have hu26 := Tryd.underlying26
  have HR0_0 := Aside0.mk hr0_0
  have HC0_0 := Aside0.mk hc0_0
  clear hr0_0 hc0_0
  have HR2 := Aside0.mk hr2
  have HC2 := Aside0.mk hc2
  clear hr2 hc2
  have HB := Aside0.mk (Below.refl w.heap.size w)
  have H : (if a1 = a3 then ((nat_Nat_Text.f k l0_0).bind fun t221 => ((heraldref04_Text.f k l2).bind fun t222 => (some (t221.toList == t222.toList)))) else (some false)) = some r := h
  clear h
  by_cases c5 : a1 = a3
  · rw [if_pos c5] at H
    have c5b0 : (a1 == a3) = true := beq_iff_eq.mpr c5
    have c5b1 : (a1 != a3) = false := bne_eq_false_iff_eq.mpr c5
    clear c5
    replace H := Option.bind_eq_some_iff.mp H
    obtain ⟨t221, A60, H⟩ := H
    replace H : ((heraldref04_Text.f k l2).bind fun t222 => (some (t221.toList == t222.toList))) = some r := H
    have A6 := Aside0.mk A60
    clear A60
    replace H := Option.bind_eq_some_iff.mp H
    obtain ⟨t222, A70, H⟩ := H
    replace H : (some (t221.toList == t222.toList)) = some r := H
    have A7 := Aside0.mk A70
    clear A70
    obtain rfl := Option.some.inj H
    go_enter Tryd.func14, Tryd.ntmps14
    go_wp2_with (first | ((with_reducible refine gate_dst (N := 4) rfl ?_); refine box_event ?hg (N := 4) ?hd (cs := #[.slice A0_0 l0_0.length c0_0]) (t := 26) ?hr ?_; (case hd => rfl); (case hg => rfl); (case hr => first | (go_simp; done) | (go_simp; rfl)); intro gb220 hg w8 hbox hb; have n0_ := Aside0.mk (below_step (by repeat (first | (with_reducible first | exact HB.out | apply below_alloc | apply pw_below_drewN | apply below_drew1) | exact HB.out)) hb); have n1_ := Aside0.mk (hbox); have n2_ := Aside0.mk ((by rw [hg]; exact (below_size (by repeat (first | (with_reducible first | exact HB.out | apply below_alloc | apply pw_below_drewN | apply below_drew1) | exact HB.out))) : w.heap.size ≤ gb220)); have n3_ := Aside0.mk ((by rw [hg]; exact (below_size (by repeat (first | (with_reducible first | exact HB.out | apply below_alloc | apply pw_below_drewN | apply below_drew1) | exact HB.out))) : w.heap.size ≤ gb220)); clear HB; have HB := n0_; have BK220 := n1_; have GW220 := n2_; have GE220 := n3_; clear n0_ n1_ n2_ n3_; clear hb hbox hg; have hcz9_0 : w8.cell? ⟨gb220, 0, none⟩ = some (.slice A0_0 l0_0.length c0_0) := (blk_cell BK220.out 0).trans rfl; have hfz9_0 := blk_frozen BK220.out 0) | (go_at_call 20; (with_reducible refine (nat_Nat_Text.calls k (fun k_ => k_ < w.heap.size) _ _ l0_0 t221 _ ?side1 A6.out).mono ?_); (case side1 => exact Kd.V_mk HC0_0.out (Kd.F_below (Kd.C_F (Kd.heap_int .u32) HR0_0.out) (by repeat (first | (with_reducible first | exact HB.out | apply below_alloc | apply pw_below_drewN | apply below_drew1 | refine below_set ?_ GE220.out) | exact HB.out)))); rintro e w10 ⟨rfl, hb⟩; have n0_ := Aside0.mk (blk_below (g := gb220) (o := .cells #[.slice A0_0 l0_0.length c0_0] 26 (0, 0)) (by (with_reducible repeat (first | refine blk_drewN ?_ _ | refine blk_drew ?_ | refine blk_alloc ?_ _)); exact BK220.out) hb); have n1_ := Aside0.mk (below_step (by repeat (first | (with_reducible first | exact HB.out | apply below_alloc | apply pw_below_drewN | apply below_drew1 | refine below_set ?_ GE220.out) | exact HB.out)) hb); clear BK220; clear HB; have BK220 := n0_; have HB := n1_; clear n0_ n1_; (try clear hb); (try clear hb2); (try clear hk); (try clear hi)) | (go_at_call 24; (with_reducible refine (heraldref04_Text.calls k (fun k_ => k_ < w.heap.size) _ _ l2 t222 _ ?side1 A7.out).mono ?_); (case side1 => exact Kd.V_mk HC2.out (Kd.F_below (Kd.C_F (Kd.heap_int .i64) HR2.out) (by repeat (first | (with_reducible first | exact HB.out | apply below_alloc | apply pw_below_drewN | apply below_drew1 | refine below_set ?_ GE220.out) | exact HB.out)))); rintro e w11 ⟨rfl, hb⟩; have n0_ := Aside0.mk (blk_below (g := gb220) (o := .cells #[.slice A0_0 l0_0.length c0_0] 26 (0, 0)) (by (with_reducible repeat (first | refine blk_drewN ?_ _ | refine blk_drew ?_ | refine blk_alloc ?_ _)); exact BK220.out) hb); have n1_ := Aside0.mk (below_step (by repeat (first | (with_reducible first | exact HB.out | apply below_alloc | apply pw_below_drewN | apply below_drew1 | refine below_set ?_ GE220.out) | exact HB.out)) hb); clear BK220; clear HB; have BK220 := n0_; have HB := n1_; clear n0_ n1_; (try clear hb); (try clear hb2); (try clear hk); (try clear hi)))
    go_ret
    exact ⟨by first | rfl | (simp [errW_none, errW_some] <;> rfl) | (simp [*, errW_none, errW_some] <;> rfl), by repeat (first | (with_reducible first | exact HB.out | apply below_alloc | apply pw_below_drewN | apply below_drew1 | refine below_set ?_ GE220.out) | exact HB.out)⟩
  · rw [if_neg c5] at H
    have c5b0 : (a1 == a3) = false := beq_eq_false_iff_ne.mpr c5
    have c5b1 : (a1 != a3) = true := bne_iff_ne.mpr c5
    obtain rfl := Option.some.inj H
    go_enter Tryd.func14, Tryd.ntmps14
    go_wp2_with (first | ((with_reducible refine gate_dst (N := 4) rfl ?_); refine box_event ?hg (N := 4) ?hd (cs := #[.slice A0_0 l0_0.length c0_0]) (t := 26) ?hr ?_; (case hd => rfl); (case hg => rfl); (case hr => first | (go_simp; done) | (go_simp; rfl)); intro gb220 hg w12 hbox hb; have n0_ := Aside0.mk (below_step (by repeat (first | (with_reducible first | exact HB.out | apply below_alloc | apply pw_below_drewN | apply below_drew1) | exact HB.out)) hb); have n1_ := Aside0.mk (hbox); have n2_ := Aside0.mk ((by rw [hg]; exact (below_size (by repeat (first | (with_reducible first | exact HB.out | apply below_alloc | apply pw_below_drewN | apply below_drew1) | exact HB.out))) : w.heap.size ≤ gb220)); have n3_ := Aside0.mk ((by rw [hg]; exact (below_size (by repeat (first | (with_reducible first | exact HB.out | apply below_alloc | apply pw_below_drewN | apply below_drew1) | exact HB.out))) : w.heap.size ≤ gb220)); clear HB; have HB := n0_; have BK220 := n1_; have GW220 := n2_; have GE220 := n3_; clear n0_ n1_ n2_ n3_; clear hb hbox hg))
    go_ret
    exact ⟨by first | rfl | (simp [errW_none, errW_some] <;> rfl) | (simp [*, errW_none, errW_some] <;> rfl), by repeat (first | (with_reducible first | exact HB.out | apply below_alloc | apply pw_below_drewN | apply below_drew1 | refine below_set ?_ GE220.out) | exact HB.out)⟩
end Go.Proofs.YtgcngbmkgjphpaaDoor.PAll
end

section
namespace Go.Proofs.YtgcngbmkgjphpaaDoor.Nums
open Go.RowKit Go.Proofs.YtgcngbmkgjphpaaDoor.PAll Go.Proofs.YtgcngbmkgjphpaaDoorW.PrintWords Go.Proofs.YtgcngbmkgjphpaaDoorW.PrintLast Go.Proofs.YtgcngbmkgjphpaaDoorW.PrintMore
set_option linter.unusedVariables false
set_option linter.unusedSimpArgs false
/-- A number with an error's number is the document's. -/
theorem is_ev (v : Nat) (e : Int) (h1 : (dgs 4294967296 v).length ≤ 1000000000) (h2 : (dgs 65536 v).length ≤ 1000000000) : Ev (fun k => heraldlaw04_is.f k (dgs 4294967296 v) e (dgs 65536 v) e) true := by
  have h := ((text_ev (n := v) (by omega)).bind (f := fun k t221 => ((heraldref04_Text.f k (dgs 65536 v)).bind fun t222 => (some (t221.toList == t222.toList)))) (r := true) ((rtext_ev (n := v) (by omega)).bind (f := fun _ t222 => (some ((dec v).toList == t222.toList))) (Ev.congr (fun k => by simp) (Ev.now _))))
  refine Ev.congr (fun k => ?_) h
  unfold heraldlaw04_is.f
  rw [if_pos rfl]
theorem is_nil (e : Int) : Ev (fun k => heraldlaw04_is.f k [] e [] e) true := by
  have := is_ev 0 e (by rw [dgs_zero]; simp) (by rw [dgs_zero]; simp)
  rwa [dgs_zero, dgs_zero] at this
theorem bl_one : bl 1 = 1 := rfl
theorem Of_ev (n : Nat) (h : n < 9223372036854775808) : Ev (fun k => nat_Of.f k (n : Int)) (dgs 4294967296 n, 0) := by
  refine Ev.congr (fun k => ?_) ((of_ev n (by omega)).bind (f := fun _ t116 => some (t116, (0 : Int))) (Ev.now _))
  unfold nat_Of.f
  rw [if_neg (by omega), u64_in (by omega) (by omega)]
end Go.Proofs.YtgcngbmkgjphpaaDoor.Nums
end

section
namespace Go.Proofs.YtgcngbmkgjphpaaDoor.PAll
open Go.RowKit Go.Proofs.YtgcngbmkgjphpaaDoorW.PrintWords Go.Proofs.YtgcngbmkgjphpaaDoorW.PrintLast Go.Proofs.YtgcngbmkgjphpaaDoorW.PrintMore
attribute [local go_sem] max2_int min2_int max_two min_two max_three min_three max_four min_four   -- for this text's walks alone
set_option linter.unusedVariables false
set_option linter.unusedSimpArgs false
def nat_Nat_Power.l0 : Nat → Int → Int → List Int → List Int → Option (List Int × Int)
  | 0, _, _, _, _ => none
  | k + 1, x34, x35, x170000, x180000 => if x35 < x34 then ((nat_Nat_Mul.f k x180000 x170000).bind fun bt180 => (if bt180.2 = 0 then (nat_Nat_Power.l0 k x34 (wrap64 (x35 + 1)) x170000 bt180.1) else (some (([] : List Int), bt180.2)))) else (some (x180000, 0))
def nat_Nat_Power.f (k : Nat) (l0_0 : List Int) (a1 : Int) : Option (List Int × Int) := if a1 < 0 then (some (([] : List Int), 1)) else (if a1 = 0 then ((nat_of.f k 1).bind fun t171 => (some (t171, 0))) else ((nat_Nat_Bits.f l0_0).bind fun t174 => (if t174 < 2 then (some (l0_0, 0)) else (if a1 > 2147483647 then (some (([] : List Int), 41)) else ((nat_Nat_Bits.f l0_0).bind fun t175 => (if (wrap64 ((wrap64 (t175 - 1)) * a1)) ≥ 65536 then (some (([] : List Int), 41)) else ((nat_of.f k 1).bind fun t176 => (nat_Nat_Power.l0 k a1 0 l0_0 t176))))))))
set_option maxHeartbeats 8000000 in
set_option maxRecDepth 100000 in
theorem nat_Nat_Power.calls (k : Nat) (P0_0_ : Nat → Prop) (A0_0 : Option Addr) (c0_0 : Nat) (l0_0 : List Int) (a1 : Int) (r1 : List Int) (r2 : Int) (w : World) (hs0_0 : Kd.V (Kd.int .u32) 79 w w.heap.size (fun k_ => P0_0_ k_) (.slice A0_0 l0_0.length c0_0) l0_0) (h : nat_Nat_Power.f k l0_0 a1 = some (r1, r2)) :
    Calls Tryd.prog 38 #[.agg #[.slice A0_0 l0_0.length c0_0], .int .i64 a1] w fun e w' => ∃ v0_ : Value, e = .returned (.tuple #[.agg #[v0_], .int .i64 r2]) ∧ Kd.V (Kd.int .u32) 79 w' w.heap.size (fun k_ => (P0_0_ k_ ∨ w.heap.size ≤ k_)) v0_ r1 ∧ Below w.heap.size w w' := by
  have hu26 := Tryd.underlying26
  have HO0_0 := Aside0.mk (show Kd.V (Kd.int .u32) 79 w w.heap.size (fun k_ => (P0_0_ k_ ∨ w.heap.size ≤ k_)) (.slice A0_0 l0_0.length c0_0) l0_0 from Kd.V_mono hs0_0 (fun k_ hk => .inl hk))
  have HB := Aside0.mk (Below.refl w.heap.size w)
  have H : (if a1 < 0 then (some (([] : List Int), 1)) else (if a1 = 0 then ((nat_of.f k 1).bind fun t171 => (some (t171, 0))) else ((nat_Nat_Bits.f l0_0).bind fun t174 => (if t174 < 2 then (some (l0_0, 0)) else (if a1 > 2147483647 then (some (([] : List Int), 41)) else ((nat_Nat_Bits.f l0_0).bind fun t175 => (if (wrap64 ((wrap64 (t175 - 1)) * a1)) ≥ 65536 then (some (([] : List Int), 41)) else ((nat_of.f k 1).bind fun t176 => (nat_Nat_Power.l0 k a1 0 l0_0 t176))))))))) = some (r1, r2) := h
  clear h
  by_cases c3 : a1 < 0
  · rw [if_pos c3] at H
    have c3b0 : decide (a1 < 0) = true := decide_eq_true c3
    clear c3
    simp only [Option.some.injEq, Prod.mk.injEq] at H
    obtain ⟨rfl, rfl⟩ := H
    go_enter Tryd.func38, Tryd.ntmps38
    go_wp2_with (first | ((with_reducible refine gate_dst (N := 2) rfl ?_); refine box_event ?hg (N := 2) ?hd (cs := #[.slice A0_0 l0_0.length c0_0]) (t := 26) ?hr ?_; (case hd => rfl); (case hg => rfl); (case hr => first | (go_simp; done) | (go_simp; rfl)); intro gb169 hg w4 hbox hb; have n0_ := Aside0.mk (Kd.V_below (Kd.V_elderB (by (with_reducible repeat (first | apply Kd.V_alloc | apply Kd.V_drewN | apply Kd.V_drew)); exact HO0_0.out) gb169 (Nat.le_of_eq hg.symm)) hb); have n1_ := Aside0.mk (below_step (by repeat (first | (with_reducible first | exact HB.out | apply below_alloc | apply pw_below_drewN | apply below_drew1) | exact HB.out)) hb); have n2_ := Aside0.mk (hbox); have n3_ := Aside0.mk ((by rw [hg]; exact (below_size (by repeat (first | (with_reducible first | exact HB.out | apply below_alloc | apply pw_below_drewN | apply below_drew1) | exact HB.out))) : w.heap.size ≤ gb169)); have n4_ := Aside0.mk ((by rw [hg]; exact (below_size (by repeat (first | (with_reducible first | exact HB.out | apply below_alloc | apply pw_below_drewN | apply below_drew1) | exact HB.out))) : w.heap.size ≤ gb169)); clear HO0_0; clear HB; have HO0_0 := n0_; have HB := n1_; have BK169 := n2_; have GW169 := n3_; have GE169 := n4_; clear n0_ n1_ n2_ n3_ n4_; clear hb hbox hg) | ((with_reducible refine gate_dst (N := 4) rfl ?_); refine box_event ?hg (N := 4) ?hd (cs := #[.slice none 0 0]) (t := 26) ?hr ?_; (case hd => rfl); (case hg => rfl); (case hr => first | (go_simp; done) | (go_simp; rfl)); intro gb170 hg w5 hbox hb; have n0_ := Aside0.mk (Kd.V_below (Kd.V_elderB (by (with_reducible repeat (first | apply Kd.V_alloc | apply Kd.V_drewN | apply Kd.V_drew)); exact HO0_0.out) gb170 (Nat.le_of_eq hg.symm)) hb); have n1_ := Aside0.mk (blk_below (g := gb169) (o := .cells #[.slice A0_0 l0_0.length c0_0] 26 (0, 0)) (by (with_reducible repeat (first | refine blk_drewN ?_ _ | refine blk_drew ?_ | refine blk_alloc ?_ _)); exact BK169.out) hb); have n2_ := Aside0.mk (below_step (by repeat (first | (with_reducible first | exact HB.out | apply below_alloc | apply pw_below_drewN | apply below_drew1 | refine below_set ?_ GE169.out) | exact HB.out)) hb); have n3_ := Aside0.mk (hbox); have n4_ := Aside0.mk ((by rw [hg]; exact (below_size (by repeat (first | (with_reducible first | exact HB.out | apply below_alloc | apply pw_below_drewN | apply below_drew1 | refine below_set ?_ GE169.out) | exact HB.out))) : w.heap.size ≤ gb170)); have n5_ := Aside0.mk ((by rw [hg]; exact (below_size (by repeat (first | (with_reducible first | exact HB.out | apply below_alloc | apply pw_below_drewN | apply below_drew1 | refine below_set ?_ GE169.out) | exact HB.out))) : w.heap.size ≤ gb170)); have n6_ := Aside0.mk ((by rw [hg]; exact Nat.ne_of_lt (blk_lt (g := gb169) (o := .cells #[.slice A0_0 l0_0.length c0_0] 26 (0, 0)) (by (with_reducible repeat (first | refine blk_drewN ?_ _ | refine blk_drew ?_ | refine blk_alloc ?_ _)); exact BK169.out)) : gb169 ≠ gb170)); have n7_ := Aside0.mk ((by rw [hg]; exact Nat.ne_of_gt (blk_lt (g := gb169) (o := .cells #[.slice A0_0 l0_0.length c0_0] 26 (0, 0)) (by (with_reducible repeat (first | refine blk_drewN ?_ _ | refine blk_drew ?_ | refine blk_alloc ?_ _)); exact BK169.out)) : gb170 ≠ gb169)); clear HO0_0; clear BK169; clear HB; have HO0_0 := n0_; have BK169 := n1_; have HB := n2_; have BK170 := n3_; have GW170 := n4_; have GE170 := n5_; have NB169_170 := n6_; have NB170_169 := n7_; clear n0_ n1_ n2_ n3_ n4_ n5_ n6_ n7_; clear hb hbox hg; have hnb6 := NB170_169.out; have hnc6 := NB169_170.out; have hcz7_0 : w5.cell? ⟨gb170, 0, none⟩ = some (.slice none 0 0) := (blk_cell BK170.out 0).trans rfl; have hfz7_0 := blk_frozen BK170.out 0))
    refine bodyPost_ret (results_ct rfl _ _ gb170 26 #[.slice none 0 0] (0, 0) _ rfl (by (with_reducible repeat (first | refine blk_drewN ?_ _ | refine blk_drew ?_ | refine blk_alloc ?_ _)); refine blk_put (cs := #[.slice none 0 0]) ?_ 0 _ rfl; (with_reducible repeat (first | refine blk_drewN ?_ _ | refine blk_drew ?_ | refine blk_alloc ?_ _)); exact BK170.out) Tryd.underlying26 rfl (by kernel_rfl)) rfl ?_
    exact ⟨_, by first | rfl | (simp [errW_none, errW_some] <;> rfl) | (simp [*, errW_none, errW_some] <;> rfl), Kd.V_mono (Kd.R_V (base := w.heap.size) (by first | exact Kd.R_nil _ _ _ _ (fun _ => False) | exact Kd.R_nil _ _ _ _ _ | exact Kd.N_nil _ _ _ _ _ | exact Kd.V_nil _ _ _ _ _ | exact Kd.Q_nil _ _ _ _ _ | exact Kd.S_nil _ _ _ _ _)) (fun k_ hk => by first | exact False.elim hk | exact ⟨(.inr (hk.1)), hk.2⟩ | exact (.inr (hk))), by repeat (first | (with_reducible first | exact HB.out | apply below_alloc | apply pw_below_drewN | apply below_drew1 | refine below_set ?_ GE169.out | refine below_set ?_ GE170.out) | exact HB.out)⟩
  · rw [if_neg c3] at H
    have c3b0 : decide (a1 < 0) = false := decide_eq_false c3
    clear c3
    by_cases c8 : a1 = 0
    · rw [if_pos c8] at H
      have c8b0 : (a1 == 0) = true := beq_iff_eq.mpr c8
      have c8b1 : (a1 != 0) = false := bne_eq_false_iff_eq.mpr c8
      clear c8
      replace H := Option.bind_eq_some_iff.mp H
      obtain ⟨t171, A90, H⟩ := H
      replace H : (some (t171, 0)) = some (r1, r2) := H
      have A9 := Aside0.mk A90
      clear A90
      simp only [Option.some.injEq, Prod.mk.injEq] at H
      obtain ⟨rfl, rfl⟩ := H
      go_enter Tryd.func38, Tryd.ntmps38
      go_wp2_with (first | ((with_reducible refine gate_dst (N := 2) rfl ?_); refine box_event ?hg (N := 2) ?hd (cs := #[.slice A0_0 l0_0.length c0_0]) (t := 26) ?hr ?_; (case hd => rfl); (case hg => rfl); (case hr => first | (go_simp; done) | (go_simp; rfl)); intro gb169 hg w10 hbox hb; have n0_ := Aside0.mk (Kd.V_below (Kd.V_elderB (by (with_reducible repeat (first | apply Kd.V_alloc | apply Kd.V_drewN | apply Kd.V_drew)); exact HO0_0.out) gb169 (Nat.le_of_eq hg.symm)) hb); have n1_ := Aside0.mk (below_step (by repeat (first | (with_reducible first | exact HB.out | apply below_alloc | apply pw_below_drewN | apply below_drew1) | exact HB.out)) hb); have n2_ := Aside0.mk (hbox); have n3_ := Aside0.mk ((by rw [hg]; exact (below_size (by repeat (first | (with_reducible first | exact HB.out | apply below_alloc | apply pw_below_drewN | apply below_drew1) | exact HB.out))) : w.heap.size ≤ gb169)); have n4_ := Aside0.mk ((by rw [hg]; exact (below_size (by repeat (first | (with_reducible first | exact HB.out | apply below_alloc | apply pw_below_drewN | apply below_drew1) | exact HB.out))) : w.heap.size ≤ gb169)); clear HO0_0; clear HB; have HO0_0 := n0_; have HB := n1_; have BK169 := n2_; have GW169 := n3_; have GE169 := n4_; clear n0_ n1_ n2_ n3_ n4_; clear hb hbox hg) | ((with_reducible refine gate_dst (N := 4) rfl ?_); refine box_event ?hg (N := 4) ?hd (cs := #[.slice none 0 0]) (t := 26) ?hr ?_; (case hd => rfl); (case hg => rfl); (case hr => first | (go_simp; done) | (go_simp; rfl)); intro gb170 hg w11 hbox hb; have n0_ := Aside0.mk (Kd.V_below (Kd.V_elderB (by (with_reducible repeat (first | apply Kd.V_alloc | apply Kd.V_drewN | apply Kd.V_drew)); exact HO0_0.out) gb170 (Nat.le_of_eq hg.symm)) hb); have n1_ := Aside0.mk (blk_below (g := gb169) (o := .cells #[.slice A0_0 l0_0.length c0_0] 26 (0, 0)) (by (with_reducible repeat (first | refine blk_drewN ?_ _ | refine blk_drew ?_ | refine blk_alloc ?_ _)); exact BK169.out) hb); have n2_ := Aside0.mk (below_step (by repeat (first | (with_reducible first | exact HB.out | apply below_alloc | apply pw_below_drewN | apply below_drew1 | refine below_set ?_ GE169.out) | exact HB.out)) hb); have n3_ := Aside0.mk (hbox); have n4_ := Aside0.mk ((by rw [hg]; exact (below_size (by repeat (first | (with_reducible first | exact HB.out | apply below_alloc | apply pw_below_drewN | apply below_drew1 | refine below_set ?_ GE169.out) | exact HB.out))) : w.heap.size ≤ gb170)); have n5_ := Aside0.mk ((by rw [hg]; exact (below_size (by repeat (first | (with_reducible first | exact HB.out | apply below_alloc | apply pw_below_drewN | apply below_drew1 | refine below_set ?_ GE169.out) | exact HB.out))) : w.heap.size ≤ gb170)); have n6_ := Aside0.mk ((by rw [hg]; exact Nat.ne_of_lt (blk_lt (g := gb169) (o := .cells #[.slice A0_0 l0_0.length c0_0] 26 (0, 0)) (by (with_reducible repeat (first | refine blk_drewN ?_ _ | refine blk_drew ?_ | refine blk_alloc ?_ _)); exact BK169.out)) : gb169 ≠ gb170)); have n7_ := Aside0.mk ((by rw [hg]; exact Nat.ne_of_gt (blk_lt (g := gb169) (o := .cells #[.slice A0_0 l0_0.length c0_0] 26 (0, 0)) (by (with_reducible repeat (first | refine blk_drewN ?_ _ | refine blk_drew ?_ | refine blk_alloc ?_ _)); exact BK169.out)) : gb170 ≠ gb169)); clear HO0_0; clear BK169; clear HB; have HO0_0 := n0_; have BK169 := n1_; have HB := n2_; have BK170 := n3_; have GW170 := n4_; have GE170 := n5_; have NB169_170 := n6_; have NB170_169 := n7_; clear n0_ n1_ n2_ n3_ n4_ n5_ n6_ n7_; clear hb hbox hg) | ((with_reducible refine gate_callee (f := 48) rfl ?_); refine goesL_ (some 15) rfl rfl Tryd.func48 (by kernel_rfl) rfl #[.int .u64 1] rfl (by (try simp only [List.map_toArray, List.map_cons, List.map_nil]); first | done | rfl | (simp only [List.length_drop, List.length_take]; rfl)) ?_; (with_reducible refine (nat_of.calls k 1 t171 _ A9.out).mono ?_); rintro e w12 ⟨v172, rfl, ho0, hb⟩; refine ⟨_, rfl, ?_⟩; have n0_ := Aside0.mk (Kd.V_below (by (with_reducible repeat (first | apply Kd.V_alloc | apply Kd.V_drewN | apply Kd.V_drew)); exact HO0_0.out) hb); have n1_ := Aside0.mk (Kd.V_lower (Kd.V_mono (ok' := fun k_ => (P0_0_ k_ ∨ w.heap.size ≤ k_) ∧ k_ ≠ gb169 ∧ k_ ≠ gb170) ho0 (fun k_ hk_ => ⟨(.inr (Nat.le_trans (below_size (by repeat (first | (with_reducible first | exact HB.out | apply below_alloc | apply pw_below_drewN | apply below_drew1 | refine below_set ?_ GE169.out | refine below_set ?_ GE170.out) | exact HB.out))) hk_)), (Kd.freshB (g := gb169) (o := .cells #[.slice A0_0 l0_0.length c0_0] 26 (0, 0)) (by (with_reducible repeat (first | refine blk_drewN ?_ _ | refine blk_drew ?_ | refine blk_alloc ?_ _)); exact BK169.out) k_ hk_), (Kd.freshB (g := gb170) (o := .cells #[.slice none 0 0] 26 (0, 0)) (by (with_reducible repeat (first | refine blk_drewN ?_ _ | refine blk_drew ?_ | refine blk_alloc ?_ _)); exact BK170.out) k_ hk_)⟩)) (below_size (by repeat (first | (with_reducible first | exact HB.out | apply below_alloc | apply pw_below_drewN | apply below_drew1 | refine below_set ?_ GE169.out | refine below_set ?_ GE170.out) | exact HB.out)))); have n2_ := Aside0.mk (blk_below (g := gb169) (o := .cells #[.slice A0_0 l0_0.length c0_0] 26 (0, 0)) (by (with_reducible repeat (first | refine blk_drewN ?_ _ | refine blk_drew ?_ | refine blk_alloc ?_ _)); exact BK169.out) hb); have n3_ := Aside0.mk (blk_below (g := gb170) (o := .cells #[.slice none 0 0] 26 (0, 0)) (by (with_reducible repeat (first | refine blk_drewN ?_ _ | refine blk_drew ?_ | refine blk_alloc ?_ _)); exact BK170.out) hb); have n4_ := Aside0.mk (below_step (by repeat (first | (with_reducible first | exact HB.out | apply below_alloc | apply pw_below_drewN | apply below_drew1 | refine below_set ?_ GE169.out | refine below_set ?_ GE170.out) | exact HB.out)) hb); clear HO0_0; clear BK169; clear BK170; clear HB; have HO0_0 := n0_; have HO173 := n1_; have BK169 := n2_; have BK170 := n3_; have HB := n4_; clear n0_ n1_ n2_ n3_ n4_; (try clear hb); (try clear hb2); (try clear hk); (try clear hi); (try clear ho0); obtain ⟨Ao13, co13, eo13⟩ := Kd.V_slice HO173.out; subst eo13; have hnb14 := NB170_169.out; have hnc14 := NB169_170.out; have hcz15_0 : w12.cell? ⟨gb170, 0, none⟩ = some (.slice none 0 0) := (blk_cell BK170.out 0).trans rfl; have hfz15_0 := blk_frozen BK170.out 0))
      refine bodyPost_ret (results_ct rfl _ _ gb170 26 #[.slice Ao13 t171.length co13] (0, 0) _ rfl (by (with_reducible repeat (first | refine blk_drewN ?_ _ | refine blk_drew ?_ | refine blk_alloc ?_ _)); refine blk_put (cs := #[.slice none 0 0]) ?_ 0 _ rfl; (with_reducible repeat (first | refine blk_drewN ?_ _ | refine blk_drew ?_ | refine blk_alloc ?_ _)); exact BK170.out) Tryd.underlying26 rfl (by kernel_rfl)) rfl ?_
      exact ⟨_, by first | rfl | (simp [errW_none, errW_some] <;> rfl) | (simp [*, errW_none, errW_some] <;> rfl), by (with_reducible repeat (first | apply Kd.V_alloc | apply Kd.V_drewN | apply Kd.V_drew)); exact Kd.V_mono (Kd.V_far (p := ⟨gb170, 0, none⟩) (Kd.V_mono HO173.out (fun k_ hk => (⟨hk, hk.2.2⟩ : _ ∧ k_ ≠ gb170))) (fun _ hk => hk.2) (.slice Ao13 t171.length co13)) (fun _ hk => hk.1.1), by repeat (first | (with_reducible first | exact HB.out | apply below_alloc | apply pw_below_drewN | apply below_drew1 | refine below_set ?_ GE169.out | refine below_set ?_ GE170.out) | exact HB.out)⟩
    · rw [if_neg c8] at H
      have c8b0 : (a1 == 0) = false := beq_eq_false_iff_ne.mpr c8
      have c8b1 : (a1 != 0) = true := bne_iff_ne.mpr c8
      replace H := Option.bind_eq_some_iff.mp H
      obtain ⟨t174, A160, H⟩ := H
      replace H : (if t174 < 2 then (some (l0_0, 0)) else (if a1 > 2147483647 then (some (([] : List Int), 41)) else ((nat_Nat_Bits.f l0_0).bind fun t175 => (if (wrap64 ((wrap64 (t175 - 1)) * a1)) ≥ 65536 then (some (([] : List Int), 41)) else ((nat_of.f k 1).bind fun t176 => (nat_Nat_Power.l0 k a1 0 l0_0 t176)))))) = some (r1, r2) := H
      have A16 := Aside0.mk A160
      clear A160
      by_cases c17 : t174 < 2
      · rw [if_pos c17] at H
        have c17b0 : decide (t174 < 2) = true := decide_eq_true c17
        clear c17
        simp only [Option.some.injEq, Prod.mk.injEq] at H
        obtain ⟨rfl, rfl⟩ := H
        go_enter Tryd.func38, Tryd.ntmps38
        go_wp2_with (first | ((with_reducible refine gate_dst (N := 2) rfl ?_); refine box_event ?hg (N := 2) ?hd (cs := #[.slice A0_0 l0_0.length c0_0]) (t := 26) ?hr ?_; (case hd => rfl); (case hg => rfl); (case hr => first | (go_simp; done) | (go_simp; rfl)); intro gb169 hg w18 hbox hb; have n0_ := Aside0.mk (Kd.V_below (Kd.V_elderB (by (with_reducible repeat (first | apply Kd.V_alloc | apply Kd.V_drewN | apply Kd.V_drew)); exact HO0_0.out) gb169 (Nat.le_of_eq hg.symm)) hb); have n1_ := Aside0.mk (below_step (by repeat (first | (with_reducible first | exact HB.out | apply below_alloc | apply pw_below_drewN | apply below_drew1) | exact HB.out)) hb); have n2_ := Aside0.mk (hbox); have n3_ := Aside0.mk ((by rw [hg]; exact (below_size (by repeat (first | (with_reducible first | exact HB.out | apply below_alloc | apply pw_below_drewN | apply below_drew1) | exact HB.out))) : w.heap.size ≤ gb169)); have n4_ := Aside0.mk ((by rw [hg]; exact (below_size (by repeat (first | (with_reducible first | exact HB.out | apply below_alloc | apply pw_below_drewN | apply below_drew1) | exact HB.out))) : w.heap.size ≤ gb169)); clear HO0_0; clear HB; have HO0_0 := n0_; have HB := n1_; have BK169 := n2_; have GW169 := n3_; have GE169 := n4_; clear n0_ n1_ n2_ n3_ n4_; clear hb hbox hg) | ((with_reducible refine gate_dst (N := 4) rfl ?_); refine box_event ?hg (N := 4) ?hd (cs := #[.slice none 0 0]) (t := 26) ?hr ?_; (case hd => rfl); (case hg => rfl); (case hr => first | (go_simp; done) | (go_simp; rfl)); intro gb170 hg w19 hbox hb; have n0_ := Aside0.mk (Kd.V_below (Kd.V_elderB (by (with_reducible repeat (first | apply Kd.V_alloc | apply Kd.V_drewN | apply Kd.V_drew)); exact HO0_0.out) gb170 (Nat.le_of_eq hg.symm)) hb); have n1_ := Aside0.mk (blk_below (g := gb169) (o := .cells #[.slice A0_0 l0_0.length c0_0] 26 (0, 0)) (by (with_reducible repeat (first | refine blk_drewN ?_ _ | refine blk_drew ?_ | refine blk_alloc ?_ _)); exact BK169.out) hb); have n2_ := Aside0.mk (below_step (by repeat (first | (with_reducible first | exact HB.out | apply below_alloc | apply pw_below_drewN | apply below_drew1 | refine below_set ?_ GE169.out) | exact HB.out)) hb); have n3_ := Aside0.mk (hbox); have n4_ := Aside0.mk ((by rw [hg]; exact (below_size (by repeat (first | (with_reducible first | exact HB.out | apply below_alloc | apply pw_below_drewN | apply below_drew1 | refine below_set ?_ GE169.out) | exact HB.out))) : w.heap.size ≤ gb170)); have n5_ := Aside0.mk ((by rw [hg]; exact (below_size (by repeat (first | (with_reducible first | exact HB.out | apply below_alloc | apply pw_below_drewN | apply below_drew1 | refine below_set ?_ GE169.out) | exact HB.out))) : w.heap.size ≤ gb170)); have n6_ := Aside0.mk ((by rw [hg]; exact Nat.ne_of_lt (blk_lt (g := gb169) (o := .cells #[.slice A0_0 l0_0.length c0_0] 26 (0, 0)) (by (with_reducible repeat (first | refine blk_drewN ?_ _ | refine blk_drew ?_ | refine blk_alloc ?_ _)); exact BK169.out)) : gb169 ≠ gb170)); have n7_ := Aside0.mk ((by rw [hg]; exact Nat.ne_of_gt (blk_lt (g := gb169) (o := .cells #[.slice A0_0 l0_0.length c0_0] 26 (0, 0)) (by (with_reducible repeat (first | refine blk_drewN ?_ _ | refine blk_drew ?_ | refine blk_alloc ?_ _)); exact BK169.out)) : gb170 ≠ gb169)); clear HO0_0; clear BK169; clear HB; have HO0_0 := n0_; have BK169 := n1_; have HB := n2_; have BK170 := n3_; have GW170 := n4_; have GE170 := n5_; have NB169_170 := n6_; have NB170_169 := n7_; clear n0_ n1_ n2_ n3_ n4_ n5_ n6_ n7_; clear hb hbox hg; have hnb20 := NB169_170.out; have hnc20 := NB170_169.out; have hcz21_0 : w19.cell? ⟨gb169, 0, none⟩ = some (.slice A0_0 l0_0.length c0_0) := (blk_cell BK169.out 0).trans rfl; have hfz21_0 := blk_frozen BK169.out 0) | ((with_reducible refine gate_callee (f := 25) rfl ?_); refine goesL_ (some 18) rfl rfl Tryd.func25 (by kernel_rfl) rfl #[.agg #[.slice A0_0 l0_0.length c0_0]] rfl (by (try simp only [List.map_toArray, List.map_cons, List.map_nil]); first | done | rfl | (simp only [List.length_drop, List.length_take]; rfl)) ?_; (with_reducible refine (nat_Nat_Bits.calls _ _ l0_0 t174 _ ?side1 ?side2 A16.out).mono ?_); (case side1 => repeat (first | exact (Kd.V_reads' HO0_0.out).2.2 | (with_reducible refine Kd.C_alloc ?_ _) | (with_reducible refine Kd.C_drewN ?_ _) | (with_reducible refine Kd.C_drew ?_))); (case side2 => exact (Kd.V_reads' HO0_0.out).2.1); rintro e w22 ⟨rfl, hb⟩; refine ⟨_, rfl, ?_⟩; have n0_ := Aside0.mk (Kd.V_below (by (with_reducible repeat (first | apply Kd.V_alloc | apply Kd.V_drewN | apply Kd.V_drew)); exact HO0_0.out) hb); have n1_ := Aside0.mk (blk_below (g := gb169) (o := .cells #[.slice A0_0 l0_0.length c0_0] 26 (0, 0)) (by (with_reducible repeat (first | refine blk_drewN ?_ _ | refine blk_drew ?_ | refine blk_alloc ?_ _)); exact BK169.out) hb); have n2_ := Aside0.mk (blk_below (g := gb170) (o := .cells #[.slice none 0 0] 26 (0, 0)) (by (with_reducible repeat (first | refine blk_drewN ?_ _ | refine blk_drew ?_ | refine blk_alloc ?_ _)); exact BK170.out) hb); have n3_ := Aside0.mk (below_step (by repeat (first | (with_reducible first | exact HB.out | apply below_alloc | apply pw_below_drewN | apply below_drew1 | refine below_set ?_ GE169.out | refine below_set ?_ GE170.out) | exact HB.out)) hb); clear HO0_0; clear BK169; clear BK170; clear HB; have HO0_0 := n0_; have BK169 := n1_; have BK170 := n2_; have HB := n3_; clear n0_ n1_ n2_ n3_; (try clear hb); (try clear hb2); (try clear hk); (try clear hi); have hcz23_0 : w22.cell? ⟨gb169, 0, none⟩ = some (.slice A0_0 l0_0.length c0_0) := (blk_cell BK169.out 0).trans rfl; have hfz23_0 := blk_frozen BK169.out 0; have hcz24_0 : w22.cell? ⟨gb170, 0, none⟩ = some (.slice none 0 0) := (blk_cell BK170.out 0).trans rfl; have hfz24_0 := blk_frozen BK170.out 0))
        refine bodyPost_ret (results_ct rfl _ _ gb170 26 #[.slice A0_0 l0_0.length c0_0] (0, 0) _ rfl (by (with_reducible repeat (first | refine blk_drewN ?_ _ | refine blk_drew ?_ | refine blk_alloc ?_ _)); refine blk_put (cs := #[.slice none 0 0]) ?_ 0 _ rfl; (with_reducible repeat (first | refine blk_drewN ?_ _ | refine blk_drew ?_ | refine blk_alloc ?_ _)); exact BK170.out) Tryd.underlying26 rfl (by kernel_rfl)) rfl ?_
        exact ⟨_, by first | rfl | (simp [errW_none, errW_some] <;> rfl) | (simp [*, errW_none, errW_some] <;> rfl), by (with_reducible repeat (first | apply Kd.V_alloc | apply Kd.V_drewN | apply Kd.V_drew)); exact Kd.V_mono (Kd.V_far (p := ⟨gb170, 0, none⟩) (Kd.V_mono HO0_0.out (fun k_ hk => (⟨hk, hk.2⟩ : _ ∧ k_ ≠ gb170))) (fun _ hk => hk.2) (.slice A0_0 l0_0.length c0_0)) (fun _ hk => hk.1.1.1), by repeat (first | (with_reducible first | exact HB.out | apply below_alloc | apply pw_below_drewN | apply below_drew1 | refine below_set ?_ GE169.out | refine below_set ?_ GE170.out) | exact HB.out)⟩
      · rw [if_neg c17] at H
        have c17b0 : decide (t174 < 2) = false := decide_eq_false c17
        clear c17
        by_cases c25 : a1 > 2147483647
        · rw [if_pos c25] at H
          have c25b0 : decide (2147483647 < a1) = true := decide_eq_true c25
          clear c25
          simp only [Option.some.injEq, Prod.mk.injEq] at H
          obtain ⟨rfl, rfl⟩ := H
          go_enter Tryd.func38, Tryd.ntmps38
          go_wp2_with (first | ((with_reducible refine gate_dst (N := 2) rfl ?_); refine box_event ?hg (N := 2) ?hd (cs := #[.slice A0_0 l0_0.length c0_0]) (t := 26) ?hr ?_; (case hd => rfl); (case hg => rfl); (case hr => first | (go_simp; done) | (go_simp; rfl)); intro gb169 hg w26 hbox hb; have n0_ := Aside0.mk (Kd.V_below (Kd.V_elderB (by (with_reducible repeat (first | apply Kd.V_alloc | apply Kd.V_drewN | apply Kd.V_drew)); exact HO0_0.out) gb169 (Nat.le_of_eq hg.symm)) hb); have n1_ := Aside0.mk (below_step (by repeat (first | (with_reducible first | exact HB.out | apply below_alloc | apply pw_below_drewN | apply below_drew1) | exact HB.out)) hb); have n2_ := Aside0.mk (hbox); have n3_ := Aside0.mk ((by rw [hg]; exact (below_size (by repeat (first | (with_reducible first | exact HB.out | apply below_alloc | apply pw_below_drewN | apply below_drew1) | exact HB.out))) : w.heap.size ≤ gb169)); have n4_ := Aside0.mk ((by rw [hg]; exact (below_size (by repeat (first | (with_reducible first | exact HB.out | apply below_alloc | apply pw_below_drewN | apply below_drew1) | exact HB.out))) : w.heap.size ≤ gb169)); clear HO0_0; clear HB; have HO0_0 := n0_; have HB := n1_; have BK169 := n2_; have GW169 := n3_; have GE169 := n4_; clear n0_ n1_ n2_ n3_ n4_; clear hb hbox hg) | ((with_reducible refine gate_dst (N := 4) rfl ?_); refine box_event ?hg (N := 4) ?hd (cs := #[.slice none 0 0]) (t := 26) ?hr ?_; (case hd => rfl); (case hg => rfl); (case hr => first | (go_simp; done) | (go_simp; rfl)); intro gb170 hg w27 hbox hb; have n0_ := Aside0.mk (Kd.V_below (Kd.V_elderB (by (with_reducible repeat (first | apply Kd.V_alloc | apply Kd.V_drewN | apply Kd.V_drew)); exact HO0_0.out) gb170 (Nat.le_of_eq hg.symm)) hb); have n1_ := Aside0.mk (blk_below (g := gb169) (o := .cells #[.slice A0_0 l0_0.length c0_0] 26 (0, 0)) (by (with_reducible repeat (first | refine blk_drewN ?_ _ | refine blk_drew ?_ | refine blk_alloc ?_ _)); exact BK169.out) hb); have n2_ := Aside0.mk (below_step (by repeat (first | (with_reducible first | exact HB.out | apply below_alloc | apply pw_below_drewN | apply below_drew1 | refine below_set ?_ GE169.out) | exact HB.out)) hb); have n3_ := Aside0.mk (hbox); have n4_ := Aside0.mk ((by rw [hg]; exact (below_size (by repeat (first | (with_reducible first | exact HB.out | apply below_alloc | apply pw_below_drewN | apply below_drew1 | refine below_set ?_ GE169.out) | exact HB.out))) : w.heap.size ≤ gb170)); have n5_ := Aside0.mk ((by rw [hg]; exact (below_size (by repeat (first | (with_reducible first | exact HB.out | apply below_alloc | apply pw_below_drewN | apply below_drew1 | refine below_set ?_ GE169.out) | exact HB.out))) : w.heap.size ≤ gb170)); have n6_ := Aside0.mk ((by rw [hg]; exact Nat.ne_of_lt (blk_lt (g := gb169) (o := .cells #[.slice A0_0 l0_0.length c0_0] 26 (0, 0)) (by (with_reducible repeat (first | refine blk_drewN ?_ _ | refine blk_drew ?_ | refine blk_alloc ?_ _)); exact BK169.out)) : gb169 ≠ gb170)); have n7_ := Aside0.mk ((by rw [hg]; exact Nat.ne_of_gt (blk_lt (g := gb169) (o := .cells #[.slice A0_0 l0_0.length c0_0] 26 (0, 0)) (by (with_reducible repeat (first | refine blk_drewN ?_ _ | refine blk_drew ?_ | refine blk_alloc ?_ _)); exact BK169.out)) : gb170 ≠ gb169)); clear HO0_0; clear BK169; clear HB; have HO0_0 := n0_; have BK169 := n1_; have HB := n2_; have BK170 := n3_; have GW170 := n4_; have GE170 := n5_; have NB169_170 := n6_; have NB170_169 := n7_; clear n0_ n1_ n2_ n3_ n4_ n5_ n6_ n7_; clear hb hbox hg; have hnb28 := NB169_170.out; have hnc28 := NB170_169.out; have hcz29_0 : w27.cell? ⟨gb169, 0, none⟩ = some (.slice A0_0 l0_0.length c0_0) := (blk_cell BK169.out 0).trans rfl; have hfz29_0 := blk_frozen BK169.out 0) | ((with_reducible refine gate_callee (f := 25) rfl ?_); refine goesL_ (some 18) rfl rfl Tryd.func25 (by kernel_rfl) rfl #[.agg #[.slice A0_0 l0_0.length c0_0]] rfl (by (try simp only [List.map_toArray, List.map_cons, List.map_nil]); first | done | rfl | (simp only [List.length_drop, List.length_take]; rfl)) ?_; (with_reducible refine (nat_Nat_Bits.calls _ _ l0_0 t174 _ ?side1 ?side2 A16.out).mono ?_); (case side1 => repeat (first | exact (Kd.V_reads' HO0_0.out).2.2 | (with_reducible refine Kd.C_alloc ?_ _) | (with_reducible refine Kd.C_drewN ?_ _) | (with_reducible refine Kd.C_drew ?_))); (case side2 => exact (Kd.V_reads' HO0_0.out).2.1); rintro e w30 ⟨rfl, hb⟩; refine ⟨_, rfl, ?_⟩; have n0_ := Aside0.mk (Kd.V_below (by (with_reducible repeat (first | apply Kd.V_alloc | apply Kd.V_drewN | apply Kd.V_drew)); exact HO0_0.out) hb); have n1_ := Aside0.mk (blk_below (g := gb169) (o := .cells #[.slice A0_0 l0_0.length c0_0] 26 (0, 0)) (by (with_reducible repeat (first | refine blk_drewN ?_ _ | refine blk_drew ?_ | refine blk_alloc ?_ _)); exact BK169.out) hb); have n2_ := Aside0.mk (blk_below (g := gb170) (o := .cells #[.slice none 0 0] 26 (0, 0)) (by (with_reducible repeat (first | refine blk_drewN ?_ _ | refine blk_drew ?_ | refine blk_alloc ?_ _)); exact BK170.out) hb); have n3_ := Aside0.mk (below_step (by repeat (first | (with_reducible first | exact HB.out | apply below_alloc | apply pw_below_drewN | apply below_drew1 | refine below_set ?_ GE169.out | refine below_set ?_ GE170.out) | exact HB.out)) hb); clear HO0_0; clear BK169; clear BK170; clear HB; have HO0_0 := n0_; have BK169 := n1_; have BK170 := n2_; have HB := n3_; clear n0_ n1_ n2_ n3_; (try clear hb); (try clear hb2); (try clear hk); (try clear hi); have hcz31_0 : w30.cell? ⟨gb170, 0, none⟩ = some (.slice none 0 0) := (blk_cell BK170.out 0).trans rfl; have hfz31_0 := blk_frozen BK170.out 0))
          refine bodyPost_ret (results_ct rfl _ _ gb170 26 #[.slice none 0 0] (0, 0) _ rfl (by (with_reducible repeat (first | refine blk_drewN ?_ _ | refine blk_drew ?_ | refine blk_alloc ?_ _)); refine blk_put (cs := #[.slice none 0 0]) ?_ 0 _ rfl; (with_reducible repeat (first | refine blk_drewN ?_ _ | refine blk_drew ?_ | refine blk_alloc ?_ _)); exact BK170.out) Tryd.underlying26 rfl (by kernel_rfl)) rfl ?_
          exact ⟨_, by first | rfl | (simp [errW_none, errW_some] <;> rfl) | (simp [*, errW_none, errW_some] <;> rfl), Kd.V_mono (Kd.R_V (base := w.heap.size) (by first | exact Kd.R_nil _ _ _ _ (fun _ => False) | exact Kd.R_nil _ _ _ _ _ | exact Kd.N_nil _ _ _ _ _ | exact Kd.V_nil _ _ _ _ _ | exact Kd.Q_nil _ _ _ _ _ | exact Kd.S_nil _ _ _ _ _)) (fun k_ hk => by first | exact False.elim hk | exact ⟨(.inr (hk.1)), hk.2⟩ | exact (.inr (hk))), by repeat (first | (with_reducible first | exact HB.out | apply below_alloc | apply pw_below_drewN | apply below_drew1 | refine below_set ?_ GE169.out | refine below_set ?_ GE170.out) | exact HB.out)⟩
        · rw [if_neg c25] at H
          have c25b0 : decide (2147483647 < a1) = false := decide_eq_false c25
          clear c25
          replace H := Option.bind_eq_some_iff.mp H
          obtain ⟨t175, A320, H⟩ := H
          replace H : (if (wrap64 ((wrap64 (t175 - 1)) * a1)) ≥ 65536 then (some (([] : List Int), 41)) else ((nat_of.f k 1).bind fun t176 => (nat_Nat_Power.l0 k a1 0 l0_0 t176))) = some (r1, r2) := H
          have A32 := Aside0.mk A320
          clear A320
          by_cases c33 : (wrap64 ((wrap64 (t175 - 1)) * a1)) ≥ 65536
          · rw [if_pos c33] at H
            have c33b0 : decide (65536 ≤ (wrap64 ((wrap64 (t175 - 1)) * a1))) = true := decide_eq_true c33
            clear c33
            simp only [Option.some.injEq, Prod.mk.injEq] at H
            obtain ⟨rfl, rfl⟩ := H
            go_enter Tryd.func38, Tryd.ntmps38
            go_wp2_with (first | ((with_reducible refine gate_dst (N := 2) rfl ?_); refine box_event ?hg (N := 2) ?hd (cs := #[.slice A0_0 l0_0.length c0_0]) (t := 26) ?hr ?_; (case hd => rfl); (case hg => rfl); (case hr => first | (go_simp; done) | (go_simp; rfl)); intro gb169 hg w34 hbox hb; have n0_ := Aside0.mk (Kd.V_below (Kd.V_elderB (by (with_reducible repeat (first | apply Kd.V_alloc | apply Kd.V_drewN | apply Kd.V_drew)); exact HO0_0.out) gb169 (Nat.le_of_eq hg.symm)) hb); have n1_ := Aside0.mk (below_step (by repeat (first | (with_reducible first | exact HB.out | apply below_alloc | apply pw_below_drewN | apply below_drew1) | exact HB.out)) hb); have n2_ := Aside0.mk (hbox); have n3_ := Aside0.mk ((by rw [hg]; exact (below_size (by repeat (first | (with_reducible first | exact HB.out | apply below_alloc | apply pw_below_drewN | apply below_drew1) | exact HB.out))) : w.heap.size ≤ gb169)); have n4_ := Aside0.mk ((by rw [hg]; exact (below_size (by repeat (first | (with_reducible first | exact HB.out | apply below_alloc | apply pw_below_drewN | apply below_drew1) | exact HB.out))) : w.heap.size ≤ gb169)); clear HO0_0; clear HB; have HO0_0 := n0_; have HB := n1_; have BK169 := n2_; have GW169 := n3_; have GE169 := n4_; clear n0_ n1_ n2_ n3_ n4_; clear hb hbox hg) | ((with_reducible refine gate_dst (N := 4) rfl ?_); refine box_event ?hg (N := 4) ?hd (cs := #[.slice none 0 0]) (t := 26) ?hr ?_; (case hd => rfl); (case hg => rfl); (case hr => first | (go_simp; done) | (go_simp; rfl)); intro gb170 hg w35 hbox hb; have n0_ := Aside0.mk (Kd.V_below (Kd.V_elderB (by (with_reducible repeat (first | apply Kd.V_alloc | apply Kd.V_drewN | apply Kd.V_drew)); exact HO0_0.out) gb170 (Nat.le_of_eq hg.symm)) hb); have n1_ := Aside0.mk (blk_below (g := gb169) (o := .cells #[.slice A0_0 l0_0.length c0_0] 26 (0, 0)) (by (with_reducible repeat (first | refine blk_drewN ?_ _ | refine blk_drew ?_ | refine blk_alloc ?_ _)); exact BK169.out) hb); have n2_ := Aside0.mk (below_step (by repeat (first | (with_reducible first | exact HB.out | apply below_alloc | apply pw_below_drewN | apply below_drew1 | refine below_set ?_ GE169.out) | exact HB.out)) hb); have n3_ := Aside0.mk (hbox); have n4_ := Aside0.mk ((by rw [hg]; exact (below_size (by repeat (first | (with_reducible first | exact HB.out | apply below_alloc | apply pw_below_drewN | apply below_drew1 | refine below_set ?_ GE169.out) | exact HB.out))) : w.heap.size ≤ gb170)); have n5_ := Aside0.mk ((by rw [hg]; exact (below_size (by repeat (first | (with_reducible first | exact HB.out | apply below_alloc | apply pw_below_drewN | apply below_drew1 | refine below_set ?_ GE169.out) | exact HB.out))) : w.heap.size ≤ gb170)); have n6_ := Aside0.mk ((by rw [hg]; exact Nat.ne_of_lt (blk_lt (g := gb169) (o := .cells #[.slice A0_0 l0_0.length c0_0] 26 (0, 0)) (by (with_reducible repeat (first | refine blk_drewN ?_ _ | refine blk_drew ?_ | refine blk_alloc ?_ _)); exact BK169.out)) : gb169 ≠ gb170)); have n7_ := Aside0.mk ((by rw [hg]; exact Nat.ne_of_gt (blk_lt (g := gb169) (o := .cells #[.slice A0_0 l0_0.length c0_0] 26 (0, 0)) (by (with_reducible repeat (first | refine blk_drewN ?_ _ | refine blk_drew ?_ | refine blk_alloc ?_ _)); exact BK169.out)) : gb170 ≠ gb169)); clear HO0_0; clear BK169; clear HB; have HO0_0 := n0_; have BK169 := n1_; have HB := n2_; have BK170 := n3_; have GW170 := n4_; have GE170 := n5_; have NB169_170 := n6_; have NB170_169 := n7_; clear n0_ n1_ n2_ n3_ n4_ n5_ n6_ n7_; clear hb hbox hg; have hnb36 := NB169_170.out; have hnc36 := NB170_169.out; have hcz37_0 : w35.cell? ⟨gb169, 0, none⟩ = some (.slice A0_0 l0_0.length c0_0) := (blk_cell BK169.out 0).trans rfl; have hfz37_0 := blk_frozen BK169.out 0) | ((with_reducible refine gate_callee (f := 25) rfl ?_); refine goesL_ (some 18) rfl rfl Tryd.func25 (by kernel_rfl) rfl #[.agg #[.slice A0_0 l0_0.length c0_0]] rfl (by (try simp only [List.map_toArray, List.map_cons, List.map_nil]); first | done | rfl | (simp only [List.length_drop, List.length_take]; rfl)) ?_; (with_reducible refine (nat_Nat_Bits.calls _ _ l0_0 t174 _ ?side1 ?side2 A16.out).mono ?_); (case side1 => repeat (first | exact (Kd.V_reads' HO0_0.out).2.2 | (with_reducible refine Kd.C_alloc ?_ _) | (with_reducible refine Kd.C_drewN ?_ _) | (with_reducible refine Kd.C_drew ?_))); (case side2 => exact (Kd.V_reads' HO0_0.out).2.1); rintro e w38 ⟨rfl, hb⟩; refine ⟨_, rfl, ?_⟩; have n0_ := Aside0.mk (Kd.V_below (by (with_reducible repeat (first | apply Kd.V_alloc | apply Kd.V_drewN | apply Kd.V_drew)); exact HO0_0.out) hb); have n1_ := Aside0.mk (blk_below (g := gb169) (o := .cells #[.slice A0_0 l0_0.length c0_0] 26 (0, 0)) (by (with_reducible repeat (first | refine blk_drewN ?_ _ | refine blk_drew ?_ | refine blk_alloc ?_ _)); exact BK169.out) hb); have n2_ := Aside0.mk (blk_below (g := gb170) (o := .cells #[.slice none 0 0] 26 (0, 0)) (by (with_reducible repeat (first | refine blk_drewN ?_ _ | refine blk_drew ?_ | refine blk_alloc ?_ _)); exact BK170.out) hb); have n3_ := Aside0.mk (below_step (by repeat (first | (with_reducible first | exact HB.out | apply below_alloc | apply pw_below_drewN | apply below_drew1 | refine below_set ?_ GE169.out | refine below_set ?_ GE170.out) | exact HB.out)) hb); clear HO0_0; clear BK169; clear BK170; clear HB; have HO0_0 := n0_; have BK169 := n1_; have BK170 := n2_; have HB := n3_; clear n0_ n1_ n2_ n3_; (try clear hb); (try clear hb2); (try clear hk); (try clear hi); have hcz39_0 : w38.cell? ⟨gb169, 0, none⟩ = some (.slice A0_0 l0_0.length c0_0) := (blk_cell BK169.out 0).trans rfl; have hfz39_0 := blk_frozen BK169.out 0) | (go_at_call 25; (with_reducible refine (nat_Nat_Bits.calls _ _ l0_0 t175 _ ?side1 ?side2 A32.out).mono ?_); (case side1 => repeat (first | exact (Kd.V_reads' HO0_0.out).2.2 | (with_reducible refine Kd.C_alloc ?_ _) | (with_reducible refine Kd.C_drewN ?_ _) | (with_reducible refine Kd.C_drew ?_))); (case side2 => exact (Kd.V_reads' HO0_0.out).2.1); rintro e w40 ⟨rfl, hb⟩; have n0_ := Aside0.mk (Kd.V_below (by (with_reducible repeat (first | apply Kd.V_alloc | apply Kd.V_drewN | apply Kd.V_drew)); exact HO0_0.out) hb); have n1_ := Aside0.mk (blk_below (g := gb169) (o := .cells #[.slice A0_0 l0_0.length c0_0] 26 (0, 0)) (by (with_reducible repeat (first | refine blk_drewN ?_ _ | refine blk_drew ?_ | refine blk_alloc ?_ _)); exact BK169.out) hb); have n2_ := Aside0.mk (blk_below (g := gb170) (o := .cells #[.slice none 0 0] 26 (0, 0)) (by (with_reducible repeat (first | refine blk_drewN ?_ _ | refine blk_drew ?_ | refine blk_alloc ?_ _)); exact BK170.out) hb); have n3_ := Aside0.mk (below_step (by repeat (first | (with_reducible first | exact HB.out | apply below_alloc | apply pw_below_drewN | apply below_drew1 | refine below_set ?_ GE169.out | refine below_set ?_ GE170.out) | exact HB.out)) hb); clear HO0_0; clear BK169; clear BK170; clear HB; have HO0_0 := n0_; have BK169 := n1_; have BK170 := n2_; have HB := n3_; clear n0_ n1_ n2_ n3_; (try clear hb); (try clear hb2); (try clear hk); (try clear hi); have hcz41_0 : w40.cell? ⟨gb170, 0, none⟩ = some (.slice none 0 0) := (blk_cell BK170.out 0).trans rfl; have hfz41_0 := blk_frozen BK170.out 0))
            refine bodyPost_ret (results_ct rfl _ _ gb170 26 #[.slice none 0 0] (0, 0) _ rfl (by (with_reducible repeat (first | refine blk_drewN ?_ _ | refine blk_drew ?_ | refine blk_alloc ?_ _)); refine blk_put (cs := #[.slice none 0 0]) ?_ 0 _ rfl; (with_reducible repeat (first | refine blk_drewN ?_ _ | refine blk_drew ?_ | refine blk_alloc ?_ _)); exact BK170.out) Tryd.underlying26 rfl (by kernel_rfl)) rfl ?_
            exact ⟨_, by first | rfl | (simp [errW_none, errW_some] <;> rfl) | (simp [*, errW_none, errW_some] <;> rfl), Kd.V_mono (Kd.R_V (base := w.heap.size) (by first | exact Kd.R_nil _ _ _ _ (fun _ => False) | exact Kd.R_nil _ _ _ _ _ | exact Kd.N_nil _ _ _ _ _ | exact Kd.V_nil _ _ _ _ _ | exact Kd.Q_nil _ _ _ _ _ | exact Kd.S_nil _ _ _ _ _)) (fun k_ hk => by first | exact False.elim hk | exact ⟨(.inr (hk.1)), hk.2⟩ | exact (.inr (hk))), by repeat (first | (with_reducible first | exact HB.out | apply below_alloc | apply pw_below_drewN | apply below_drew1 | refine below_set ?_ GE169.out | refine below_set ?_ GE170.out) | exact HB.out)⟩
          · rw [if_neg c33] at H
            have c33b0 : decide (65536 ≤ (wrap64 ((wrap64 (t175 - 1)) * a1))) = false := decide_eq_false c33
            clear c33
            replace H := Option.bind_eq_some_iff.mp H
            obtain ⟨t176, A420, H⟩ := H
            replace H : (nat_Nat_Power.l0 k a1 0 l0_0 t176) = some (r1, r2) := H
            have A42 := Aside0.mk A420
            clear A420
            have H' := Aside0.mk H
            clear H
            go_enter Tryd.func38, Tryd.ntmps38
            go_wp2_with (first | ((with_reducible refine gate_dst (N := 2) rfl ?_); refine box_event ?hg (N := 2) ?hd (cs := #[.slice A0_0 l0_0.length c0_0]) (t := 26) ?hr ?_; (case hd => rfl); (case hg => rfl); (case hr => first | (go_simp; done) | (go_simp; rfl)); intro gb169 hg w43 hbox hb; have n0_ := Aside0.mk (Kd.V_below (Kd.V_elderB (by (with_reducible repeat (first | apply Kd.V_alloc | apply Kd.V_drewN | apply Kd.V_drew)); exact HO0_0.out) gb169 (Nat.le_of_eq hg.symm)) hb); have n1_ := Aside0.mk (below_step (by repeat (first | (with_reducible first | exact HB.out | apply below_alloc | apply pw_below_drewN | apply below_drew1) | exact HB.out)) hb); have n2_ := Aside0.mk (hbox); have n3_ := Aside0.mk ((by rw [hg]; exact (below_size (by repeat (first | (with_reducible first | exact HB.out | apply below_alloc | apply pw_below_drewN | apply below_drew1) | exact HB.out))) : w.heap.size ≤ gb169)); have n4_ := Aside0.mk ((by rw [hg]; exact (below_size (by repeat (first | (with_reducible first | exact HB.out | apply below_alloc | apply pw_below_drewN | apply below_drew1) | exact HB.out))) : w.heap.size ≤ gb169)); clear HO0_0; clear HB; have HO0_0 := n0_; have HB := n1_; have BK169 := n2_; have GW169 := n3_; have GE169 := n4_; clear n0_ n1_ n2_ n3_ n4_; clear hb hbox hg) | ((with_reducible refine gate_dst (N := 4) rfl ?_); refine box_event ?hg (N := 4) ?hd (cs := #[.slice none 0 0]) (t := 26) ?hr ?_; (case hd => rfl); (case hg => rfl); (case hr => first | (go_simp; done) | (go_simp; rfl)); intro gb170 hg w44 hbox hb; have n0_ := Aside0.mk (Kd.V_below (Kd.V_elderB (by (with_reducible repeat (first | apply Kd.V_alloc | apply Kd.V_drewN | apply Kd.V_drew)); exact HO0_0.out) gb170 (Nat.le_of_eq hg.symm)) hb); have n1_ := Aside0.mk (blk_below (g := gb169) (o := .cells #[.slice A0_0 l0_0.length c0_0] 26 (0, 0)) (by (with_reducible repeat (first | refine blk_drewN ?_ _ | refine blk_drew ?_ | refine blk_alloc ?_ _)); exact BK169.out) hb); have n2_ := Aside0.mk (below_step (by repeat (first | (with_reducible first | exact HB.out | apply below_alloc | apply pw_below_drewN | apply below_drew1 | refine below_set ?_ GE169.out) | exact HB.out)) hb); have n3_ := Aside0.mk (hbox); have n4_ := Aside0.mk ((by rw [hg]; exact (below_size (by repeat (first | (with_reducible first | exact HB.out | apply below_alloc | apply pw_below_drewN | apply below_drew1 | refine below_set ?_ GE169.out) | exact HB.out))) : w.heap.size ≤ gb170)); have n5_ := Aside0.mk ((by rw [hg]; exact (below_size (by repeat (first | (with_reducible first | exact HB.out | apply below_alloc | apply pw_below_drewN | apply below_drew1 | refine below_set ?_ GE169.out) | exact HB.out))) : w.heap.size ≤ gb170)); have n6_ := Aside0.mk ((by rw [hg]; exact Nat.ne_of_lt (blk_lt (g := gb169) (o := .cells #[.slice A0_0 l0_0.length c0_0] 26 (0, 0)) (by (with_reducible repeat (first | refine blk_drewN ?_ _ | refine blk_drew ?_ | refine blk_alloc ?_ _)); exact BK169.out)) : gb169 ≠ gb170)); have n7_ := Aside0.mk ((by rw [hg]; exact Nat.ne_of_gt (blk_lt (g := gb169) (o := .cells #[.slice A0_0 l0_0.length c0_0] 26 (0, 0)) (by (with_reducible repeat (first | refine blk_drewN ?_ _ | refine blk_drew ?_ | refine blk_alloc ?_ _)); exact BK169.out)) : gb170 ≠ gb169)); clear HO0_0; clear BK169; clear HB; have HO0_0 := n0_; have BK169 := n1_; have HB := n2_; have BK170 := n3_; have GW170 := n4_; have GE170 := n5_; have NB169_170 := n6_; have NB170_169 := n7_; clear n0_ n1_ n2_ n3_ n4_ n5_ n6_ n7_; clear hb hbox hg; have hnb45 := NB169_170.out; have hnc45 := NB170_169.out; have hcz46_0 : w44.cell? ⟨gb169, 0, none⟩ = some (.slice A0_0 l0_0.length c0_0) := (blk_cell BK169.out 0).trans rfl; have hfz46_0 := blk_frozen BK169.out 0) | ((with_reducible refine gate_callee (f := 25) rfl ?_); refine goesL_ (some 18) rfl rfl Tryd.func25 (by kernel_rfl) rfl #[.agg #[.slice A0_0 l0_0.length c0_0]] rfl (by (try simp only [List.map_toArray, List.map_cons, List.map_nil]); first | done | rfl | (simp only [List.length_drop, List.length_take]; rfl)) ?_; (with_reducible refine (nat_Nat_Bits.calls _ _ l0_0 t174 _ ?side1 ?side2 A16.out).mono ?_); (case side1 => repeat (first | exact (Kd.V_reads' HO0_0.out).2.2 | (with_reducible refine Kd.C_alloc ?_ _) | (with_reducible refine Kd.C_drewN ?_ _) | (with_reducible refine Kd.C_drew ?_))); (case side2 => exact (Kd.V_reads' HO0_0.out).2.1); rintro e w47 ⟨rfl, hb⟩; refine ⟨_, rfl, ?_⟩; have n0_ := Aside0.mk (Kd.V_below (by (with_reducible repeat (first | apply Kd.V_alloc | apply Kd.V_drewN | apply Kd.V_drew)); exact HO0_0.out) hb); have n1_ := Aside0.mk (blk_below (g := gb169) (o := .cells #[.slice A0_0 l0_0.length c0_0] 26 (0, 0)) (by (with_reducible repeat (first | refine blk_drewN ?_ _ | refine blk_drew ?_ | refine blk_alloc ?_ _)); exact BK169.out) hb); have n2_ := Aside0.mk (blk_below (g := gb170) (o := .cells #[.slice none 0 0] 26 (0, 0)) (by (with_reducible repeat (first | refine blk_drewN ?_ _ | refine blk_drew ?_ | refine blk_alloc ?_ _)); exact BK170.out) hb); have n3_ := Aside0.mk (below_step (by repeat (first | (with_reducible first | exact HB.out | apply below_alloc | apply pw_below_drewN | apply below_drew1 | refine below_set ?_ GE169.out | refine below_set ?_ GE170.out) | exact HB.out)) hb); clear HO0_0; clear BK169; clear BK170; clear HB; have HO0_0 := n0_; have BK169 := n1_; have BK170 := n2_; have HB := n3_; clear n0_ n1_ n2_ n3_; (try clear hb); (try clear hb2); (try clear hk); (try clear hi); have hcz48_0 : w47.cell? ⟨gb169, 0, none⟩ = some (.slice A0_0 l0_0.length c0_0) := (blk_cell BK169.out 0).trans rfl; have hfz48_0 := blk_frozen BK169.out 0) | (go_at_call 25; (with_reducible refine (nat_Nat_Bits.calls _ _ l0_0 t175 _ ?side1 ?side2 A32.out).mono ?_); (case side1 => repeat (first | exact (Kd.V_reads' HO0_0.out).2.2 | (with_reducible refine Kd.C_alloc ?_ _) | (with_reducible refine Kd.C_drewN ?_ _) | (with_reducible refine Kd.C_drew ?_))); (case side2 => exact (Kd.V_reads' HO0_0.out).2.1); rintro e w49 ⟨rfl, hb⟩; have n0_ := Aside0.mk (Kd.V_below (by (with_reducible repeat (first | apply Kd.V_alloc | apply Kd.V_drewN | apply Kd.V_drew)); exact HO0_0.out) hb); have n1_ := Aside0.mk (blk_below (g := gb169) (o := .cells #[.slice A0_0 l0_0.length c0_0] 26 (0, 0)) (by (with_reducible repeat (first | refine blk_drewN ?_ _ | refine blk_drew ?_ | refine blk_alloc ?_ _)); exact BK169.out) hb); have n2_ := Aside0.mk (blk_below (g := gb170) (o := .cells #[.slice none 0 0] 26 (0, 0)) (by (with_reducible repeat (first | refine blk_drewN ?_ _ | refine blk_drew ?_ | refine blk_alloc ?_ _)); exact BK170.out) hb); have n3_ := Aside0.mk (below_step (by repeat (first | (with_reducible first | exact HB.out | apply below_alloc | apply pw_below_drewN | apply below_drew1 | refine below_set ?_ GE169.out | refine below_set ?_ GE170.out) | exact HB.out)) hb); clear HO0_0; clear BK169; clear BK170; clear HB; have HO0_0 := n0_; have BK169 := n1_; have BK170 := n2_; have HB := n3_; clear n0_ n1_ n2_ n3_; (try clear hb); (try clear hb2); (try clear hk); (try clear hi)) | ((with_reducible refine gate_callee (f := 48) rfl ?_); refine goesL_ (some 33) rfl rfl Tryd.func48 (by kernel_rfl) rfl #[.int .u64 1] rfl (by (try simp only [List.map_toArray, List.map_cons, List.map_nil]); first | done | rfl | (simp only [List.length_drop, List.length_take]; rfl)) ?_; (with_reducible refine (nat_of.calls k 1 t176 _ A42.out).mono ?_); rintro e w50 ⟨v177, rfl, ho0, hb⟩; refine ⟨_, rfl, ?_⟩; have n0_ := Aside0.mk (Kd.V_below (by (with_reducible repeat (first | apply Kd.V_alloc | apply Kd.V_drewN | apply Kd.V_drew)); exact HO0_0.out) hb); have n1_ := Aside0.mk (Kd.V_lower (Kd.V_mono (ok' := fun k_ => (P0_0_ k_ ∨ w.heap.size ≤ k_) ∧ k_ ≠ gb169 ∧ k_ ≠ gb170) ho0 (fun k_ hk_ => ⟨(.inr (Nat.le_trans (below_size (by repeat (first | (with_reducible first | exact HB.out | apply below_alloc | apply pw_below_drewN | apply below_drew1 | refine below_set ?_ GE169.out | refine below_set ?_ GE170.out) | exact HB.out))) hk_)), (Kd.freshB (g := gb169) (o := .cells #[.slice A0_0 l0_0.length c0_0] 26 (0, 0)) (by (with_reducible repeat (first | refine blk_drewN ?_ _ | refine blk_drew ?_ | refine blk_alloc ?_ _)); exact BK169.out) k_ hk_), (Kd.freshB (g := gb170) (o := .cells #[.slice none 0 0] 26 (0, 0)) (by (with_reducible repeat (first | refine blk_drewN ?_ _ | refine blk_drew ?_ | refine blk_alloc ?_ _)); exact BK170.out) k_ hk_)⟩)) (below_size (by repeat (first | (with_reducible first | exact HB.out | apply below_alloc | apply pw_below_drewN | apply below_drew1 | refine below_set ?_ GE169.out | refine below_set ?_ GE170.out) | exact HB.out)))); have n2_ := Aside0.mk (blk_below (g := gb169) (o := .cells #[.slice A0_0 l0_0.length c0_0] 26 (0, 0)) (by (with_reducible repeat (first | refine blk_drewN ?_ _ | refine blk_drew ?_ | refine blk_alloc ?_ _)); exact BK169.out) hb); have n3_ := Aside0.mk (blk_below (g := gb170) (o := .cells #[.slice none 0 0] 26 (0, 0)) (by (with_reducible repeat (first | refine blk_drewN ?_ _ | refine blk_drew ?_ | refine blk_alloc ?_ _)); exact BK170.out) hb); have n4_ := Aside0.mk (below_step (by repeat (first | (with_reducible first | exact HB.out | apply below_alloc | apply pw_below_drewN | apply below_drew1 | refine below_set ?_ GE169.out | refine below_set ?_ GE170.out) | exact HB.out)) hb); clear HO0_0; clear BK169; clear BK170; clear HB; have HO0_0 := n0_; have HO178 := n1_; have BK169 := n2_; have BK170 := n3_; have HB := n4_; clear n0_ n1_ n2_ n3_ n4_; (try clear hb); (try clear hb2); (try clear hk); (try clear hi); (try clear ho0)) | ((with_reducible refine gate_dst (N := 6) rfl ?_); refine box_event ?hg (N := 6) ?hd (cs := #[.slice none 0 0]) (t := 26) ?hr ?_; (case hd => rfl); (case hg => rfl); (case hr => first | (go_simp; done) | (go_simp; rfl)); intro gb179 hg w51 hbox hb; have n0_ := Aside0.mk (Kd.V_below (Kd.V_elderB (by (with_reducible repeat (first | apply Kd.V_alloc | apply Kd.V_drewN | apply Kd.V_drew)); exact HO0_0.out) gb179 (Nat.le_of_eq hg.symm)) hb); have n1_ := Aside0.mk (Kd.V_below (Kd.V_elderB (by (with_reducible repeat (first | apply Kd.V_alloc | apply Kd.V_drewN | apply Kd.V_drew)); exact HO178.out) gb179 (Nat.le_of_eq hg.symm)) hb); have n2_ := Aside0.mk (blk_below (g := gb169) (o := .cells #[.slice A0_0 l0_0.length c0_0] 26 (0, 0)) (by (with_reducible repeat (first | refine blk_drewN ?_ _ | refine blk_drew ?_ | refine blk_alloc ?_ _)); exact BK169.out) hb); have n3_ := Aside0.mk (blk_below (g := gb170) (o := .cells #[.slice none 0 0] 26 (0, 0)) (by (with_reducible repeat (first | refine blk_drewN ?_ _ | refine blk_drew ?_ | refine blk_alloc ?_ _)); exact BK170.out) hb); have n4_ := Aside0.mk (below_step (by repeat (first | (with_reducible first | exact HB.out | apply below_alloc | apply pw_below_drewN | apply below_drew1 | refine below_set ?_ GE169.out | refine below_set ?_ GE170.out) | exact HB.out)) hb); have n5_ := Aside0.mk (hbox); have n6_ := Aside0.mk ((by rw [hg]; exact (below_size (by repeat (first | (with_reducible first | exact HB.out | apply below_alloc | apply pw_below_drewN | apply below_drew1 | refine below_set ?_ GE169.out | refine below_set ?_ GE170.out) | exact HB.out))) : w.heap.size ≤ gb179)); have n7_ := Aside0.mk ((by rw [hg]; exact (below_size (by repeat (first | (with_reducible first | exact HB.out | apply below_alloc | apply pw_below_drewN | apply below_drew1 | refine below_set ?_ GE169.out | refine below_set ?_ GE170.out) | exact HB.out))) : w.heap.size ≤ gb179)); have n8_ := Aside0.mk ((by rw [hg]; exact Nat.ne_of_lt (blk_lt (g := gb169) (o := .cells #[.slice A0_0 l0_0.length c0_0] 26 (0, 0)) (by (with_reducible repeat (first | refine blk_drewN ?_ _ | refine blk_drew ?_ | refine blk_alloc ?_ _)); exact BK169.out)) : gb169 ≠ gb179)); have n9_ := Aside0.mk ((by rw [hg]; exact Nat.ne_of_gt (blk_lt (g := gb169) (o := .cells #[.slice A0_0 l0_0.length c0_0] 26 (0, 0)) (by (with_reducible repeat (first | refine blk_drewN ?_ _ | refine blk_drew ?_ | refine blk_alloc ?_ _)); exact BK169.out)) : gb179 ≠ gb169)); have n10_ := Aside0.mk ((by rw [hg]; exact Nat.ne_of_lt (blk_lt (g := gb170) (o := .cells #[.slice none 0 0] 26 (0, 0)) (by (with_reducible repeat (first | refine blk_drewN ?_ _ | refine blk_drew ?_ | refine blk_alloc ?_ _)); exact BK170.out)) : gb170 ≠ gb179)); have n11_ := Aside0.mk ((by rw [hg]; exact Nat.ne_of_gt (blk_lt (g := gb170) (o := .cells #[.slice none 0 0] 26 (0, 0)) (by (with_reducible repeat (first | refine blk_drewN ?_ _ | refine blk_drew ?_ | refine blk_alloc ?_ _)); exact BK170.out)) : gb179 ≠ gb170)); clear HO0_0; clear HO178; clear BK169; clear BK170; clear HB; have HO0_0 := n0_; have HO178 := n1_; have BK169 := n2_; have BK170 := n3_; have HB := n4_; have BK179 := n5_; have GW179 := n6_; have GE179 := n7_; have NB169_179 := n8_; have NB179_169 := n9_; have NB170_179 := n10_; have NB179_170 := n11_; clear n0_ n1_ n2_ n3_ n4_ n5_ n6_ n7_ n8_ n9_ n10_ n11_; clear hb hbox hg; obtain ⟨Ao52, co52, eo52⟩ := Kd.V_slice HO178.out; subst eo52; have hnb53 := NB179_169.out; have hnc53 := NB169_179.out; have hnb54 := NB179_170.out; have hnc54 := NB170_179.out; have hcz55_0 : w51.cell? ⟨gb179, 0, none⟩ = some (.slice none 0 0) := (blk_cell BK179.out 0).trans rfl; have hfz55_0 := blk_frozen BK179.out 0))
            go_loopg [35] k (fun kq v35 w' => ∃ (x35_1 : Int) (x180000_1 : List Int) (u180000 : Value), v35 = .int .i64 x35_1 ∧ Aside0 (nat_Nat_Power.l0 kq a1 x35_1 l0_0 x180000_1 = some (r1, r2)) ∧ Aside0 (kq ≤ k) ∧ Aside0 (Kd.V (Kd.int .u32) 79 w' w.heap.size (fun k_ => (P0_0_ k_ ∨ w.heap.size ≤ k_) ∧ k_ ≠ gb169 ∧ k_ ≠ gb170 ∧ k_ ≠ gb179) (.slice A0_0 l0_0.length c0_0) l0_0) ∧ Aside0 (Kd.V (Kd.int .u32) 79 w' w.heap.size (fun k_ => (P0_0_ k_ ∨ w.heap.size ≤ k_) ∧ k_ ≠ gb169 ∧ k_ ≠ gb170 ∧ k_ ≠ gb179) u180000 x180000_1) ∧ Aside0 (w'.heap[gb169]? = some (.cells #[(.slice A0_0 l0_0.length c0_0)] 26 (0, 0))) ∧ Aside0 (w'.heap[gb170]? = some (.cells #[(.slice none 0 0)] 26 (0, 0))) ∧ Aside0 (w'.heap[gb179]? = some (.cells #[u180000] 26 (0, 0))) ∧ Aside0 (Below w.heap.size w w'))
            case atStart => exact ⟨(0), (t176), (.slice Ao52 t176.length co52), (by first | rfl | (simp; done) | (simp [*]; done) | (simp [i64_w]; done) | (simp [*, i64_w]; done)), H', ⟨Nat.le_refl _⟩, ⟨by (with_reducible repeat (first | apply Kd.V_alloc | apply Kd.V_drewN | apply Kd.V_drew)); exact Kd.V_mono (Kd.V_far (p := ⟨gb179, 0, none⟩) (Kd.V_mono HO0_0.out (fun k_ hk => (⟨hk, hk.2⟩ : _ ∧ k_ ≠ gb179))) (fun _ hk => hk.2) (.slice Ao52 t176.length co52)) (fun _ hk => ⟨hk.1.1.1.1, ⟨hk.1.1.1.2, ⟨hk.1.1.2, hk.1.2⟩⟩⟩)⟩, ⟨by (with_reducible repeat (first | apply Kd.V_alloc | apply Kd.V_drewN | apply Kd.V_drew)); exact Kd.V_mono (Kd.V_far (p := ⟨gb179, 0, none⟩) (Kd.V_mono HO178.out (fun k_ hk => (⟨hk, hk.2⟩ : _ ∧ k_ ≠ gb179))) (fun _ hk => hk.2) (.slice Ao52 t176.length co52)) (fun _ hk => ⟨hk.1.1.1, ⟨hk.1.1.2.1, ⟨hk.1.1.2.2, hk.1.2⟩⟩⟩)⟩, ⟨by (with_reducible repeat (first | refine blk_drewN ?_ _ | refine blk_drew ?_ | refine blk_alloc ?_ _)); refine blk_far ?_ NB169_179.out _; (with_reducible repeat (first | refine blk_drewN ?_ _ | refine blk_drew ?_ | refine blk_alloc ?_ _)); exact BK169.out⟩, ⟨by (with_reducible repeat (first | refine blk_drewN ?_ _ | refine blk_drew ?_ | refine blk_alloc ?_ _)); refine blk_far ?_ NB170_179.out _; (with_reducible repeat (first | refine blk_drewN ?_ _ | refine blk_drew ?_ | refine blk_alloc ?_ _)); exact BK170.out⟩, ⟨by (with_reducible repeat (first | refine blk_drewN ?_ _ | refine blk_drew ?_ | refine blk_alloc ?_ _)); refine blk_put (cs := #[.slice none 0 0]) ?_ 0 _ rfl; (with_reducible repeat (first | refine blk_drewN ?_ _ | refine blk_drew ?_ | refine blk_alloc ?_ _)); exact BK179.out⟩, ⟨by repeat (first | (with_reducible first | exact HB.out | apply below_alloc | apply pw_below_drewN | apply below_drew1 | refine below_set ?_ GE169.out | refine below_set ?_ GE170.out | refine below_set ?_ GE179.out) | exact HB.out)⟩⟩
            case round =>
              clear H'
              try clear c1
              try clear c2
              try clear p2
              try clear c3
              try clear c3b0
              try clear c4
              try clear c5
              try clear c6
              try clear p6
              try clear c8
              try clear c8b0
              try clear c8b1
              try clear c14
              try clear c17
              try clear c17b0
              try clear c20
              try clear c25
              try clear c25b0
              try clear c28
              try clear c33
              try clear c33b0
              try clear c36
              try clear c38
              try clear c45
              try clear c48
              try clear c53
              try clear c54
              try clear hcz15_0
              try clear hcz21_0
              try clear hcz23_0
              try clear hcz24_0
              try clear hcz29_0
              try clear hcz31_0
              try clear hcz37_0
              try clear hcz39_0
              try clear hcz41_0
              try clear hcz46_0
              try clear hcz48_0
              try clear hcz55_0
              try clear hcz7_0
              try clear hfz15_0
              try clear hfz21_0
              try clear hfz23_0
              try clear hfz24_0
              try clear hfz29_0
              try clear hfz31_0
              try clear hfz37_0
              try clear hfz39_0
              try clear hfz41_0
              try clear hfz46_0
              try clear hfz48_0
              try clear hfz55_0
              try clear hfz7_0
              obtain ⟨x35_1, x180000_1, u180000, rfl, HA, HK1, HO_170000, HO_180000, BK169, BK170, BK179, HB⟩ := hrel
              cases gk with
              | zero => exact absurd HA.out (by simp [nat_Nat_Power.l0])
              | succ k1 =>
                have H := HA.out
                clear HA
                simp only [nat_Nat_Power.l0] at H
                by_cases c56 : x35_1 < a1
                · rw [if_pos c56] at H
                  have c56b0 : decide (x35_1 < a1) = true := decide_eq_true c56
                  clear c56
                  replace H := Option.bind_eq_some_iff.mp H
                  obtain ⟨⟨t180, t183⟩, A570, H⟩ := H
                  replace H : (if t183 = 0 then (nat_Nat_Power.l0 k1 a1 (wrap64 (x35_1 + 1)) l0_0 t180) else (some (([] : List Int), t183))) = some (r1, r2) := H
                  have A57 := Aside0.mk A570
                  clear A570
                  by_cases c58 : t183 = 0
                  · rw [if_pos c58] at H
                    have c58b0 : (t183 == 0) = true := beq_iff_eq.mpr c58
                    have c58b1 : (t183 != 0) = false := bne_eq_false_iff_eq.mpr c58
                    clear c58
                    have H' := Aside0.mk H
                    clear H
                    have hnb59 := NB179_169.out
                    have hnc59 := NB169_179.out
                    have hnb60 := NB179_170.out
                    have hnc60 := NB170_179.out
                    have hcz61_0 : wr.cell? ⟨gb179, 0, none⟩ = some (u180000) := (blk_cell BK179.out 0).trans rfl
                    have hfz61_0 := blk_frozen BK179.out 0
                    have hnb62 := NB169_170.out
                    have hnc62 := NB170_169.out
                    have hcz63_0 : wr.cell? ⟨gb169, 0, none⟩ = some (.slice A0_0 l0_0.length c0_0) := (blk_cell BK169.out 0).trans rfl
                    have hfz63_0 := blk_frozen BK169.out 0
                    obtain ⟨Ao64, co64, eo64⟩ := Kd.V_slice HO_180000.out
                    subst eo64
                    go_wp2_with (first | ((with_reducible refine gate_callee (f := 44) rfl ?_); refine goesL_ (some 40) rfl rfl Tryd.func44 (by kernel_rfl) rfl #[.agg #[.slice Ao64 x180000_1.length co64], .agg #[.slice A0_0 l0_0.length c0_0]] rfl (by (try simp only [List.map_toArray, List.map_cons, List.map_nil]); first | done | rfl | (simp only [List.length_drop, List.length_take]; rfl)) ?_; (with_reducible refine (nat_Nat_Mul.calls k1 _ _ x180000_1 _ _ l0_0 t180 t183 _ ?side1 ?side2 ?side3 ?side4 A57.out).mono ?_); (case side1 => repeat (first | exact (Kd.V_reads' HO_180000.out).2.2 | (with_reducible refine Kd.C_alloc ?_ _) | (with_reducible refine Kd.C_drewN ?_ _) | (with_reducible refine Kd.C_drew ?_))); (case side2 => exact (Kd.V_reads' HO_180000.out).2.1); (case side3 => repeat (first | exact (Kd.V_reads' HO_170000.out).2.2 | (with_reducible refine Kd.C_alloc ?_ _) | (with_reducible refine Kd.C_drewN ?_ _) | (with_reducible refine Kd.C_drew ?_))); (case side4 => exact (Kd.V_reads' HO_170000.out).2.1); rintro e w65 ⟨v181, rfl, ho0, hb⟩; refine ⟨_, rfl, ?_⟩; have n0_ := Aside0.mk (Kd.V_below (by (with_reducible repeat (first | apply Kd.V_alloc | apply Kd.V_drewN | apply Kd.V_drew)); exact HO_170000.out) hb); have n1_ := Aside0.mk (Kd.V_below (by (with_reducible repeat (first | apply Kd.V_alloc | apply Kd.V_drewN | apply Kd.V_drew)); exact HO_180000.out) hb); have n2_ := Aside0.mk (Kd.V_lower (Kd.V_mono (ok' := fun k_ => (P0_0_ k_ ∨ w.heap.size ≤ k_) ∧ k_ ≠ gb169 ∧ k_ ≠ gb170 ∧ k_ ≠ gb179) ho0 (fun k_ hk_ => ⟨(.inr (Nat.le_trans (below_size (by repeat (first | (with_reducible first | exact HB.out | apply below_alloc | apply pw_below_drewN | apply below_drew1 | refine below_set ?_ GE169.out | refine below_set ?_ GE170.out | refine below_set ?_ GE179.out) | exact HB.out))) hk_)), (Kd.freshB (g := gb169) (o := .cells #[.slice A0_0 l0_0.length c0_0] 26 (0, 0)) (by (with_reducible repeat (first | refine blk_drewN ?_ _ | refine blk_drew ?_ | refine blk_alloc ?_ _)); exact BK169.out) k_ hk_), (Kd.freshB (g := gb170) (o := .cells #[.slice none 0 0] 26 (0, 0)) (by (with_reducible repeat (first | refine blk_drewN ?_ _ | refine blk_drew ?_ | refine blk_alloc ?_ _)); exact BK170.out) k_ hk_), (Kd.freshB (g := gb179) (o := .cells #[.slice Ao64 x180000_1.length co64] 26 (0, 0)) (by (with_reducible repeat (first | refine blk_drewN ?_ _ | refine blk_drew ?_ | refine blk_alloc ?_ _)); exact BK179.out) k_ hk_)⟩)) (below_size (by repeat (first | (with_reducible first | exact HB.out | apply below_alloc | apply pw_below_drewN | apply below_drew1 | refine below_set ?_ GE169.out | refine below_set ?_ GE170.out | refine below_set ?_ GE179.out) | exact HB.out)))); have n3_ := Aside0.mk (blk_below (g := gb169) (o := .cells #[.slice A0_0 l0_0.length c0_0] 26 (0, 0)) (by (with_reducible repeat (first | refine blk_drewN ?_ _ | refine blk_drew ?_ | refine blk_alloc ?_ _)); exact BK169.out) hb); have n4_ := Aside0.mk (blk_below (g := gb170) (o := .cells #[.slice none 0 0] 26 (0, 0)) (by (with_reducible repeat (first | refine blk_drewN ?_ _ | refine blk_drew ?_ | refine blk_alloc ?_ _)); exact BK170.out) hb); have n5_ := Aside0.mk (blk_below (g := gb179) (o := .cells #[.slice Ao64 x180000_1.length co64] 26 (0, 0)) (by (with_reducible repeat (first | refine blk_drewN ?_ _ | refine blk_drew ?_ | refine blk_alloc ?_ _)); exact BK179.out) hb); have n6_ := Aside0.mk (below_step (by repeat (first | (with_reducible first | exact HB.out | apply below_alloc | apply pw_below_drewN | apply below_drew1 | refine below_set ?_ GE169.out | refine below_set ?_ GE170.out | refine below_set ?_ GE179.out) | exact HB.out)) hb); clear HO_170000; clear HO_180000; clear BK169; clear BK170; clear BK179; clear HB; have HO_170000 := n0_; have HO_180000 := n1_; have HO182 := n2_; have BK169 := n3_; have BK170 := n4_; have BK179 := n5_; have HB := n6_; clear n0_ n1_ n2_ n3_ n4_ n5_ n6_; (try clear hb); (try clear hb2); (try clear hk); (try clear hi); (try clear ho0); obtain ⟨Ao66, co66, eo66⟩ := Kd.V_slice HO182.out; subst eo66; have hcz67_0 : w65.cell? ⟨gb179, 0, none⟩ = some (.slice Ao64 x180000_1.length co64) := (blk_cell BK179.out 0).trans rfl; have hfz67_0 := blk_frozen BK179.out 0))
                    go_roundg k1
                    case measure => have := HK1.out; omega
                    case rel => exact ⟨(wrap64 (x35_1 + 1)), (t180), (.slice Ao66 t180.length co66), (by first | rfl | (simp; done) | (simp [*]; done) | (simp [i64_w]; done) | (simp [*, i64_w]; done)), H', ⟨by have := HK1.out; omega⟩, ⟨by (with_reducible repeat (first | apply Kd.V_alloc | apply Kd.V_drewN | apply Kd.V_drew)); exact Kd.V_mono (Kd.V_far (p := ⟨gb179, 0, none⟩) (Kd.V_mono HO_170000.out (fun k_ hk => (⟨hk, hk.2.2.2⟩ : _ ∧ k_ ≠ gb179))) (fun _ hk => hk.2) (.slice Ao66 t180.length co66)) (fun _ hk => ⟨hk.1.1, ⟨hk.1.2.1, ⟨hk.1.2.2.1, hk.1.2.2.2⟩⟩⟩)⟩, ⟨by (with_reducible repeat (first | apply Kd.V_alloc | apply Kd.V_drewN | apply Kd.V_drew)); exact Kd.V_mono (Kd.V_far (p := ⟨gb179, 0, none⟩) (Kd.V_mono HO182.out (fun k_ hk => (⟨hk, hk.2.2.2⟩ : _ ∧ k_ ≠ gb179))) (fun _ hk => hk.2) (.slice Ao66 t180.length co66)) (fun _ hk => ⟨hk.1.1, ⟨hk.1.2.1, ⟨hk.1.2.2.1, hk.1.2.2.2⟩⟩⟩)⟩, ⟨by (with_reducible repeat (first | refine blk_drewN ?_ _ | refine blk_drew ?_ | refine blk_alloc ?_ _)); refine blk_far ?_ NB169_179.out _; (with_reducible repeat (first | refine blk_drewN ?_ _ | refine blk_drew ?_ | refine blk_alloc ?_ _)); exact BK169.out⟩, ⟨by (with_reducible repeat (first | refine blk_drewN ?_ _ | refine blk_drew ?_ | refine blk_alloc ?_ _)); refine blk_far ?_ NB170_179.out _; (with_reducible repeat (first | refine blk_drewN ?_ _ | refine blk_drew ?_ | refine blk_alloc ?_ _)); exact BK170.out⟩, ⟨by (with_reducible repeat (first | refine blk_drewN ?_ _ | refine blk_drew ?_ | refine blk_alloc ?_ _)); refine blk_put (cs := #[.slice Ao64 x180000_1.length co64]) ?_ 0 _ rfl; (with_reducible repeat (first | refine blk_drewN ?_ _ | refine blk_drew ?_ | refine blk_alloc ?_ _)); exact BK179.out⟩, ⟨by repeat (first | (with_reducible first | exact HB.out | apply below_alloc | apply pw_below_drewN | apply below_drew1 | refine below_set ?_ GE169.out | refine below_set ?_ GE170.out | refine below_set ?_ GE179.out) | exact HB.out)⟩⟩
                  · rw [if_neg c58] at H
                    have c58b0 : (t183 == 0) = false := beq_eq_false_iff_ne.mpr c58
                    have c58b1 : (t183 != 0) = true := bne_iff_ne.mpr c58
                    simp only [Option.some.injEq, Prod.mk.injEq] at H
                    obtain ⟨rfl, rfl⟩ := H
                    have hnb68 := NB179_169.out
                    have hnc68 := NB169_179.out
                    have hnb69 := NB179_170.out
                    have hnc69 := NB170_179.out
                    have hcz70_0 : wr.cell? ⟨gb179, 0, none⟩ = some (u180000) := (blk_cell BK179.out 0).trans rfl
                    have hfz70_0 := blk_frozen BK179.out 0
                    have hnb71 := NB169_170.out
                    have hnc71 := NB170_169.out
                    have hcz72_0 : wr.cell? ⟨gb169, 0, none⟩ = some (.slice A0_0 l0_0.length c0_0) := (blk_cell BK169.out 0).trans rfl
                    have hfz72_0 := blk_frozen BK169.out 0
                    obtain ⟨Ao73, co73, eo73⟩ := Kd.V_slice HO_180000.out
                    subst eo73
                    go_wp2_with (first | ((with_reducible refine gate_callee (f := 44) rfl ?_); refine goesL_ (some 40) rfl rfl Tryd.func44 (by kernel_rfl) rfl #[.agg #[.slice Ao73 x180000_1.length co73], .agg #[.slice A0_0 l0_0.length c0_0]] rfl (by (try simp only [List.map_toArray, List.map_cons, List.map_nil]); first | done | rfl | (simp only [List.length_drop, List.length_take]; rfl)) ?_; (with_reducible refine (nat_Nat_Mul.calls k1 _ _ x180000_1 _ _ l0_0 t180 t183 _ ?side1 ?side2 ?side3 ?side4 A57.out).mono ?_); (case side1 => repeat (first | exact (Kd.V_reads' HO_180000.out).2.2 | (with_reducible refine Kd.C_alloc ?_ _) | (with_reducible refine Kd.C_drewN ?_ _) | (with_reducible refine Kd.C_drew ?_))); (case side2 => exact (Kd.V_reads' HO_180000.out).2.1); (case side3 => repeat (first | exact (Kd.V_reads' HO_170000.out).2.2 | (with_reducible refine Kd.C_alloc ?_ _) | (with_reducible refine Kd.C_drewN ?_ _) | (with_reducible refine Kd.C_drew ?_))); (case side4 => exact (Kd.V_reads' HO_170000.out).2.1); rintro e w74 ⟨v181, rfl, ho0, hb⟩; refine ⟨_, rfl, ?_⟩; have n0_ := Aside0.mk (Kd.V_below (by (with_reducible repeat (first | apply Kd.V_alloc | apply Kd.V_drewN | apply Kd.V_drew)); exact HO_170000.out) hb); have n1_ := Aside0.mk (Kd.V_below (by (with_reducible repeat (first | apply Kd.V_alloc | apply Kd.V_drewN | apply Kd.V_drew)); exact HO_180000.out) hb); have n2_ := Aside0.mk (Kd.V_lower (Kd.V_mono (ok' := fun k_ => (P0_0_ k_ ∨ w.heap.size ≤ k_) ∧ k_ ≠ gb169 ∧ k_ ≠ gb170 ∧ k_ ≠ gb179) ho0 (fun k_ hk_ => ⟨(.inr (Nat.le_trans (below_size (by repeat (first | (with_reducible first | exact HB.out | apply below_alloc | apply pw_below_drewN | apply below_drew1 | refine below_set ?_ GE169.out | refine below_set ?_ GE170.out | refine below_set ?_ GE179.out) | exact HB.out))) hk_)), (Kd.freshB (g := gb169) (o := .cells #[.slice A0_0 l0_0.length c0_0] 26 (0, 0)) (by (with_reducible repeat (first | refine blk_drewN ?_ _ | refine blk_drew ?_ | refine blk_alloc ?_ _)); exact BK169.out) k_ hk_), (Kd.freshB (g := gb170) (o := .cells #[.slice none 0 0] 26 (0, 0)) (by (with_reducible repeat (first | refine blk_drewN ?_ _ | refine blk_drew ?_ | refine blk_alloc ?_ _)); exact BK170.out) k_ hk_), (Kd.freshB (g := gb179) (o := .cells #[.slice Ao73 x180000_1.length co73] 26 (0, 0)) (by (with_reducible repeat (first | refine blk_drewN ?_ _ | refine blk_drew ?_ | refine blk_alloc ?_ _)); exact BK179.out) k_ hk_)⟩)) (below_size (by repeat (first | (with_reducible first | exact HB.out | apply below_alloc | apply pw_below_drewN | apply below_drew1 | refine below_set ?_ GE169.out | refine below_set ?_ GE170.out | refine below_set ?_ GE179.out) | exact HB.out)))); have n3_ := Aside0.mk (blk_below (g := gb169) (o := .cells #[.slice A0_0 l0_0.length c0_0] 26 (0, 0)) (by (with_reducible repeat (first | refine blk_drewN ?_ _ | refine blk_drew ?_ | refine blk_alloc ?_ _)); exact BK169.out) hb); have n4_ := Aside0.mk (blk_below (g := gb170) (o := .cells #[.slice none 0 0] 26 (0, 0)) (by (with_reducible repeat (first | refine blk_drewN ?_ _ | refine blk_drew ?_ | refine blk_alloc ?_ _)); exact BK170.out) hb); have n5_ := Aside0.mk (blk_below (g := gb179) (o := .cells #[.slice Ao73 x180000_1.length co73] 26 (0, 0)) (by (with_reducible repeat (first | refine blk_drewN ?_ _ | refine blk_drew ?_ | refine blk_alloc ?_ _)); exact BK179.out) hb); have n6_ := Aside0.mk (below_step (by repeat (first | (with_reducible first | exact HB.out | apply below_alloc | apply pw_below_drewN | apply below_drew1 | refine below_set ?_ GE169.out | refine below_set ?_ GE170.out | refine below_set ?_ GE179.out) | exact HB.out)) hb); clear HO_170000; clear HO_180000; clear BK169; clear BK170; clear BK179; clear HB; have HO_170000 := n0_; have HO_180000 := n1_; have HO182 := n2_; have BK169 := n3_; have BK170 := n4_; have BK179 := n5_; have HB := n6_; clear n0_ n1_ n2_ n3_ n4_ n5_ n6_; (try clear hb); (try clear hb2); (try clear hk); (try clear hi); (try clear ho0); obtain ⟨Ao75, co75, eo75⟩ := Kd.V_slice HO182.out; subst eo75; have hcz76_0 : w74.cell? ⟨gb179, 0, none⟩ = some (.slice Ao73 x180000_1.length co73) := (blk_cell BK179.out 0).trans rfl; have hfz76_0 := blk_frozen BK179.out 0; have hcz77_0 : w74.cell? ⟨gb170, 0, none⟩ = some (.slice none 0 0) := (blk_cell BK170.out 0).trans rfl; have hfz77_0 := blk_frozen BK170.out 0))
                    refine bodyPost_ret (results_ct rfl _ _ gb170 26 #[.slice none 0 0] (0, 0) _ rfl (by (with_reducible repeat (first | refine blk_drewN ?_ _ | refine blk_drew ?_ | refine blk_alloc ?_ _)); refine blk_put (cs := #[.slice none 0 0]) ?_ 0 _ rfl; (with_reducible repeat (first | refine blk_drewN ?_ _ | refine blk_drew ?_ | refine blk_alloc ?_ _)); refine blk_far ?_ NB170_179.out _; (with_reducible repeat (first | refine blk_drewN ?_ _ | refine blk_drew ?_ | refine blk_alloc ?_ _)); exact BK170.out) Tryd.underlying26 rfl (by kernel_rfl)) rfl ?_
                    exact ⟨_, by first | rfl | (simp [errW_none, errW_some] <;> rfl) | (simp [*, errW_none, errW_some] <;> rfl), Kd.V_mono (Kd.R_V (base := w.heap.size) (by first | exact Kd.R_nil _ _ _ _ (fun _ => False) | exact Kd.R_nil _ _ _ _ _ | exact Kd.N_nil _ _ _ _ _ | exact Kd.V_nil _ _ _ _ _ | exact Kd.Q_nil _ _ _ _ _ | exact Kd.S_nil _ _ _ _ _)) (fun k_ hk => by first | exact False.elim hk | exact ⟨(.inr (hk.1)), hk.2⟩ | exact (.inr (hk))), by repeat (first | (with_reducible first | exact HB.out | apply below_alloc | apply pw_below_drewN | apply below_drew1 | refine below_set ?_ GE169.out | refine below_set ?_ GE170.out | refine below_set ?_ GE179.out) | exact HB.out)⟩
                · rw [if_neg c56] at H
                  have c56b0 : decide (x35_1 < a1) = false := decide_eq_false c56
                  clear c56
                  simp only [Option.some.injEq, Prod.mk.injEq] at H
                  obtain ⟨rfl, rfl⟩ := H
                  have hnb78 := NB179_169.out
                  have hnc78 := NB169_179.out
                  have hnb79 := NB179_170.out
                  have hnc79 := NB170_179.out
                  have hcz80_0 : wr.cell? ⟨gb179, 0, none⟩ = some (u180000) := (blk_cell BK179.out 0).trans rfl
                  have hfz80_0 := blk_frozen BK179.out 0
                  obtain ⟨Ao81, co81, eo81⟩ := Kd.V_slice HO_180000.out
                  subst eo81
                  have hnb82 := NB170_169.out
                  have hnc82 := NB169_170.out
                  have hcz83_0 : wr.cell? ⟨gb170, 0, none⟩ = some (.slice none 0 0) := (blk_cell BK170.out 0).trans rfl
                  have hfz83_0 := blk_frozen BK170.out 0
                  go_wp2
                  refine bodyPost_ret (results_ct rfl _ _ gb170 26 #[.slice Ao81 x180000_1.length co81] (0, 0) _ rfl (by (with_reducible repeat (first | refine blk_drewN ?_ _ | refine blk_drew ?_ | refine blk_alloc ?_ _)); refine blk_put (cs := #[.slice none 0 0]) ?_ 0 _ rfl; (with_reducible repeat (first | refine blk_drewN ?_ _ | refine blk_drew ?_ | refine blk_alloc ?_ _)); exact BK170.out) Tryd.underlying26 rfl (by kernel_rfl)) rfl ?_
                  exact ⟨_, by first | rfl | (simp [errW_none, errW_some] <;> rfl) | (simp [*, errW_none, errW_some] <;> rfl), by (with_reducible repeat (first | apply Kd.V_alloc | apply Kd.V_drewN | apply Kd.V_drew)); exact Kd.V_mono (Kd.V_far (p := ⟨gb170, 0, none⟩) (Kd.V_mono HO_180000.out (fun k_ hk => (⟨hk, hk.2.2.1⟩ : _ ∧ k_ ≠ gb170))) (fun _ hk => hk.2) (.slice Ao81 x180000_1.length co81)) (fun _ hk => hk.1.1), by repeat (first | (with_reducible first | exact HB.out | apply below_alloc | apply pw_below_drewN | apply below_drew1 | refine below_set ?_ GE169.out | refine below_set ?_ GE170.out | refine below_set ?_ GE179.out) | exact HB.out)⟩
end Go.Proofs.YtgcngbmkgjphpaaDoor.PAll
end
