/- Texts of this session and printed texts, merged, what is not needed left out: NmP, PureNatDivides. -/
import Derived.Test.YtgcngbmkgjphpaaDoorNpI0
import Derived.Test.YtgcngbmkgjphpaaDoorNpI1
import Derived.Test.YtgcngbmkgjphpaaDoorNpI2
import Derived.Test.YtgcngbmkgjphpaaDoorNpI3
import Derived.Test.YtgcngbmkgjphpaaDoorNpI4
import Derived.Test.YtgcngbmkgjphpaaDoorNpI5
section
namespace Go.Proofs.YtgcngbmkgjphpaaDoor.Nums
open Go.RowKit Go.Proofs.YtgcngbmkgjphpaaDoor.PAll Go.Proofs.YtgcngbmkgjphpaaDoorW.PrintWords Go.Proofs.YtgcngbmkgjphpaaDoorW.PrintLast Go.Proofs.YtgcngbmkgjphpaaDoorW.PrintMore
set_option linter.unusedVariables false
set_option linter.unusedSimpArgs false
theorem bl_two_pow (n : Nat) : bl (2 ^ n) = n + 1 := by
  have := bl_shift 1 n (by omega)
  rw [Nat.one_mul, bl_one] at this
  omega
theorem divides_j4 (u n : Nat) (hu : bl u ≤ 65536) (h : u = 0 ∨ bl u + n ≤ 65536) (hn : n ≤ 65536) : Ev (fun k => heraldlaw04_NatDivides.j4 k (n : Int) false (dgs 4294967296 u) (dgs 4294967296 (u * 2 ^ n)) (dgs 4294967296 2)) true := by
  by_cases c : n ≥ 65536
  · refine Ev.step (f := fun _ => some true) (fun k => ?_) (Ev.now _)
    rw [heraldlaw04_NatDivides.j4, if_neg (by decide), if_pos (by omega)]
  · have hfit : bl (u * 2 ^ n) ≤ 65536 := by
      by_cases hz : u = 0
      · rw [hz, Nat.zero_mul, bl_zero]; omega
      · rw [bl_shift u n hz]; exact h.resolve_left hz
    have b2 : bl 2 ≤ 65536 := by
      have : bl 2 ≤ 2 := bl_le.mpr (by decide)
      omega
    have bp : bl (2 ^ n) ≤ 65536 := by rw [bl_two_pow]; omega
    obtain ⟨K1, h1⟩ := pow_ev 2 n b2 (by omega) (dgs 4294967296 (2 ^ n), 0) (fun _ => rfl) (fun g => absurd bp g)
    obtain ⟨K2, h2⟩ := mul_fits hu bp hfit
    obtain ⟨K3, h3⟩ := cmp_same (u * 2 ^ n) hfit
    refine Ev.step (f := fun k => heraldlaw04_NatDivides.j4 (k + 1) (n : Int) false (dgs 4294967296 u) (dgs 4294967296 (u * 2 ^ n)) (dgs 4294967296 2)) (fun k => rfl) ⟨K1 + K2 + K3, fun k hk => ?_⟩
    have g1 : nat_Nat_Power.f k (dgs 4294967296 2) (n : Int) = some (dgs 4294967296 (2 ^ n), 0) := h1 k (by omega)
    have g2 : nat_Nat_Mul.f k (dgs 4294967296 u) (dgs 4294967296 (2 ^ n)) = some (dgs 4294967296 (u * 2 ^ n), 0) := h2 k (by omega)
    have g3 : nat_Nat_Compare.f k (dgs 4294967296 (u * 2 ^ n)) (dgs 4294967296 (u * 2 ^ n)) = some 0 := h3 k (by omega)
    have c1 : ¬ (n : Int) ≥ 65536 := by omega
    show heraldlaw04_NatDivides.j4 (k + 1) (n : Int) false (dgs 4294967296 u) (dgs 4294967296 (u * 2 ^ n)) (dgs 4294967296 2) = some true
    rw [heraldlaw04_NatDivides.j4, if_neg (by decide), if_neg c1, g1, Option.bind_some, g2, Option.bind_some, if_pos rfl, if_pos rfl, g3, Option.bind_some]
    rfl
theorem up_any (u n : Nat) (hu : bl u ≤ 65536) (h : u = 0 ∨ bl u + n ≤ 65536) : Ev (fun k => nat_Nat_Up.f k (dgs 4294967296 u) (n : Int)) (dgs 4294967296 (u * 2 ^ n), 0) := by
  by_cases hz : u = 0
  · subst hz
    refine Ev.congr (fun k => ?_) (Ev.now _)
    rw [up_zero, Nat.zero_mul, dgs_zero]
  · exact up_ev u n hz (h.resolve_left hz)
theorem wrap_bits (b n : Nat) (h : b + n ≤ 200000) : wrap64 (((b : Nat) : Int) + (n : Int)) = (((b + n : Nat)) : Int) := by rw [wrap_in (by omega) (by omega)]; omega
theorem divides_j3 (u n : Nat) (hu : bl u ≤ 65536) (h : u = 0 ∨ bl u + n ≤ 65536) (hn : n ≤ 65536) : Ev (fun k => heraldlaw04_NatDivides.j3 k (n : Int) false (dgs 4294967296 u)) true := by
  have hfit : bl (u * 2 ^ n) ≤ 65536 := by
    by_cases hz : u = 0
    · rw [hz, Nat.zero_mul, bl_zero]; omega
    · rw [bl_shift u n hz]; exact h.resolve_left hz
  have hdown := down_ev (u * 2 ^ n) n hfit
  rw [Nat.mul_div_cancel _ (Nat.pow_pos (by omega))] at hdown
  obtain ⟨K1, h1⟩ := up_any u n hu h
  obtain ⟨K2, h2⟩ := hdown
  obtain ⟨K3, h3⟩ := Of_ev 2 (by omega)
  obtain ⟨K4, h4⟩ := cmp_same u hu
  obtain ⟨K5, h5⟩ := divides_j4 u n hu h hn
  have l1 := pd_len (n := u) (k := 2048) (by omega)
  have l2 := pd_len (n := u * 2 ^ n) (k := 2048) (by omega)
  have b1 := bits_some (n := u) (by omega)
  have b2 := bits_some (n := u * 2 ^ n) (by omega)
  refine Ev.step (f := fun k => heraldlaw04_NatDivides.j3 (k + 1) (n : Int) false (dgs 4294967296 u)) (fun k => rfl) ⟨K1 + K2 + K3 + K4 + K5, fun k hk => ?_⟩
  have g1 : nat_Nat_Up.f k (dgs 4294967296 u) (n : Int) = some (dgs 4294967296 (u * 2 ^ n), 0) := h1 k (by omega)
  have g2 : nat_Nat_Down.f k (dgs 4294967296 (u * 2 ^ n)) (n : Int) = some (dgs 4294967296 u, 0) := h2 k (by omega)
  have g3 : nat_Of.f k 2 = some (dgs 4294967296 2, 0) := h3 k (by omega)
  have g4 : nat_Nat_Compare.f k (dgs 4294967296 u) (dgs 4294967296 u) = some 0 := h4 k (by omega)
  have g5 : heraldlaw04_NatDivides.j4 k (n : Int) false (dgs 4294967296 u) (dgs 4294967296 (u * 2 ^ n)) (dgs 4294967296 2) = some true := h5 k (by omega)
  show heraldlaw04_NatDivides.j3 (k + 1) (n : Int) false (dgs 4294967296 u) = some true
  rw [heraldlaw04_NatDivides.j3, if_neg (by decide), g1, Option.bind_some, g2, Option.bind_some, g3, Option.bind_some, if_pos rfl, if_pos rfl, if_pos rfl, g4, Option.bind_some, if_pos rfl, b1, Option.bind_some]
  by_cases hz : u = 0
  · have c1 : ¬ ((bl u : Nat) : Int) > 0 := by rw [hz, bl_zero]; omega
    rw [if_neg c1]
    exact g5
  · have hp := bl_pos.mpr hz
    have c1 : ((bl u : Nat) : Int) > 0 := by omega
    have hw := wrap_bits (bl u) n (by omega)
    rw [if_pos c1, b2, Option.bind_some, Option.bind_some, bl_shift u n hz, hw, bne_self_eq_false]
    exact g5
theorem divides_j2 (u : Nat) (n : Int) (hu : bl u ≤ 65536) (hn : n < 9223372036854775808) : Ev (fun k => heraldlaw04_NatDivides.j2 k n (dgs 4294967296 u)) true := by
  have l1 := pd_len (n := u) (k := 2048) (by omega)
  have b1 := bits_some (n := u) (by omega)
  have jt : Ev (fun k => heraldlaw04_NatDivides.j3 k n true (dgs 4294967296 u)) true := by
    refine Ev.step (f := fun _ => some true) (fun k => ?_) (Ev.now _)
    rw [heraldlaw04_NatDivides.j3, if_pos rfl]
  by_cases c : n < 0
  · refine Ev.step (fun k => ?_) jt
    rw [heraldlaw04_NatDivides.j2, if_pos c]
  · obtain ⟨m, rfl⟩ := Int.eq_ofNat_of_zero_le (show 0 ≤ n by omega)
    have hw : wrap64 (65536 - ((bl u : Nat) : Int)) = 65536 - ((bl u : Nat) : Int) := wrap_in (by omega) (by omega)
    by_cases g : (m : Int) > 65536 - ((bl u : Nat) : Int)
    · refine Ev.step (fun k => ?_) jt
      rw [heraldlaw04_NatDivides.j2, if_neg c, b1, Option.bind_some, hw, decide_eq_true g]
    · refine Ev.step (fun k => ?_) (divides_j3 u m hu (.inr (by omega)) (by omega))
      rw [heraldlaw04_NatDivides.j2, if_neg c, b1, Option.bind_some, hw, decide_eq_false g]
theorem divides_j0 (u v : Nat) (n : Int) (hu : bl u ≤ 65536) (hv : bl v ≤ 65536) (hn : n < 9223372036854775808) : Ev (fun k => heraldlaw04_NatDivides.j0 k n false (dgs 4294967296 u) (dgs 4294967296 v)) true := by
  have l1 := pd_len (n := u) (k := 2048) (by omega)
  have l2 := pd_len (n := v) (k := 2048) (by omega)
  have b2 := bits_some (n := v) (by omega)
  have j2 := divides_j2 u n hu hn
  by_cases hz : v = 0
  · have c1 : ¬ ((bl v : Nat) : Int) > 0 := by rw [hz, bl_zero]; omega
    refine Ev.step (fun k => ?_) j2
    rw [heraldlaw04_NatDivides.j0, if_neg (by decide), b2, Option.bind_some, if_neg c1]
  · have hp := bl_pos.mpr hz
    have c1 : ((bl v : Nat) : Int) > 0 := by omega
    have hq : bl (u / v) ≤ 65536 := by have := bl_mono (Nat.div_le_self u v); omega
    have hr : bl (u % v) ≤ 65536 := by have := bl_mono (Nat.mod_le u v); omega
    have hqv : bl (u / v * v) ≤ 65536 := by have := bl_mono (Nat.div_mul_le_self u v); omega
    have hsum : u / v * v + u % v = u := by rw [Nat.mul_comm]; exact Nat.div_add_mod u v
    obtain ⟨K1, h1⟩ := div_ev (x := u) (y := v) (by omega) (by omega) hz
    obtain ⟨K2, h2⟩ := mul_fits hq hv hqv
    have hadd := add_fits (x := u / v * v) (y := u % v) hqv hr (by rw [hsum]; exact hu)
    rw [hsum] at hadd
    obtain ⟨K3, h3⟩ := hadd
    obtain ⟨K4, h4⟩ := cmp_same u hu
    have lr := pd_len (n := u % v) (k := 2048) (by omega)
    have hcmp := cmp_ev (u % v) v (by omega) (by omega)
    rw [cmpV_lt (Nat.mod_lt u (by omega))] at hcmp
    obtain ⟨K5, h5⟩ := hcmp
    have j1 : Ev (fun k => heraldlaw04_NatDivides.j1 k n false (dgs 4294967296 u)) true := by
      refine Ev.step (fun k => ?_) j2
      rw [heraldlaw04_NatDivides.j1, if_neg (by decide)]
    obtain ⟨K6, h6⟩ := j1
    refine Ev.step (f := fun k => heraldlaw04_NatDivides.j0 (k + 1) n false (dgs 4294967296 u) (dgs 4294967296 v)) (fun k => rfl) ⟨K1 + K2 + K3 + K4 + K5 + K6, fun k hk => ?_⟩
    have g1 : nat_Nat_Div.f k (dgs 4294967296 u) (dgs 4294967296 v) = some (dgs 4294967296 (u / v), dgs 4294967296 (u % v), 0) := h1 k (by omega)
    have g2 : nat_Nat_Mul.f k (dgs 4294967296 (u / v)) (dgs 4294967296 v) = some (dgs 4294967296 (u / v * v), 0) := h2 k (by omega)
    have g3 : nat_Nat_Add.f k (dgs 4294967296 (u / v * v)) (dgs 4294967296 (u % v)) = some (dgs 4294967296 u, 0) := h3 k (by omega)
    have g4 : nat_Nat_Compare.f k (dgs 4294967296 u) (dgs 4294967296 u) = some 0 := h4 k (by omega)
    have g5 : nat_Nat_Compare.f k (dgs 4294967296 (u % v)) (dgs 4294967296 v) = some (-1) := h5 k (by omega)
    have g6 : heraldlaw04_NatDivides.j1 k n false (dgs 4294967296 u) = some true := h6 k (by omega)
    show heraldlaw04_NatDivides.j0 (k + 1) n false (dgs 4294967296 u) (dgs 4294967296 v) = some true
    rw [heraldlaw04_NatDivides.j0, if_neg (by decide), b2, Option.bind_some, if_pos c1, g1, Option.bind_some, g2, Option.bind_some, g3, Option.bind_some, if_pos rfl, if_pos rfl, if_pos rfl, g4, Option.bind_some, if_pos rfl, g5, Option.bind_some]
    exact g6
theorem NatDivides_ev (a b : List Int) (n : Int) (hn : n < 9223372036854775808) (ha : Dg ((4294967296 : Nat) : Int) a) (hb : Dg ((4294967296 : Nat) : Int) b) (la : a.length ≤ 1048576) (lb : b.length ≤ 1048576) : Ev (fun k => heraldlaw04_NatDivides.f k a b n) true := by
  obtain ⟨m1, u, p1, hu, K1, h1⟩ := given_any a ha la
  obtain ⟨m2, v, p2, hv, K2, h2⟩ := given_any b hb lb
  obtain ⟨K4, h4⟩ := awake_ev
  obtain ⟨K5, h5⟩ := divides_j0 u v n hu hv hn
  refine ⟨K1 + K2 + K4 + K5, fun k hk => ?_⟩
  have g1 : heraldlaw04_given.f k a = some (m1, dgs 4294967296 u, p1, true) := h1 k (by omega)
  have g2 : heraldlaw04_given.f k b = some (m2, dgs 4294967296 v, p2, true) := h2 k (by omega)
  have g4 : heraldlaw04_awake.f k = some true := h4 k (by omega)
  have g5 : heraldlaw04_NatDivides.j0 k n false (dgs 4294967296 u) (dgs 4294967296 v) = some true := h5 k (by omega)
  show heraldlaw04_NatDivides.f k a b n = some true
  unfold heraldlaw04_NatDivides.f
  rw [g1, Option.bind_some, g2, Option.bind_some, g4, Option.bind_some, if_pos rfl, if_pos rfl]
  exact g5
end Go.Proofs.YtgcngbmkgjphpaaDoor.Nums
end

section
namespace Go.Proofs.YtgcngbmkgjphpaaDoor.Pure
set_option linter.unusedVariables false
open Go.RowKit Go.Proofs.YtgcngbmkgjphpaaDoor.PAll Go.Proofs.YtgcngbmkgjphpaaDoor.Nums Go.Proofs.YtgcngbmkgjphpaaDoorW.PrintWords
theorem NatDivides (l0 l1 : List Int) (a2 : Int) (h0 : l0.length ≤ 1048576) (hw0 : ∀ x ∈ l0, (Lit.int .u32 x).wf = true) (h1 : l1.length ≤ 1048576) (hw1 : ∀ x ∈ l1, (Lit.int .u32 x).wf = true) (h2 : (Lit.int .i64 a2).wf = true) : ∃ k, heraldlaw04_NatDivides.f k l0 l1 a2 = some true :=
  (NatDivides_ev l0 l1 a2 (wf_i64 h2).2 (dg_wf l0 hw0) (dg_wf l1 hw1) h0 h1).rounds
end Go.Proofs.YtgcngbmkgjphpaaDoor.Pure
end
