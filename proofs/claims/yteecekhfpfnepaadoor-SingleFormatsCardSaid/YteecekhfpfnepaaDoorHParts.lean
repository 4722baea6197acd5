/- By hand: the parts of a single. -/
import Derived.Test.YteecekhfpfnepaaDoorHTz
import Derived.Test.YteecekhfpfnepaaDoorHRaw
namespace Go.Proofs.YteecekhfpfnepaaDoor.PAll
open Go.RowKit Go.Proofs.YteecekhfpfnepaaDoorW.PrintWords Go.Proofs.YteecekhfpfnepaaDoorW.PrintLast Go.Proofs.YteecekhfpfnepaaDoorW.PrintMore
set_option linter.unusedVariables false
set_option linter.unusedSimpArgs false

/-- The parts, out of kind, sign and number. -/
def partsV (a : Int) : Int × Bool × Int × Int :=
  match rawV a with
  | (k, s, m, e) => if m = 0 then (k, s, 0, 0) else (k, s, ((m.toNat / 2 ^ tz m.toNat : Nat) : Int), e + (tz m.toNat : Int))
theorem and32 (a c : Nat) (ha : a < 4294967296) (hc : c < 4294967296) : bits .and .u32 (a : Int) (c : Int) = ((a &&& c : Nat) : Int) := by
  show IntKind.u32.wrap ((BitVec.ofInt 32 (a : Int) &&& BitVec.ofInt 32 (c : Int)).toNat : Int) = _
  rw [BitVec.toNat_and, BitVec.ofInt_natCast, BitVec.ofInt_natCast, BitVec.toNat_ofNat, BitVec.toNat_ofNat, Nat.mod_eq_of_lt (by omega), Nat.mod_eq_of_lt (by omega)]
  have h : a &&& c ≤ a := Nat.and_le_left
  show ((a &&& c : Nat) : Int) % 4294967296 = _
  omega
theorem mask8 (a : Nat) (ha : a < 4294967296) : bits .and .u32 (a : Int) 255 = ((a % 256 : Nat) : Int) := by
  rw [show (255 : Int) = ((2 ^ 8 - 1 : Nat) : Int) from by decide, and32 _ _ ha (by decide), Nat.and_two_pow_sub_one_eq_mod, show 2 ^ 8 = 256 from by decide]
theorem mask23 (a : Nat) (ha : a < 4294967296) : bits .and .u32 (a : Int) 8388607 = ((a % 8388608 : Nat) : Int) := by
  rw [show (8388607 : Int) = ((2 ^ 23 - 1 : Nat) : Int) from by decide, and32 _ _ ha (by decide), Nat.and_two_pow_sub_one_eq_mod, show 2 ^ 23 = 8388608 from by decide]
theorem and_top (a : Nat) (ha : a < 4294967296) : (a &&& 2 ^ 31 = 0) ↔ a < 2147483648 := by
  constructor
  · intro h
    apply Classical.byContradiction
    intro hc
    have h1 : (a &&& 2 ^ 31).testBit 31 = true := by
      rw [Nat.testBit_and, Nat.testBit_two_pow_self, Bool.and_true, Nat.testBit_eq_decide_div_mod_eq, show 2 ^ 31 = 2147483648 from by decide, decide_eq_true (by omega)]
    rw [h] at h1
    simp at h1
  · intro h
    apply Nat.eq_of_testBit_eq
    intro i
    rw [Nat.testBit_and, Nat.zero_testBit, Nat.testBit_two_pow]
    by_cases c : 31 = i
    · subst c
      rw [Nat.testBit_lt_two_pow (by rw [show 2 ^ 31 = 2147483648 from by decide]; exact h)]; rfl
    · rw [decide_eq_false c, Bool.and_false]
theorem top32 (a : Nat) (ha : a < 4294967296) : (bits .and .u32 (a : Int) 2147483648 != 0) = decide (2147483648 ≤ a) := by
  have h := and_top a ha
  rw [show (2147483648 : Int) = ((2 ^ 31 : Nat) : Int) from by decide, and32 _ _ ha (by decide)]
  by_cases c : 2147483648 ≤ a
  · rw [decide_eq_true c, bne_iff_ne]
    intro h2
    have := h.1 (by omega)
    omega
  · rw [decide_eq_false c, bne_eq_false_iff_eq, h.2 (by omega)]; rfl
theorem partsV_of {a k m e : Int} {s : Bool} (h : rawV a = (k, s, m, e)) : partsV a = if m = 0 then (k, s, 0, 0) else (k, s, ((m.toNat / 2 ^ tz m.toNat : Nat) : Int), e + (tz m.toNat : Int)) := by
  unfold partsV; rw [h]
theorem shr_tz (m : Nat) (h0 : m ≠ 0) (h1 : m < 16777216) : (m : Int) / 2 ^ tz m = ((m / 2 ^ tz m : Nat) : Int) := by
  push_cast; rfl
theorem tz_some (m : Nat) (h0 : m ≠ 0) (h1 : m < 16777216) : bits_TrailingZeros.f (m : Int) = some (tz m : Int) := by
  unfold bits_TrailingZeros.f
  rw [if_pos ⟨by omega, by omega⟩, if_neg (by omega), Int.toNat_natCast]
def single_Parts.f (a0 : Int) : Option (Int × Bool × Int × Int) := if 0 ≤ a0 ∧ a0 < 4294967296 then some (partsV a0) else none
theorem raw_nat (n : Nat) (hn : n < 4294967296) : rawV (n : Int) = if ((n / 8388608 % 256 : Nat) : Int) = 255 then (if ((n % 8388608 : Nat) : Int) = 0 then (1, decide (2147483648 ≤ n), 0, 0) else (2, false, 0, 0)) else if ((n / 8388608 % 256 : Nat) : Int) = 0 then (0, decide (2147483648 ≤ n), ((n % 8388608 : Nat) : Int), -149) else (0, decide (2147483648 ≤ n), 8388608 + ((n % 8388608 : Nat) : Int), ((n / 8388608 % 256 : Nat) : Int) - 150) := by
  have ed : decide ((2147483648 : Int) ≤ (n : Int)) = decide (2147483648 ≤ n) := by
    by_cases c : 2147483648 ≤ n
    · rw [decide_eq_true c, decide_eq_true (by omega)]
    · rw [decide_eq_false c, decide_eq_false (by omega)]
  unfold rawV
  rw [ed]
  rfl
set_option maxRecDepth 20000 in
set_option maxHeartbeats 3200000 in
theorem single_Parts.calls (a0 : Int) (r1 : Int) (r2 : Bool) (r3 : Int) (r4 : Int) (w : World) (h : single_Parts.f a0 = some (r1, r2, r3, r4)) (hTab : Tab w) :
    Calls Tryd.prog 13 #[.int .u32 a0] w fun e w' => e = .returned (.agg #[.int .i64 r1, .bool r2, .int .i64 r3, .int .i64 r4]) ∧ Below w.heap.size w w' := by
  unfold single_Parts.f at h
  split at h
  case isFalse => simp at h
  case isTrue hr =>
  have h' := Option.some.inj h
  clear h
  have hu24 := Tryd.underlying24
  obtain ⟨n, rfl⟩ := Int.eq_ofNat_of_zero_le hr.1
  have hn : n < 4294967296 := by omega
  have hE : bits .and .u32 ((n : Int) / 8388608) 255 = ((n / 8388608 % 256 : Nat) : Int) := by
    rw [show (n : Int) / 8388608 = ((n / 8388608 : Nat) : Int) from by omega, mask8 _ (by omega)]
  have hF := mask23 n hn
  have hs := top32 n hn
  have hR := raw_nat n hn
  have hE1 : n / 8388608 % 256 < 256 := Nat.mod_lt _ (by omega)
  have hF1 : n % 8388608 < 8388608 := Nat.mod_lt _ (by omega)
  obtain ⟨E, hE'⟩ : ∃ E, n / 8388608 % 256 = E := ⟨_, rfl⟩
  obtain ⟨F, hF'⟩ : ∃ F, n % 8388608 = F := ⟨_, rfl⟩
  obtain ⟨s, hs'⟩ : ∃ s, decide (2147483648 ≤ n) = s := ⟨_, rfl⟩
  rw [hE'] at hE1 hR hE
  rw [hF'] at hF1 hR hF
  rw [hs'] at hR hs
  have wE : wrap64 (E : Int) = (E : Int) := by unfold wrap64; omega
  have wF : wrap64 (F : Int) = (F : Int) := by unfold wrap64; omega
  obtain ⟨q8, hq8⟩ : ∃ q : Int, (n : Int) / 8388608 = q := ⟨_, rfl⟩
  rw [hq8] at hE
  obtain ⟨A, hA⟩ : ∃ A : Int, (n : Int) = A := ⟨_, rfl⟩
  rw [hA] at hF hs hR h' hq8 ⊢
  have HT := Aside0.mk hTab
  have HR := Aside0.mk hR
  have HP := Aside0.mk h'
  clear hr hn hE' hF' hs' hA hTab hR h'
  by_cases c1 : E = 255
  · subst c1
    by_cases c2 : F = 0
    · subst c2
      obtain ⟨rfl, rfl, rfl, rfl⟩ : 1 = r1 ∧ s = r2 ∧ 0 = r3 ∧ 0 = r4 := by
        have h := HP.out
        rw [partsV_of (HR.out.trans ((if_pos rfl).trans (if_pos rfl))), if_pos rfl] at h
        simpa using h
      clear HP HR
      go_enter Tryd.func13, Tryd.ntmps13
      go_wp2
      refine bodyPost_ret (v := .agg #[.int .i64 1, .bool s, .int .i64 0, .int .i64 0]) (by simp [results, Tryd.results13, go_sem]) rfl ?_
      exact ⟨rfl, by repeat (first | exact Below.refl _ _ | apply below_alloc | apply pw_below_drewN)⟩
    · have cF : ((F : Int) != 0) = true := by rw [bne_iff_ne]; omega
      obtain ⟨rfl, rfl, rfl, rfl⟩ : 2 = r1 ∧ false = r2 ∧ 0 = r3 ∧ 0 = r4 := by
        have h := HP.out
        rw [partsV_of (HR.out.trans ((if_pos rfl).trans (if_neg (by omega)))), if_pos rfl] at h
        simpa using h
      clear HP HR
      go_enter Tryd.func13, Tryd.ntmps13
      go_wp2
      refine bodyPost_ret (v := .agg #[.int .i64 2, .bool false, .int .i64 0, .int .i64 0]) (by simp [results, Tryd.results13, go_sem]) rfl ?_
      exact ⟨rfl, by repeat (first | exact Below.refl _ _ | apply below_alloc | apply pw_below_drewN)⟩
  · have cE : ((E : Int) == 255) = false := beq_eq_false_iff_ne.mpr (by omega)
    by_cases c2 : E = 0
    · subst c2
      by_cases c3 : F = 0
      · subst c3
        obtain ⟨rfl, rfl, rfl, rfl⟩ : 0 = r1 ∧ s = r2 ∧ 0 = r3 ∧ 0 = r4 := by
          have h := HP.out
          rw [partsV_of (HR.out.trans ((if_neg (by decide)).trans (if_pos rfl))), if_pos (by rfl)] at h
          simpa using h
        clear HP HR
        go_enter Tryd.func13, Tryd.ntmps13
        go_wp2
        refine bodyPost_ret (v := .agg #[.int .i64 0, .bool s, .int .i64 0, .int .i64 0]) (by simp [results, Tryd.results13, go_sem]) rfl ?_
        exact ⟨rfl, by repeat (first | exact Below.refl _ _ | apply below_alloc | apply pw_below_drewN)⟩
      · have ht := tz_lt F c3 (by omega)
        have hU : IntKind.u64.wrap (F : Int) = (F : Int) := by show (F : Int) % 18446744073709551616 = _; omega
        obtain ⟨rfl, rfl, rfl, rfl⟩ : 0 = r1 ∧ s = r2 ∧ ((F / 2 ^ tz F : Nat) : Int) = r3 ∧ -149 + (tz F : Int) = r4 := by
          have h := HP.out
          rw [partsV_of (HR.out.trans ((if_neg (by decide)).trans (if_pos rfl))), if_neg (by omega), Int.toNat_natCast] at h
          simpa using h
        have HZ := Aside0.mk (tz_some F c3 (by omega))
        have hsh := shr_tz F c3 (by omega)
        have cF : ((F : Int) == 0) = false := beq_eq_false_iff_ne.mpr (by omega)
        obtain ⟨t, htt⟩ : ∃ t, tz F = t := ⟨_, rfl⟩
        rw [htt] at HZ hsh ht ⊢
        obtain ⟨M, hM⟩ : ∃ M : Int, ((F / 2 ^ t : Nat) : Int) = M := ⟨_, rfl⟩
        rw [hM] at hsh ⊢
        clear HP HR htt hM
        go_enter Tryd.func13, Tryd.ntmps13
        go_wp2_with (go_at_call 36; (with_reducible refine (tz_stays _ _ _ HZ.out (tab_below HT.out (below_alloc (below_alloc (Below.refl _ _) _) _))).mono ?_); rintro e w' ⟨rfl, rfl⟩)
        refine bodyPost_ret (v := .agg #[.int .i64 0, .bool s, .int .i64 M, .int .i64 (-149 + t)]) (by simp [results, Tryd.results13, go_sem]) rfl ?_
        exact ⟨rfl, by repeat (first | exact Below.refl _ _ | apply below_alloc | apply pw_below_drewN)⟩
    · obtain ⟨g, hm⟩ : ∃ g : Int, (8388608 : Int) + (F : Int) = g := ⟨_, rfl⟩
      have hg0 : 0 ≤ g := by omega
      have hg1 : g < 16777216 := by omega
      have hgne : g ≠ 0 := by omega
      have hEne : (E : Int) ≠ 0 := by omega
      have hEne2 : (E : Int) ≠ 255 := by omega
      have hE254 : E ≤ 254 := by omega
      have h := HP.out
      have hr := HR.out
      rw [if_neg hEne2, if_neg hEne, hm] at hr
      rw [partsV_of hr, if_neg hgne] at h
      obtain ⟨G, hg⟩ := Int.eq_ofNat_of_zero_le hg0
      have hG0 : G ≠ 0 := by intro h; subst h; exact hgne hg
      have hG1 : G < 16777216 := by omega
      have ht := tz_lt G hG0 (by omega)
      have HZ := Aside0.mk (tz_some G hG0 hG1)
      have hsh := shr_tz G hG0 hG1
      rw [show g.toNat = G from by rw [hg]; rfl] at h
      rw [← hg] at HZ hsh
      obtain ⟨t, htt⟩ : ∃ t, tz G = t := ⟨_, rfl⟩
      rw [htt] at HZ hsh ht h
      obtain ⟨M, hM⟩ : ∃ M : Int, ((G / 2 ^ t : Nat) : Int) = M := ⟨_, rfl⟩
      rw [hM] at hsh h
      clear htt hM hG0 hG1 hg hr HP HR
      obtain ⟨rfl, rfl, rfl, rfl⟩ : 0 = r1 ∧ s = r2 ∧ M = r3 ∧ (E : Int) - 150 + (t : Int) = r4 := by simpa using h
      have hU : IntKind.u64.wrap g = g := by show g % 18446744073709551616 = _; omega
      have cE0 : ((E : Int) == 0) = false := beq_eq_false_iff_ne.mpr hEne
      have cG : (g == 0) = false := beq_eq_false_iff_ne.mpr hgne
      have wG : wrap64 g = g := by unfold wrap64; omega
      have w1 : wrap64 ((E : Int) - 150) = (E : Int) - 150 := by unfold wrap64; omega
      have w2 : wrap64 ((E : Int) - 150 + (t : Int)) = (E : Int) - 150 + (t : Int) := by unfold wrap64; omega
      clear h hgne hEne hEne2
      go_enter Tryd.func13, Tryd.ntmps13
      go_wp2_with (go_at_call 36; (with_reducible refine (tz_stays _ _ _ HZ.out (tab_below HT.out (below_alloc (below_alloc (Below.refl _ _) _) _))).mono ?_); rintro e w' ⟨rfl, rfl⟩)
      refine bodyPost_ret (v := .agg #[.int .i64 0, .bool s, .int .i64 M, .int .i64 (E - 150 + t)]) (by simp [results, Tryd.results13, go_sem]) rfl ?_
      exact ⟨rfl, by repeat (first | exact Below.refl _ _ | apply below_alloc | apply pw_below_drewN)⟩
end Go.Proofs.YteecekhfpfnepaaDoor.PAll
