/- Texts of this session and printed texts, merged, what is not needed left out: PAllx23, SgA, SgNear, SgRef, SgAwake, SgStick, SgRaw, SgCmp, SgMul, SgAdd, SgAdds, SgSub, SgJoin, SgDiv, SgQuot, SgRoot, SgSqrt, SgWords, SgRoots, PureSingleDivides. -/
import Derived.Test.YteecekhfpfnepaaSdD0
import Derived.Test.YteecekhfpfnepaaSdD1
import Ieee.Arith
import Derived.DataShut
section
namespace Go.Proofs.Yteecekhfpfnepaa.PAll
open Go.RowKit Go.Proofs.YteecekhfpfnepaaW.PrintWords Go.Proofs.YteecekhfpfnepaaW.PrintLast Go.Proofs.YteecekhfpfnepaaW.PrintMore
attribute [local go_sem] max2_int min2_int max_two min_two max_three min_three max_four min_four   -- for this text's walks alone
set_option linter.unusedVariables false
set_option linter.unusedSimpArgs false
def heraldlaw03_SingleDivides.f (k : Nat) (a0 : Int) (a1 : Int) : Option (Bool) := (heraldlaw03_awake.f k).bind fun t215 => (if t215 = true then ((single_Sub.f a0 a1).bind fun t216 => ((heraldref03_Sub.f k a0 a1).bind fun t217 => (if t216 = t217 then ((single_Div.f a0 a1).bind fun t218 => ((heraldref03_Div.f k a0 a1).bind fun t219 => (if t218 = t219 then ((single_Sqrt.f a0).bind fun t220 => ((heraldref03_Sqrt.f k a0).bind fun t221 => (some (t220 == t221)))) else (some false)))) else (some false)))) else (some false))
set_option maxHeartbeats 8000000 in
set_option maxRecDepth 100000 in
theorem heraldlaw03_SingleDivides.calls (k : Nat) (a0 : Int) (a1 : Int) (r : Bool) (w : World) (h : heraldlaw03_SingleDivides.f k a0 a1 = some r) :
    Calls Try.prog 9 #[.int .u32 a0, .int .u32 a1] w fun e w' => e = .returned (.bool r) ∧ Below w.heap.size w w' := by
  have HB := Aside0.mk (Below.refl w.heap.size w)
  have H : ((heraldlaw03_awake.f k).bind fun t215 => (if t215 = true then ((single_Sub.f a0 a1).bind fun t216 => ((heraldref03_Sub.f k a0 a1).bind fun t217 => (if t216 = t217 then ((single_Div.f a0 a1).bind fun t218 => ((heraldref03_Div.f k a0 a1).bind fun t219 => (if t218 = t219 then ((single_Sqrt.f a0).bind fun t220 => ((heraldref03_Sqrt.f k a0).bind fun t221 => (some (t220 == t221)))) else (some false)))) else (some false)))) else (some false))) = some r := h
  clear h
  replace H := Option.bind_eq_some_iff.mp H
  obtain ⟨t215, A30, H⟩ := H
  replace H : (if t215 = true then ((single_Sub.f a0 a1).bind fun t216 => ((heraldref03_Sub.f k a0 a1).bind fun t217 => (if t216 = t217 then ((single_Div.f a0 a1).bind fun t218 => ((heraldref03_Div.f k a0 a1).bind fun t219 => (if t218 = t219 then ((single_Sqrt.f a0).bind fun t220 => ((heraldref03_Sqrt.f k a0).bind fun t221 => (some (t220 == t221)))) else (some false)))) else (some false)))) else (some false)) = some r := H
  have A3 := Aside0.mk A30
  clear A30
  by_cases c4 : t215 = true
  · subst c4
    have H1 : ((single_Sub.f a0 a1).bind fun t216 => ((heraldref03_Sub.f k a0 a1).bind fun t217 => (if t216 = t217 then ((single_Div.f a0 a1).bind fun t218 => ((heraldref03_Div.f k a0 a1).bind fun t219 => (if t218 = t219 then ((single_Sqrt.f a0).bind fun t220 => ((heraldref03_Sqrt.f k a0).bind fun t221 => (some (t220 == t221)))) else (some false)))) else (some false)))) = some r := by rw [if_pos rfl] at H; exact H
    clear H
    have H := H1
    clear H1
    replace H := Option.bind_eq_some_iff.mp H
    obtain ⟨t216, A50, H⟩ := H
    replace H : ((heraldref03_Sub.f k a0 a1).bind fun t217 => (if t216 = t217 then ((single_Div.f a0 a1).bind fun t218 => ((heraldref03_Div.f k a0 a1).bind fun t219 => (if t218 = t219 then ((single_Sqrt.f a0).bind fun t220 => ((heraldref03_Sqrt.f k a0).bind fun t221 => (some (t220 == t221)))) else (some false)))) else (some false))) = some r := H
    have A5 := Aside0.mk A50
    clear A50
    replace H := Option.bind_eq_some_iff.mp H
    obtain ⟨t217, A60, H⟩ := H
    replace H : (if t216 = t217 then ((single_Div.f a0 a1).bind fun t218 => ((heraldref03_Div.f k a0 a1).bind fun t219 => (if t218 = t219 then ((single_Sqrt.f a0).bind fun t220 => ((heraldref03_Sqrt.f k a0).bind fun t221 => (some (t220 == t221)))) else (some false)))) else (some false)) = some r := H
    have A6 := Aside0.mk A60
    clear A60
    by_cases c7 : t216 = t217
    · rw [if_pos c7] at H
      have c7b0 : (t216 == t217) = true := beq_iff_eq.mpr c7
      have c7b1 : (t216 != t217) = false := bne_eq_false_iff_eq.mpr c7
      clear c7
      replace H := Option.bind_eq_some_iff.mp H
      obtain ⟨t218, A80, H⟩ := H
      replace H : ((heraldref03_Div.f k a0 a1).bind fun t219 => (if t218 = t219 then ((single_Sqrt.f a0).bind fun t220 => ((heraldref03_Sqrt.f k a0).bind fun t221 => (some (t220 == t221)))) else (some false))) = some r := H
      have A8 := Aside0.mk A80
      clear A80
      replace H := Option.bind_eq_some_iff.mp H
      obtain ⟨t219, A90, H⟩ := H
      replace H : (if t218 = t219 then ((single_Sqrt.f a0).bind fun t220 => ((heraldref03_Sqrt.f k a0).bind fun t221 => (some (t220 == t221)))) else (some false)) = some r := H
      have A9 := Aside0.mk A90
      clear A90
      by_cases c10 : t218 = t219
      · rw [if_pos c10] at H
        have c10b0 : (t218 == t219) = true := beq_iff_eq.mpr c10
        have c10b1 : (t218 != t219) = false := bne_eq_false_iff_eq.mpr c10
        clear c10
        replace H := Option.bind_eq_some_iff.mp H
        obtain ⟨t220, A110, H⟩ := H
        replace H : ((heraldref03_Sqrt.f k a0).bind fun t221 => (some (t220 == t221))) = some r := H
        have A11 := Aside0.mk A110
        clear A110
        replace H := Option.bind_eq_some_iff.mp H
        obtain ⟨t221, A120, H⟩ := H
        replace H : (some (t220 == t221)) = some r := H
        have A12 := Aside0.mk A120
        clear A120
        obtain rfl := Option.some.inj H
        go_enter Try.func9, Try.ntmps9
        go_wp2_with (first | ((with_reducible refine gate_callee (f := 10) rfl ?_); refine goesL_ (some 5) rfl rfl Try.func10 (by kernel_rfl) rfl #[] rfl (by (try simp only [List.map_toArray, List.map_cons, List.map_nil]); first | done | rfl | (simp only [List.length_drop, List.length_take]; rfl)) ?_; (with_reducible refine (heraldlaw03_awake.calls k  true _ A3.out).mono ?_); rintro e w13 ⟨rfl, hb⟩; refine ⟨_, rfl, ?_⟩; have n0_ := Aside0.mk (below_step (by repeat (first | (with_reducible first | exact HB.out | apply below_alloc | apply pw_below_drewN | apply below_drew1) | exact HB.out)) hb); clear HB; have HB := n0_; clear n0_; (try clear hb); (try clear hb2); (try clear hk); (try clear hi)) | (go_at_call 21; (with_reducible refine (single_Sub.calls a0 a1 t216 _ A5.out).mono ?_); rintro e w' ⟨rfl, ⟨nd, rfl⟩⟩) | (go_at_call 22; (with_reducible refine (heraldref03_Sub.calls k a0 a1 t217 _ A6.out).mono ?_); rintro e w' ⟨rfl, ⟨nd, rfl⟩⟩) | (go_at_call 23; (with_reducible refine (single_Div.calls a0 a1 t218 _ A8.out).mono ?_); rintro e w' ⟨rfl, ⟨nd, rfl⟩⟩) | (go_at_call 24; (with_reducible refine (heraldref03_Div.calls k a0 a1 t219 _ A9.out).mono ?_); rintro e w' ⟨rfl, ⟨nd, rfl⟩⟩) | (go_at_call 25; (with_reducible refine (single_Sqrt.calls a0 t220 _ A11.out).mono ?_); rintro e w' ⟨rfl, ⟨nd, rfl⟩⟩) | (go_at_call 26; (with_reducible refine (heraldref03_Sqrt.calls k a0 t221 _ A12.out).mono ?_); rintro e w' ⟨rfl, ⟨nd, rfl⟩⟩))
        go_ret
        exact ⟨by first | rfl | (simp [errW_none, errW_some] <;> rfl) | (simp [*, errW_none, errW_some] <;> rfl), by repeat (first | (with_reducible first | exact HB.out | apply below_alloc | apply pw_below_drewN | apply below_drew1) | exact HB.out)⟩
      · rw [if_neg c10] at H
        have c10b0 : (t218 == t219) = false := beq_eq_false_iff_ne.mpr c10
        have c10b1 : (t218 != t219) = true := bne_iff_ne.mpr c10
        obtain rfl := Option.some.inj H
        go_enter Try.func9, Try.ntmps9
        go_wp2_with (first | ((with_reducible refine gate_callee (f := 10) rfl ?_); refine goesL_ (some 5) rfl rfl Try.func10 (by kernel_rfl) rfl #[] rfl (by (try simp only [List.map_toArray, List.map_cons, List.map_nil]); first | done | rfl | (simp only [List.length_drop, List.length_take]; rfl)) ?_; (with_reducible refine (heraldlaw03_awake.calls k  true _ A3.out).mono ?_); rintro e w14 ⟨rfl, hb⟩; refine ⟨_, rfl, ?_⟩; have n0_ := Aside0.mk (below_step (by repeat (first | (with_reducible first | exact HB.out | apply below_alloc | apply pw_below_drewN | apply below_drew1) | exact HB.out)) hb); clear HB; have HB := n0_; clear n0_; (try clear hb); (try clear hb2); (try clear hk); (try clear hi)) | (go_at_call 21; (with_reducible refine (single_Sub.calls a0 a1 t216 _ A5.out).mono ?_); rintro e w' ⟨rfl, ⟨nd, rfl⟩⟩) | (go_at_call 22; (with_reducible refine (heraldref03_Sub.calls k a0 a1 t217 _ A6.out).mono ?_); rintro e w' ⟨rfl, ⟨nd, rfl⟩⟩) | (go_at_call 23; (with_reducible refine (single_Div.calls a0 a1 t218 _ A8.out).mono ?_); rintro e w' ⟨rfl, ⟨nd, rfl⟩⟩) | (go_at_call 24; (with_reducible refine (heraldref03_Div.calls k a0 a1 t219 _ A9.out).mono ?_); rintro e w' ⟨rfl, ⟨nd, rfl⟩⟩))
        go_ret
        exact ⟨by first | rfl | (simp [errW_none, errW_some] <;> rfl) | (simp [*, errW_none, errW_some] <;> rfl), by repeat (first | (with_reducible first | exact HB.out | apply below_alloc | apply pw_below_drewN | apply below_drew1) | exact HB.out)⟩
    · rw [if_neg c7] at H
      have c7b0 : (t216 == t217) = false := beq_eq_false_iff_ne.mpr c7
      have c7b1 : (t216 != t217) = true := bne_iff_ne.mpr c7
      obtain rfl := Option.some.inj H
      go_enter Try.func9, Try.ntmps9
      go_wp2_with (first | ((with_reducible refine gate_callee (f := 10) rfl ?_); refine goesL_ (some 5) rfl rfl Try.func10 (by kernel_rfl) rfl #[] rfl (by (try simp only [List.map_toArray, List.map_cons, List.map_nil]); first | done | rfl | (simp only [List.length_drop, List.length_take]; rfl)) ?_; (with_reducible refine (heraldlaw03_awake.calls k  true _ A3.out).mono ?_); rintro e w15 ⟨rfl, hb⟩; refine ⟨_, rfl, ?_⟩; have n0_ := Aside0.mk (below_step (by repeat (first | (with_reducible first | exact HB.out | apply below_alloc | apply pw_below_drewN | apply below_drew1) | exact HB.out)) hb); clear HB; have HB := n0_; clear n0_; (try clear hb); (try clear hb2); (try clear hk); (try clear hi)) | (go_at_call 21; (with_reducible refine (single_Sub.calls a0 a1 t216 _ A5.out).mono ?_); rintro e w' ⟨rfl, ⟨nd, rfl⟩⟩) | (go_at_call 22; (with_reducible refine (heraldref03_Sub.calls k a0 a1 t217 _ A6.out).mono ?_); rintro e w' ⟨rfl, ⟨nd, rfl⟩⟩))
      go_ret
      exact ⟨by first | rfl | (simp [errW_none, errW_some] <;> rfl) | (simp [*, errW_none, errW_some] <;> rfl), by repeat (first | (with_reducible first | exact HB.out | apply below_alloc | apply pw_below_drewN | apply below_drew1) | exact HB.out)⟩
  · replace c4 := Bool.eq_false_iff.mpr c4
    subst c4
    have H1 : (some false) = some r := by rw [if_neg (show ¬ (false = true) by decide)] at H; exact H
    clear H
    have H := H1
    clear H1
    obtain rfl := Option.some.inj H
    go_enter Try.func9, Try.ntmps9
    go_wp2_with (first | ((with_reducible refine gate_callee (f := 10) rfl ?_); refine goesL_ (some 5) rfl rfl Try.func10 (by kernel_rfl) rfl #[] rfl (by (try simp only [List.map_toArray, List.map_cons, List.map_nil]); first | done | rfl | (simp only [List.length_drop, List.length_take]; rfl)) ?_; (with_reducible refine (heraldlaw03_awake.calls k  false _ A3.out).mono ?_); rintro e w16 ⟨rfl, hb⟩; refine ⟨_, rfl, ?_⟩; have n0_ := Aside0.mk (below_step (by repeat (first | (with_reducible first | exact HB.out | apply below_alloc | apply pw_below_drewN | apply below_drew1) | exact HB.out)) hb); clear HB; have HB := n0_; clear n0_; (try clear hb); (try clear hb2); (try clear hk); (try clear hi)))
    go_ret
    exact ⟨by first | rfl | (simp [errW_none, errW_some] <;> rfl) | (simp [*, errW_none, errW_some] <;> rfl), by repeat (first | (with_reducible first | exact HB.out | apply below_alloc | apply pw_below_drewN | apply below_drew1) | exact HB.out)⟩
/-- THE ONE PURE STATEMENT of heraldlaw03_SingleDivides: yours. -/
def heraldlaw03_SingleDivides.Pure : Prop := ∀ (a0 : Int) (a1 : Int), (Lit.int .u32 a0).wf = true → (Lit.int .u32 a1).wf = true → ∃ k, heraldlaw03_SingleDivides.f k a0 a1 = some true
theorem heraldlaw03_SingleDivides.walk (P : heraldlaw03_SingleDivides.Pure) (a0 : Int) (a1 : Int) (w : World) (w0 : (Lit.int .u32 a0).wf = true) (w1 : (Lit.int .u32 a1).wf = true) :
    Calls Try.prog 9 #[.int .u32 a0, .int .u32 a1] w fun e w' => e = .returned (.bool true) ∧ Below w.heap.size w w' := by
  obtain ⟨k, h⟩ := P a0 a1 w0 w1
  refine (heraldlaw03_SingleDivides.calls k a0 a1 true w h).mono ?_
  rintro e w' ⟨rfl, hd⟩
  exact ⟨rfl, hd⟩
end Go.Proofs.Yteecekhfpfnepaa.PAll
end

section
namespace Go.Proofs.Yteecekhfpfnepaa.Sg
/-- Half to even: n over 2^d. -/
def rhe (n d : Nat) : Nat := n / 2 ^ d + (if 2 ^ d < 2 * (n % 2 ^ d) ∨ (2 ^ d = 2 * (n % 2 ^ d) ∧ n / 2 ^ d % 2 = 1) then 1 else 0)
theorem rhe_small {n d : Nat} (h : 2 * n < 2 ^ d) : rhe n d = 0 := by
  unfold rhe
  rw [Nat.div_eq_of_lt (by omega), Nat.mod_eq_of_lt (by omega), if_neg (by omega)]
theorem rhe_zero (n : Nat) : rhe n 0 = n := by
  unfold rhe
  rw [Nat.pow_zero, Nat.div_one, Nat.mod_one, if_neg (by omega)]; rfl
theorem cut_even (neg : Bool) (n d : Nat) : Ieee.Toward.even.cut neg n d = rhe n d := by
  unfold Ieee.Toward.cut
  simp only [Nat.one_shiftLeft]
  by_cases h : d ≤ n.log2 + 2
  · rw [Nat.min_eq_left h]
    unfold rhe
    congr 1
    by_cases h1 : 2 ^ d < 2 * (n % 2 ^ d)
    · simp [h1]
    · by_cases h2 : 2 ^ d = 2 * (n % 2 ^ d)
      · by_cases h3 : n / 2 ^ d % 2 = 1
        · simp [h3, ← h2]
        · simp [h1, h3]
      · simp [h1, h2]
  · rw [Nat.min_eq_right (by omega)]
    have hn : n < 2 ^ (n.log2 + 1) := Nat.lt_log2_self
    have e1 : 2 ^ (n.log2 + 2) = 2 ^ (n.log2 + 1) * 2 := Nat.pow_succ ..
    have e2 : 2 ^ (n.log2 + 2) ≤ 2 ^ d := Nat.pow_le_pow_right (by omega) (by omega)
    rw [rhe_small (by omega), Nat.div_eq_of_lt (by omega), Nat.mod_eq_of_lt (by omega)]
    have h1 : ¬ 2 ^ (n.log2 + 2) < 2 * n := by omega
    simp [h1]
/-- The rung nearest to m 2^e, infinity and all. -/
def lastP (m : Nat) (e : Int) : Int := max (e + m.log2 - 23) (-149)
def rung (m : Nat) (e : Int) : Nat := if m = 0 then 0 else min ((lastP m e + 149).toNat * 8388608 + rhe (m <<< (e - lastP m e).toNat) (lastP m e - e).toNat) 2139095040
theorem nearest_eq (neg : Bool) (m : Nat) (e : Int) : Ieee.single.nearest neg m e = Ieee.single.word neg (rung m e) := by
  unfold Ieee.Format.nearest rung
  by_cases h : m = 0
  · rw [if_pos h, if_pos h]
  · rw [if_neg h, if_neg h]
    simp only [cut_even]
    rfl
end Go.Proofs.Yteecekhfpfnepaa.Sg
end

section
namespace Go.Proofs.Yteecekhfpfnepaa.Sg
open Go.RowKit Go.Proofs.Yteecekhfpfnepaa.PAll Go.Proofs.YteecekhfpfnepaaW.PrintWords Go.Proofs.YteecekhfpfnepaaW.PrintLast Go.Proofs.YteecekhfpfnepaaW.PrintMore
set_option linter.unusedVariables false
set_option linter.unusedSimpArgs false
theorem wrap_in {a : Int} (h0 : -9223372036854775808 ≤ a) (h1 : a ≤ 9223372036854775807) : wrap64 a = a := by unfold wrap64; omega
theorem u64_eq (a : Int) : IntKind.u64.wrap a = a % 18446744073709551616 := rfl
theorem u64_in {a : Int} (h0 : 0 ≤ a) (h1 : a < 18446744073709551616) : IntKind.u64.wrap a = a := by rw [u64_eq]; omega
theorem pow_pos' (n : Nat) : 0 < 2 ^ n := Nat.two_pow_pos n
theorem cast_pow (n : Nat) : ((2 ^ n : Nat) : Int) = 2 ^ n := by push_cast; rfl
theorem pow63 (n : Nat) (h : n ≤ 63) : 2 ^ n ≤ 9223372036854775808 := by
  have := Nat.pow_le_pow_right (show 0 < 2 by omega) h
  exact this
theorem shl_u (m t : Nat) (ht : t ≤ 64) (h : m * 2 ^ t < 18446744073709551616) : shl .u64 (m : Int) (t : Int) = ((m * 2 ^ t : Nat) : Int) := by
  unfold shl
  rw [show min (t : Int).toNat IntKind.u64.bits = t from by show min (t : Int).toNat 64 = t; omega, ← cast_pow, ← Int.natCast_mul, u64_in (by omega) (by omega)]
theorem shr_u (m t : Nat) (ht : t ≤ 64) : shr .u64 (m : Int) (t : Int) = ((m / 2 ^ t : Nat) : Int) := by
  unfold shr
  rw [show min (t : Int).toNat IntKind.u64.bits = t from by show min (t : Int).toNat 64 = t; omega, ← cast_pow, ← Int.natCast_ediv]
theorem and_u (a c : Nat) (ha : a < 18446744073709551616) (hc : c < 18446744073709551616) : bits .and .u64 (a : Int) (c : Int) = ((a &&& c : Nat) : Int) := by
  show IntKind.u64.wrap ((BitVec.ofInt 64 (a : Int) &&& BitVec.ofInt 64 (c : Int)).toNat : Int) = _
  rw [BitVec.toNat_and, BitVec.ofInt_natCast, BitVec.ofInt_natCast, BitVec.toNat_ofNat, BitVec.toNat_ofNat, Nat.mod_eq_of_lt (by omega), Nat.mod_eq_of_lt (by omega)]
  have : a &&& c ≤ a := Nat.and_le_left
  exact u64_in (by omega) (by omega)
theorem mask_u (m s : Nat) (hm : m < 18446744073709551616) (hs : s ≤ 63) : bits .and .u64 (m : Int) (IntKind.u64.wrap (shl .u64 1 (s : Int) - 1)) = ((m % 2 ^ s : Nat) : Int) := by
  have hp := pow63 s hs
  have hp1 := pow_pos' s
  rw [show (1 : Int) = ((1 : Nat) : Int) from rfl, shl_u 1 s (by omega) (by omega), Nat.one_mul, show ((2 ^ s : Nat) : Int) - ((1 : Nat) : Int) = ((2 ^ s - 1 : Nat) : Int) from by omega, u64_in (by omega) (by omega), and_u _ _ hm (by omega), Nat.and_two_pow_sub_one_eq_mod]
theorem odd_u (m : Nat) (hm : m < 18446744073709551616) : bits .and .u64 (m : Int) 1 = ((m % 2 : Nat) : Int) := by
  rw [show (1 : Int) = ((1 : Nat) : Int) from rfl, and_u _ _ hm (by omega), Nat.and_one_is_mod]
theorem shl_one (s : Nat) (hs : s ≤ 63) : shl .u64 1 (s : Int) = ((2 ^ s : Nat) : Int) := by
  have hp := pow63 s hs
  rw [show (1 : Int) = ((1 : Nat) : Int) from rfl, shl_u 1 s (by omega) (by omega), Nat.one_mul]
theorem pow_half (s : Nat) (h : 1 ≤ s) : 2 ^ s = 2 * 2 ^ (s - 1) := by
  obtain ⟨t, rfl⟩ : ∃ t, s = t + 1 := ⟨s - 1, by omega⟩
  rw [Nat.pow_succ, Nat.mul_comm]; rfl
theorem rhe_lt (m s : Nat) (hm : m < 18446744073709551616) (hs : 1 ≤ s) : rhe m s ≤ 9223372036854775808 ∧ m / 2 ^ s < 9223372036854775808 := by
  have h1 : 2 ≤ 2 ^ s := by rw [pow_half s hs]; have := pow_pos' (s - 1); omega
  have h2 : m / 2 ^ s ≤ m / 2 := Nat.div_le_div_left h1 (by omega)
  unfold rhe
  split <;> omega
/-- What down tells. -/
theorem down_up (m : Nat) (t : Nat) (ht : t ≤ 64) (h : m * 2 ^ t < 18446744073709551616) (s : Int) (hs : s = -(t : Int)) : single_down.f (m : Int) s = some ((m * 2 ^ t : Nat) : Int) := by
  subst hs
  unfold single_down.f
  rw [if_pos (by omega), wrap_in (by omega) (by omega), if_pos (by omega), Int.neg_neg, shl_u m t ht h]
theorem down_down (m s : Nat) (hm : m < 18446744073709551616) (hs : 1 ≤ s) (hs2 : (s : Int) ≤ 9223372036854775807) : single_down.f (m : Int) (s : Int) = some ((rhe m s : Nat) : Int) := by
  unfold single_down.f
  rw [if_neg (by omega)]
  by_cases h64 : s > 64
  · rw [if_pos (by omega), rhe_small]
    · rfl
    · have : 2 ^ 65 ≤ 2 ^ s := Nat.pow_le_pow_right (by omega) (by omega)
      have e : 2 ^ 65 = 36893488147419103232 := by decide
      omega
  rw [if_neg (by omega), wrap_in (by omega) (by omega), if_pos (by omega), show (s : Int) - 1 = ((s - 1 : Nat) : Int) from by omega, shl_one (s - 1) (by omega)]
  have hph := pow_half s hs
  have hp1 := pow_pos' (s - 1)
  by_cases h63 : s < 64
  · rw [if_pos (by omega), if_pos (by omega), mask_u m s hm (by omega), shr_u m s (by omega)]
    obtain ⟨hr1, hr2⟩ := rhe_lt m s hm hs
    have hmod : m % 2 ^ s < 2 ^ s := Nat.mod_lt _ (pow_pos' s)
    unfold rhe
    obtain ⟨q, hq⟩ : ∃ q, m / 2 ^ s = q := ⟨_, rfl⟩
    obtain ⟨rr, hrr⟩ : ∃ rr, m % 2 ^ s = rr := ⟨_, rfl⟩
    obtain ⟨hh, hhh⟩ : ∃ hh, 2 ^ (s - 1) = hh := ⟨_, rfl⟩
    rw [hq] at hr2 ⊢
    rw [hrr] at hmod ⊢
    rw [hhh] at hph hp1 ⊢
    rw [hph] at hmod ⊢
    rw [odd_u q (by omega), u64_in (by omega) (by omega)]
    by_cases c1 : rr > hh
    · rw [if_pos (by omega), if_pos (.inl (by omega))]; rfl
    · rw [if_neg (by omega)]
      by_cases c2 : rr = hh
      · rw [if_pos (by omega)]
        by_cases c3 : q % 2 = 1
        · rw [if_pos (by omega), if_pos (.inr ⟨by omega, c3⟩)]; rfl
        · rw [if_neg (by omega), if_neg (by omega)]; rfl
      · rw [if_neg (by omega), if_neg (by omega)]; rfl
  · obtain rfl : s = 64 := by omega
    rw [if_neg (by omega)]
    have e1 : 2 ^ (64 - 1) = 9223372036854775808 := by decide
    have e2 : 2 ^ 64 = 18446744073709551616 := by decide
    have er : rhe m 64 = if 9223372036854775808 < m then 1 else 0 := by
      unfold rhe
      rw [e2, Nat.div_eq_of_lt hm, Nat.mod_eq_of_lt hm]
      by_cases c1 : 9223372036854775808 < m
      · rw [if_pos (.inl (by omega)), if_pos c1]
      · rw [if_neg (by omega), if_neg c1]
    rw [e1, er]
    by_cases c1 : 9223372036854775808 < m
    · rw [if_pos (by omega), if_pos c1]; rfl
    · rw [if_neg (by omega), if_neg c1]
      split
      · rw [if_neg (by decide)]; rfl
      · rfl
/-- The kept digits, rounded, where the last one is at a place. -/
def keptQ (m : Nat) (e last : Int) : Nat := rhe (m <<< (e - last).toNat) (last - e).toNat
theorem log_bounds (m : Nat) (hm : m ≠ 0) : 2 ^ m.log2 ≤ m ∧ m < 2 ^ (m.log2 + 1) := ⟨Nat.log2_self_le hm, Nat.lt_log2_self⟩
theorem log_lt (m : Nat) (hm : m ≠ 0) (h : m < 18446744073709551616) : m.log2 ≤ 63 := by
  have : m.log2 < 64 := (Nat.log2_lt hm).2 (by omega)
  omega
theorem rhe_le (n d : Nat) : n / 2 ^ d ≤ rhe n d ∧ rhe n d ≤ n / 2 ^ d + 1 := by unfold rhe; split <;> omega
/-- The kept digits are at most 24, and no fewer where the place is not the least. -/
theorem kept_up (m : Nat) (e last : Int) (hm : m ≠ 0) (h : e + (m.log2 : Int) - 23 ≤ last) : keptQ m e last ≤ 16777216 := by
  obtain ⟨h1, h2⟩ := log_bounds m hm
  unfold keptQ
  by_cases hs : last ≤ e
  · rw [show (last - e).toNat = 0 by omega, rhe_zero, Nat.shiftLeft_eq]
    obtain ⟨t, ht⟩ : ∃ t, (e - last).toNat = t := ⟨_, rfl⟩
    rw [ht]
    have h3 : m * 2 ^ t < 2 ^ (m.log2 + 1) * 2 ^ t := Nat.mul_lt_mul_of_pos_right h2 (pow_pos' t)
    rw [← Nat.pow_add] at h3
    have h4 : 2 ^ (m.log2 + 1 + t) ≤ 2 ^ 24 := Nat.pow_le_pow_right (by omega) (by omega)
    have h5 : 2 ^ 24 = 16777216 := by decide
    omega
  · rw [show (e - last).toNat = 0 by omega, Nat.shiftLeft_zero]
    obtain ⟨s, hs'⟩ : ∃ s, (last - e).toNat = s := ⟨_, rfl⟩
    rw [hs']
    have h3 : 2 ^ (m.log2 + 1) ≤ 2 ^ (24 + s) := Nat.pow_le_pow_right (by omega) (by omega)
    have h4 : m / 2 ^ s < 2 ^ 24 := by
      apply Nat.div_lt_of_lt_mul
      rw [← Nat.pow_add, Nat.add_comm s 24]
      omega
    have h5 : 2 ^ 24 = 16777216 := by decide
    have h6 := (rhe_le m s).2
    omega
theorem kept_low (m : Nat) (e last : Int) (hm : m ≠ 0) (h : last = e + (m.log2 : Int) - 23) : 8388608 ≤ keptQ m e last := by
  obtain ⟨h1, h2⟩ := log_bounds m hm
  unfold keptQ
  have h5 : 2 ^ 23 = 8388608 := by decide
  by_cases hs : last ≤ e
  · rw [show (last - e).toNat = 0 by omega, rhe_zero, Nat.shiftLeft_eq]
    obtain ⟨t, ht⟩ : ∃ t, (e - last).toNat = t := ⟨_, rfl⟩
    rw [ht]
    have h3 : 2 ^ m.log2 * 2 ^ t ≤ m * 2 ^ t := Nat.mul_le_mul_right _ h1
    rw [← Nat.pow_add, show m.log2 + t = 23 by omega] at h3
    omega
  · rw [show (e - last).toNat = 0 by omega, Nat.shiftLeft_zero]
    obtain ⟨s, hs'⟩ : ∃ s, (last - e).toNat = s := ⟨_, rfl⟩
    rw [hs']
    have h4 : 2 ^ 23 ≤ m / 2 ^ s := by
      rw [Nat.le_div_iff_mul_le (pow_pos' s), ← Nat.pow_add, show 23 + s = m.log2 by omega]
      exact h1
    have h6 := (rhe_le m s).1
    omega
theorem lastP_cases (m : Nat) (e : Int) : (lastP m e = e + (m.log2 : Int) - 23 ∧ -149 ≤ lastP m e) ∨ (lastP m e = -149 ∧ e + (m.log2 : Int) - 23 ≤ -149) := by
  unfold lastP; omega
/-- The rung of a number that is not 0, out of its kept digits. -/
theorem rung_eq (m : Nat) (e : Int) (hm : m ≠ 0) : rung m e = min ((lastP m e + 149).toNat * 8388608 + keptQ m e (lastP m e)) 2139095040 := by
  unfold rung keptQ
  rw [if_neg hm]
theorem kept_ok (m : Nat) (e : Int) (hm : m ≠ 0) : keptQ m e (lastP m e) ≤ 16777216 ∧ (keptQ m e (lastP m e) < 8388608 → lastP m e = -149) ∧ -149 ≤ lastP m e := by
  rcases lastP_cases m e with ⟨h1, h2⟩ | ⟨h1, h2⟩
  · exact ⟨kept_up m e _ hm (by omega), fun h => absurd (kept_low m e _ hm h1) (by omega), h2⟩
  · exact ⟨kept_up m e _ hm (by omega), fun _ => h1, by omega⟩
theorem rung_small (m : Nat) (e : Int) (hm : m < 18446744073709551616) (he : e < -300) : rung m e = 0 := by
  by_cases h0 : m = 0
  · rw [h0]; rfl
  have hl := log_lt m h0 hm
  rw [rung_eq m e h0]
  have e1 : lastP m e = -149 := by unfold lastP; omega
  rw [e1]
  unfold keptQ
  rw [show (e - -149).toNat = 0 by omega, Nat.shiftLeft_zero, rhe_small]
  · rfl
  · have : 2 ^ 65 ≤ 2 ^ (-149 - e).toNat := Nat.pow_le_pow_right (by omega) (by omega)
    have e2 : 2 ^ 65 = 36893488147419103232 := by decide
    omega
theorem rung_big (m : Nat) (e : Int) (h0 : m ≠ 0) (he : 200 < e) : rung m e = 2139095040 := by
  rw [rung_eq m e h0]
  have e1 : 177 < lastP m e := by unfold lastP; omega
  omega
/-- The word of a sign and a rung, as a number. -/
def sgn (neg : Bool) : Int := if neg then 2147483648 else 0
def NR (neg : Bool) (m : Nat) (e : Int) : Int := sgn neg + (rung m e : Int)
theorem rung_le (m : Nat) (e : Int) : rung m e ≤ 2139095040 := by
  unfold rung; split
  · omega
  · exact Nat.min_le_right _ _
theorem or32 (a c : Nat) (ha : a < 4294967296) (hc : c < 4294967296) : bits .or .u32 (a : Int) (c : Int) = ((a ||| c : Nat) : Int) := by
  show IntKind.u32.wrap ((BitVec.ofInt 32 (a : Int) ||| BitVec.ofInt 32 (c : Int)).toNat : Int) = _
  rw [BitVec.toNat_or, BitVec.ofInt_natCast, BitVec.ofInt_natCast, BitVec.toNat_ofNat, BitVec.toNat_ofNat, Nat.mod_eq_of_lt (by omega), Nat.mod_eq_of_lt (by omega)]
  have h : a ||| c < 2 ^ 32 := Nat.or_lt_two_pow (by omega) (by omega)
  show ((a ||| c : Nat) : Int) % 4294967296 = _
  omega
def sgnN (neg : Bool) : Nat := if neg then 2147483648 else 0
theorem sgn_cast (neg : Bool) : sgn neg = (sgnN neg : Int) := by cases neg <;> rfl
theorem or_u32 (neg : Bool) (x : Nat) (hx : x < 2147483648) : bits .or .u32 (sgn neg) (x : Int) = sgn neg + (x : Int) := by
  rw [sgn_cast]
  cases neg
  · rw [show sgnN false = 0 from rfl, or32 _ _ (by omega) (by omega), Nat.zero_or]; omega
  · have e := Nat.two_pow_add_eq_or_of_lt (i := 31) (b := x) (by omega) 1
    rw [show sgnN true = 2147483648 from rfl, or32 _ _ (by omega) (by omega), show (2147483648 : Nat) = 2 ^ 31 * 1 from by decide, ← e]; omega
theorem or2_u32 (neg : Bool) (x y : Nat) (hx : x < 256) (hy : y < 8388608) : bits .or .u32 (bits .or .u32 (sgn neg) ((x * 8388608 : Nat) : Int)) (y : Int) = sgn neg + ((x * 8388608 + y : Nat) : Int) := by
  rw [or_u32 neg _ (by omega), sgn_cast]
  obtain ⟨g, hg, hg2⟩ : ∃ g, sgnN neg = g * 8388608 ∧ g ≤ 256 := by
    cases neg
    · exact ⟨0, rfl, by omega⟩
    · exact ⟨256, rfl, by omega⟩
  rw [hg]
  have e := Nat.two_pow_add_eq_or_of_lt (i := 23) (b := y) (by omega) (g + x)
  rw [show ((g * 8388608 : Nat) : Int) + ((x * 8388608 : Nat) : Int) = ((2 ^ 23 * (g + x) : Nat) : Int) from by rw [show 2 ^ 23 = 8388608 from by decide]; omega, or32 _ _ (by rw [show 2 ^ 23 = 8388608 from by decide]; omega) (by omega), ← e, show 2 ^ 23 = 8388608 from by decide]
  omega
/-- What the program's Near and the reference's near do at the end: the word of a place and of kept digits. -/
def fin (s last : Int) (q : Nat) : Int := if q < 8388608 then s + q else if last + 150 ≥ 255 then s + 2139095040 else s + (last + 150) * 8388608 + (q - 8388608)
theorem fin_eq (neg : Bool) (m : Nat) (e : Int) (hm : m ≠ 0) : (if keptQ m e (lastP m e) = 16777216 then fin (sgn neg) (lastP m e + 1) 8388608 else fin (sgn neg) (lastP m e) (keptQ m e (lastP m e))) = NR neg m e := by
  obtain ⟨h1, h2, h3⟩ := kept_ok m e hm
  unfold NR fin
  rw [rung_eq m e hm]
  generalize keptQ m e (lastP m e) = q at *
  generalize lastP m e = l at *
  by_cases c : q = 16777216
  · rw [if_pos c, if_neg (by omega)]
    split <;> omega
  · rw [if_neg c]
    split
    · have := h2 (by omega); omega
    · split <;> omega
theorem lenI_log (m : Nat) (hm : m ≠ 0) : lenI (m : Int) = (m.log2 : Int) + 1 := by unfold lenI; rw [if_neg (by omega)]; rfl
/-- down at the place that Near takes. -/
theorem down_kept (m : Nat) (e : Int) (h0 : m ≠ 0) (hm : m < 18446744073709551616) (he0 : -300 ≤ e) (he1 : e ≤ 200) : single_down.f (m : Int) (lastP m e - e) = some ((keptQ m e (lastP m e) : Nat) : Int) := by
  have hl := log_lt m h0 hm
  have hb := (log_bounds m h0).2
  unfold keptQ
  have hlp : lastP m e = max (e + m.log2 - 23) (-149) := rfl
  by_cases hs : lastP m e ≤ e
  · obtain ⟨t, ht⟩ : ∃ t, (e - lastP m e).toNat = t := ⟨_, rfl⟩
    have h4 : m.log2 + 1 + t ≤ 24 := by omega
    have h3 : m * 2 ^ t < 2 ^ (m.log2 + 1) * 2 ^ t := Nat.mul_lt_mul_of_pos_right hb (pow_pos' t)
    rw [← Nat.pow_add] at h3
    have h5 : 2 ^ (m.log2 + 1 + t) ≤ 2 ^ 24 := Nat.pow_le_pow_right (by omega) h4
    have h6 : 2 ^ 24 = 16777216 := by decide
    rw [down_up m t (by omega) (by omega) _ (by omega), show (lastP m e - e).toNat = 0 by omega, rhe_zero, ht, Nat.shiftLeft_eq]
  · obtain ⟨s, hs'⟩ : ∃ s, (lastP m e - e).toNat = s := ⟨_, rfl⟩
    rw [show lastP m e - e = (s : Int) from by omega, down_down m s hm (by omega) (by omega), show (e - lastP m e).toNat = 0 by omega, Nat.shiftLeft_zero, Int.toNat_natCast]
theorem near_j1 (neg : Bool) (last : Int) (q k : Nat) (h1 : -149 ≤ last) (h2 : last ≤ 1000) (hq : q < 16777216) : single_Near.j1 (k + 1) (sgn neg) last (q : Int) = some (fin (sgn neg) last q) := by
  simp only [single_Near.j1]
  unfold fin
  rw [wrap_in (by omega) (by omega)]
  by_cases c1 : q < 8388608
  · rw [if_pos (by omega), if_pos c1, show (q : Int) % 4294967296 = (q : Int) from by omega, or_u32 neg q (by omega)]
  · rw [if_neg (by omega), if_neg c1]
    by_cases c2 : last + 150 ≥ 255
    · rw [if_pos c2, if_pos c2, show (2139095040 : Int) = ((2139095040 : Nat) : Int) from rfl, or_u32 neg _ (by omega)]
    · rw [if_neg c2, if_neg c2]
      obtain ⟨x, hx⟩ : ∃ x : Nat, last + 150 = (x : Int) := ⟨(last + 150).toNat, by omega⟩
      rw [hx, u64_in (by omega) (by omega), show ((x : Int) % 4294967296 * 8388608 % 4294967296) = ((x * 8388608 : Nat) : Int) from by omega, show ((q : Int) - 8388608) % 4294967296 = ((q - 8388608 : Nat) : Int) from by omega, or2_u32 neg x (q - 8388608) (by omega) (by omega)]
      congr 1
      omega
theorem near_j0 (neg : Bool) (m : Nat) (e : Int) (h0 : m ≠ 0) (hm : m < 18446744073709551616) (k : Nat) (hk : 2 ≤ k) : single_Near.j0 k e (sgn neg) (m : Int) = some (NR neg m e) := by
  obtain ⟨k, rfl⟩ : ∃ j, k = j + 2 := ⟨k - 2, by omega⟩
  simp only [single_Near.j0]
  by_cases c1 : e > 200
  · rw [if_pos c1, show (2139095040 : Int) = ((2139095040 : Nat) : Int) from rfl, or_u32 neg _ (by omega), NR, rung_big m e h0 c1]
  · rw [if_neg c1]
    by_cases c2 : e < -300
    · rw [if_pos c2, NR, rung_small m e hm c2]; simp
    · rw [if_neg c2]
      have hl := log_lt m h0 hm
      obtain ⟨h1, h2, h3⟩ := kept_ok m e h0
      have hlast : mx (-149) (wrap64 (wrap64 (e + (((m.log2 : Nat) : Int) + 1)) - 24)) = lastP m e := by
        rw [wrap_in (a := e + _) (by omega) (by omega), wrap_in (by omega) (by omega)]
        unfold mx lastP
        split <;> omega
      have hlp : lastP m e = max (e + m.log2 - 23) (-149) := rfl
      unfold bits_Len64.f
      rw [if_pos ⟨by omega, by omega⟩, lenI_log m h0]
      simp only [Option.bind_some]
      rw [hlast, wrap_in (a := lastP m e - e) (by omega) (by omega), down_kept m e h0 hm (by omega) (by omega)]
      simp only [Option.bind_some]
      rw [← fin_eq neg m e h0]
      by_cases c3 : keptQ m e (lastP m e) = 16777216
      · rw [if_pos (by omega), if_pos c3, wrap_in (by omega) (by omega), show (8388608 : Int) = ((8388608 : Nat) : Int) from rfl, near_j1 neg _ _ k (by omega) (by omega) (by omega)]
      · rw [if_neg (by omega), if_neg c3, near_j1 neg _ _ k (by omega) (by omega) (by omega)]
theorem near_some (a e : Int) (h0 : -9223372036854775808 ≤ a) (h1 : a ≤ 9223372036854775807) (k : Nat) (hk : 2 ≤ k) : single_Near.f k a e = some (if a = 0 then 0 else NR (decide (a < 0)) a.natAbs e) := by
  unfold single_Near.f
  by_cases c0 : a = 0
  · rw [if_pos c0, if_pos c0]
  · rw [if_neg c0, if_neg c0]
    by_cases c1 : a < 0
    · rw [if_pos c1, decide_eq_true c1, show IntKind.u64.wrap (-(IntKind.u64.wrap a)) = ((a.natAbs : Nat) : Int) from by rw [u64_eq, u64_eq]; omega]
      exact near_j0 true a.natAbs e (by omega) (by omega) k hk
    · rw [if_neg c1, decide_eq_false c1, show IntKind.u64.wrap a = ((a.natAbs : Nat) : Int) from by rw [u64_eq]; omega]
      exact near_j0 false a.natAbs e (by omega) (by omega) k hk
end Go.Proofs.Yteecekhfpfnepaa.Sg
end

section
namespace Go.Proofs.Yteecekhfpfnepaa.Sg
open Go.RowKit Go.Proofs.Yteecekhfpfnepaa.PAll Go.Proofs.YteecekhfpfnepaaW.PrintWords Go.Proofs.YteecekhfpfnepaaW.PrintLast Go.Proofs.YteecekhfpfnepaaW.PrintMore
set_option linter.unusedVariables false
set_option linter.unusedSimpArgs false
theorem length_loop : ∀ (d m k : Nat) (n : Int), m < 2 ^ d → d ≤ 64 → d + 1 ≤ k → 0 ≤ n → n + d ≤ 1000 → heraldref03_length.l0 k (m : Int) n = some (n + lenI (m : Int)) := by
  intro d
  induction d with
  | zero =>
    intro m k n hm hd hk hn0 hn1
    obtain ⟨k, rfl⟩ : ∃ j, k = j + 1 := ⟨k - 1, by omega⟩
    obtain rfl : m = 0 := by simpa using hm
    simp only [heraldref03_length.l0]
    rw [if_neg (by omega)]
    simp [lenI]
  | succ d ih =>
    intro m k n hm hd hk hn0 hn1
    obtain ⟨k, rfl⟩ : ∃ j, k = j + 1 := ⟨k - 1, by omega⟩
    simp only [heraldref03_length.l0]
    by_cases h0 : m = 0
    · subst h0
      rw [if_neg (by omega)]
      simp [lenI]
    · have h64 : 2 ^ (d + 1) ≤ 2 ^ 64 := Nat.pow_le_pow_right (by omega) hd
      have e64 : 2 ^ 64 = 18446744073709551616 := by decide
      have hh : m / 2 < 2 ^ d := by rw [Nat.pow_succ] at hm; omega
      rw [if_pos (by omega), Int.tdiv_eq_ediv_of_nonneg (by omega), u64_in (by omega) (by omega), wrap_in (by omega) (by omega), show (m : Int) / 2 = ((m / 2 : Nat) : Int) from by omega, ih (m / 2) k (n + 1) hh (by omega) (by omega) (by omega) (by omega)]
      have e1 : (2 : Int) ^ 1 = 2 := rfl
      have : lenI (m : Int) = 1 + lenI ((m : Int) / 2) := by
        by_cases h1 : m = 1
        · subst h1; decide
        · have := lenI_div (m : Int) 1 (by rw [e1]; omega)
          rw [e1] at this
          exact this
      rw [show (m : Int) / 2 = ((m / 2 : Nat) : Int) from by omega] at this
      exact congrArg some (by omega)
theorem length_some (m k : Nat) (hm : m < 18446744073709551616) (hk : 70 ≤ k) : heraldref03_length.f k (m : Int) = some (lenI (m : Int)) := by
  unfold heraldref03_length.f
  rw [length_loop 64 m k 0 hm (by omega) (by omega) (by omega) (by omega), Int.zero_add]
theorem ref_j4 (neg : Bool) (last : Int) (q k : Nat) (h1 : -149 ≤ last) (h2 : last ≤ 1000) (hq : q < 16777216) : heraldref03_near.j4 (k + 1) (sgn neg) last (q : Int) = some (fin (sgn neg) last q) := by
  have hs : sgn neg = 0 ∨ sgn neg = 2147483648 := by cases neg <;> simp [sgn]
  simp only [heraldref03_near.j4]
  unfold fin
  rw [wrap_in (by omega) (by omega)]
  by_cases c1 : q < 8388608
  · rw [if_pos (by omega), if_pos c1]
    congr 1
    omega
  · rw [if_neg (by omega), if_neg c1]
    by_cases c2 : last + 150 ≥ 255
    · rw [if_pos c2, if_pos c2]
      congr 1
      omega
    · rw [if_neg c2, if_neg c2, u64_in (by omega) (by omega)]
      congr 1
      omega
theorem ref_j3 (neg : Bool) (m : Nat) (e : Int) (h0 : m ≠ 0) (hm : m < 18446744073709551616) (he : e ≤ 400) (k : Nat) (hk : 2 ≤ k) : heraldref03_near.j3 k (sgn neg) (lastP m e) ((keptQ m e (lastP m e) : Nat) : Int) = some (NR neg m e) := by
  obtain ⟨k, rfl⟩ : ∃ j, k = j + 2 := ⟨k - 2, by omega⟩
  obtain ⟨h1, h2, h3⟩ := kept_ok m e h0
  have hl := log_lt m h0 hm
  have hlp : lastP m e = max (e + m.log2 - 23) (-149) := rfl
  simp only [heraldref03_near.j3]
  rw [← fin_eq neg m e h0]
  by_cases c3 : keptQ m e (lastP m e) = 16777216
  · rw [if_pos (by omega), if_pos c3, wrap_in (by omega) (by omega), c3, show IntKind.u64.wrap (Int.tdiv ((16777216 : Nat) : Int) 2) = ((8388608 : Nat) : Int) from by decide, ref_j4 neg _ _ k (by omega) (by omega) (by omega)]
  · rw [if_neg (by omega), if_neg c3, ref_j4 neg _ _ k (by omega) (by omega) (by omega)]
theorem ref_j2 (neg : Bool) (m : Nat) (e : Int) (h0 : m ≠ 0) (hm : m < 18446744073709551616) (he0 : -400 ≤ e) (he : e ≤ 400) (k : Nat) (hk : 3 ≤ k) : heraldref03_near.j2 k (m : Int) e (sgn neg) (lastP m e) = some (NR neg m e) := by
  obtain ⟨k, rfl⟩ : ∃ j, k = j + 1 := ⟨k - 1, by omega⟩
  have hj := ref_j3 neg m e h0 hm he k (by omega)
  have hl := log_lt m h0 hm
  have hb := (log_bounds m h0).2
  have hlp : lastP m e = max (e + m.log2 - 23) (-149) := rfl
  unfold keptQ at hj
  obtain ⟨L, hL⟩ : ∃ L, lastP m e = L := ⟨_, rfl⟩
  rw [hL] at hj hlp ⊢
  clear hL
  simp only [heraldref03_near.j2]
  rw [wrap_in (a := L - e) (by omega) (by omega)]
  by_cases hs : L ≤ e
  · obtain ⟨t, ht⟩ : ∃ t, (e - L).toNat = t := ⟨_, rfl⟩
    have h4 : m.log2 + 1 + t ≤ 24 := by omega
    have h3 : m * 2 ^ t < 2 ^ (m.log2 + 1) * 2 ^ t := Nat.mul_lt_mul_of_pos_right hb (pow_pos' t)
    rw [← Nat.pow_add] at h3
    have h5 : 2 ^ (m.log2 + 1 + t) ≤ 2 ^ 24 := Nat.pow_le_pow_right (by omega) h4
    have h6 : 2 ^ 24 = 16777216 := by decide
    rw [show (L - e).toNat = 0 by omega, rhe_zero, ht, Nat.shiftLeft_eq] at hj
    rw [if_pos (by omega), wrap_in (a := -(L - e)) (by omega) (by omega), show -(L - e) = (t : Int) from by omega, u64_in (by omega) (by omega), if_pos (by omega), shl_u m t (by omega) (by omega)]
    exact hj
  · obtain ⟨s, hs'⟩ : ∃ s, (L - e).toNat = s := ⟨_, rfl⟩
    have hse : L - e = (s : Int) := by omega
    rw [show (e - L).toNat = 0 by omega, Nat.shiftLeft_zero, hs'] at hj
    rw [hse, if_neg (by omega)]
    by_cases h64 : s ≤ 64
    · rw [if_pos (by omega), wrap_in (a := (s : Int) - 1) (by omega) (by omega), show (s : Int) - 1 = ((s - 1 : Nat) : Int) from by omega, u64_in (a := ((s - 1 : Nat) : Int)) (by omega) (by omega), shl_one (s - 1) (by omega)]
      have hph := pow_half s (by omega)
      have hp1 := pow_pos' (s - 1)
      by_cases h63 : s < 64
      · obtain ⟨hr1, hr2⟩ := rhe_lt m s hm (by omega)
        have hdm := Nat.div_add_mod m (2 ^ s)
        have hmul : m / 2 ^ s * 2 ^ s ≤ m := Nat.div_mul_le_self _ _
        have hmod : m % 2 ^ s < 2 ^ s := Nat.mod_lt _ (pow_pos' s)
        rw [if_pos (by omega), u64_in (a := (s : Int)) (by omega) (by omega), if_pos (by omega), if_pos (by omega), shr_u m s (by omega), shl_u _ s (by omega) (by omega)]
        unfold rhe at hj
        rw [Nat.mul_comm] at hdm
        obtain ⟨q, hq⟩ : ∃ q, m / 2 ^ s = q := ⟨_, rfl⟩
        obtain ⟨qs, hqs⟩ : ∃ qs, q * 2 ^ s = qs := ⟨_, rfl⟩
        obtain ⟨rr, hrr⟩ : ∃ rr, m % 2 ^ s = rr := ⟨_, rfl⟩
        obtain ⟨hh, hhh⟩ : ∃ hh, 2 ^ (s - 1) = hh := ⟨_, rfl⟩
        rw [hq] at hr2 hj hdm hmul ⊢
        rw [hqs] at hdm hmul ⊢
        rw [hrr] at hmod hj hdm
        rw [hhh] at hph hp1 ⊢
        rw [hph] at hmod hj
        rw [u64_in (a := (m : Int) - (qs : Int)) (by omega) (by omega), show (m : Int) - (qs : Int) = (rr : Int) from by omega, u64_in (a := (q : Int) + 1) (by omega) (by omega), Int.tmod_eq_emod_of_nonneg (by omega)]
        by_cases c1 : rr > hh
        · rw [if_pos (by omega)]
          rw [if_pos (.inl (by omega))] at hj
          exact hj
        · rw [if_neg (by omega)]
          by_cases c2 : rr = hh
          · rw [if_pos (by omega)]
            by_cases c3 : q % 2 = 1
            · rw [if_pos (by omega)]
              rw [if_pos (.inr ⟨by omega, c3⟩)] at hj
              exact hj
            · rw [if_neg (by omega)]
              rw [if_neg (by omega)] at hj
              exact hj
          · rw [if_neg (by omega)]
            rw [if_neg (by omega)] at hj
            exact hj
      · obtain rfl : s = 64 := by omega
        rw [if_neg (by omega)]
        have e1 : 2 ^ (64 - 1) = 9223372036854775808 := by decide
        have e2 : 2 ^ 64 = 18446744073709551616 := by decide
        have er : rhe m 64 = if 9223372036854775808 < m then 1 else 0 := by
          unfold rhe
          rw [e2, Nat.div_eq_of_lt hm, Nat.mod_eq_of_lt hm]
          by_cases c1 : 9223372036854775808 < m
          · rw [if_pos (.inl (by omega)), if_pos c1]
          · rw [if_neg (by omega), if_neg c1]
        rw [er] at hj
        rw [e1, if_pos (by omega)]
        by_cases c1 : 9223372036854775808 < m
        · rw [if_pos (by omega)]
          rw [if_pos c1] at hj
          exact hj
        · rw [if_neg (by omega)]
          rw [if_neg c1] at hj
          split
          · rw [if_neg (by decide)]; exact hj
          · exact hj
    · rw [if_neg (by omega)]
      rw [rhe_small (by
        have : 2 ^ 65 ≤ 2 ^ s := Nat.pow_le_pow_right (by omega) (by omega)
        have e2 : 2 ^ 65 = 36893488147419103232 := by decide
        omega)] at hj
      exact hj
theorem refnear_some (neg : Bool) (m : Nat) (e : Int) (hm : m < 18446744073709551616) (k : Nat) (hk : 80 ≤ k) : heraldref03_near.f k neg (m : Int) e = some (NR neg m e) := by
  have hf : heraldref03_near.f k neg (m : Int) e = heraldref03_near.j0 k (m : Int) e (sgn neg) := by
    unfold heraldref03_near.f; cases neg <;> rfl
  rw [hf]
  obtain ⟨k, rfl⟩ : ∃ j, k = j + 2 := ⟨k - 2, by omega⟩
  simp only [heraldref03_near.j0]
  by_cases h0 : m = 0
  · subst h0
    rw [if_pos (by rfl)]
    simp only [heraldref03_near.j1]
    rw [if_pos trivial, NR]
    simp [rung]
  · rw [if_neg (by omega)]
    simp only [heraldref03_near.j1]
    by_cases c1 : e < -400
    · rw [if_pos (by simp [c1]), NR, rung_small m e hm (by omega)]; simp
    · rw [if_neg (by simp; omega)]
      by_cases c2 : e > 400
      · have hs : sgn neg = 0 ∨ sgn neg = 2147483648 := by cases neg <;> simp [sgn]
        rw [if_pos c2, NR, rung_big m e h0 (by omega)]
        congr 1
        omega
      · have hl := log_lt m h0 hm
        have hlp : lastP m e = max (e + m.log2 - 23) (-149) := rfl
        rw [if_neg c2, length_some m k hm (by omega), lenI_log m h0]
        simp only [Option.bind_some]
        rw [wrap_in (a := e + _) (by omega) (by omega), wrap_in (by omega) (by omega)]
        have hj := ref_j2 neg m e h0 hm (by omega) (by omega) k (by omega)
        split
        · rw [show lastP m e = -149 from by omega] at hj; exact hj
        · rw [show lastP m e = e + ((m.log2 : Int) + 1) - 24 from by omega] at hj; exact hj
end Go.Proofs.Yteecekhfpfnepaa.Sg
end

section
namespace Go.Proofs.Yteecekhfpfnepaa.Sg
open Go.RowKit Go.Proofs.Yteecekhfpfnepaa.PAll Go.Proofs.YteecekhfpfnepaaW.PrintWords Go.Proofs.YteecekhfpfnepaaW.PrintLast Go.Proofs.YteecekhfpfnepaaW.PrintMore
set_option linter.unusedVariables false
set_option linter.unusedSimpArgs false
theorem one_one : single_Add.f 1065353216 1065353216 = some 1073741824 := by decide +kernel
theorem three_half : NR false 3 (-1) = 1069547520 := by decide +kernel
theorem awake_some (k : Nat) (hk : 80 ≤ k) : heraldlaw03_awake.f k = some true := by
  unfold heraldlaw03_awake.f
  rw [one_one]
  simp only [Option.bind_some, if_true]
  rw [near_some 3 (-1) (by omega) (by omega) k (by omega), if_neg (by decide)]
  have e : NR (decide ((3 : Int) < 0)) (3 : Int).natAbs (-1) = 1069547520 := three_half
  rw [e]
  rfl
theorem wf_u32 {a : Int} (h : (Lit.int .u32 a).wf = true) : 0 ≤ a ∧ a ≤ 4294967295 := (Lit.wf_int_iff _ _).1 h
end Go.Proofs.Yteecekhfpfnepaa.Sg
end

section
namespace Go.Proofs.Yteecekhfpfnepaa.Sg
set_option linter.unusedVariables false
set_option linter.unusedSimpArgs false
theorem rhe_exact (a s : Nat) : rhe (a * 2 ^ s) s = a := by
  have hp := pow_pos' s
  unfold rhe
  rw [Nat.mul_div_cancel _ hp, Nat.mul_mod_left, if_neg (by omega)]
  rfl
theorem rhe_scale (m D t : Nat) : rhe (m * 2 ^ t) (D + t) = rhe m D := by
  have hp := pow_pos' t
  unfold rhe
  rw [Nat.pow_add, Nat.mul_div_mul_right _ _ hp, Nat.mul_mod_mul_right]
  have h1 : (2 ^ D * 2 ^ t < 2 * (m % 2 ^ D * 2 ^ t)) ↔ (2 ^ D < 2 * (m % 2 ^ D)) := by
    rw [← Nat.mul_assoc]
    exact Nat.mul_lt_mul_right hp
  have h2 : (2 ^ D * 2 ^ t = 2 * (m % 2 ^ D * 2 ^ t)) ↔ (2 ^ D = 2 * (m % 2 ^ D)) := by
    rw [← Nat.mul_assoc]
    exact Nat.mul_right_cancel_iff hp
  simp only [h1, h2]
theorem log2_scale (m t : Nat) (hm : m ≠ 0) : (m * 2 ^ t).log2 = m.log2 + t := by
  have hp := pow_pos' t
  obtain ⟨h1, h2⟩ := log_bounds m hm
  rw [Nat.log2_eq_iff (Nat.mul_ne_zero hm (by omega))]
  constructor
  · rw [Nat.pow_add]; exact Nat.mul_le_mul_right _ h1
  · rw [show m.log2 + t + 1 = (m.log2 + 1) + t by omega, Nat.pow_add]; exact Nat.mul_lt_mul_of_pos_right h2 hp
theorem rung_scale (m t : Nat) (e : Int) : rung (m * 2 ^ t) (e - t) = rung m e := by
  by_cases hm : m = 0
  · subst hm; simp [rung]
  have hp := pow_pos' t
  rw [rung_eq m e hm, rung_eq _ _ (Nat.mul_ne_zero hm (by omega))]
  have hL : lastP (m * 2 ^ t) (e - t) = lastP m e := by
    unfold lastP
    rw [log2_scale m t hm]
    congr 1
    omega
  rw [hL]
  obtain ⟨L, hl⟩ : ∃ L, lastP m e = L := ⟨_, rfl⟩
  rw [hl]
  have hk : keptQ (m * 2 ^ t) (e - t) L = keptQ m e L := by
    unfold keptQ
    by_cases c1 : L ≤ e - t
    · rw [show (L - (e - t)).toNat = 0 by omega, show (L - e).toNat = 0 by omega, rhe_zero, rhe_zero, Nat.shiftLeft_eq, Nat.shiftLeft_eq, Nat.mul_assoc, ← Nat.pow_add]
      congr 2
      omega
    · rw [show (e - t - L).toNat = 0 by omega, Nat.shiftLeft_zero]
      by_cases c2 : L ≤ e
      · rw [show (L - e).toNat = 0 by omega, rhe_zero, Nat.shiftLeft_eq]
        obtain ⟨s, hs⟩ : ∃ s, (L - (e - t)).toNat = s := ⟨_, rfl⟩
        rw [hs, show t = (e - L).toNat + s by omega, Nat.pow_add, ← Nat.mul_assoc, rhe_exact]
      · rw [show (e - L).toNat = 0 by omega, Nat.shiftLeft_zero, show (L - (e - t)).toNat = (L - e).toNat + t by omega, rhe_scale]
  rw [hk]
/-- Where something is lost below, an odd last digit tells of it as well. -/
theorem rhe_stick (X M D k : Nat) (hX : X % 2 = 1) (hD : 2 ≤ D) (h1 : (X - 1) * 2 ^ k < M) (h2 : M < (X + 1) * 2 ^ k) : rhe M (D + k) = rhe X D := by
  have hp := pow_pos' k
  have hD2 : 2 ^ D = 2 * 2 ^ (D - 1) := pow_half D (by omega)
  have hD3 : 2 ^ (D - 1) = 2 * 2 ^ (D - 1 - 1) := pow_half (D - 1) (by omega)
  obtain ⟨H, hH⟩ : ∃ H, 2 ^ (D - 1) = H := ⟨_, rfl⟩
  obtain ⟨P, hP⟩ : ∃ P, 2 ^ k = P := ⟨_, rfl⟩
  have hHp : 0 < H := by rw [← hH]; exact pow_pos' _
  rw [hH] at hD2 hD3
  rw [hP] at h1 h2 hp
  have hdm := Nat.div_add_mod X (2 * H)
  have hmod : X % (2 * H) < 2 * H := Nat.mod_lt _ (by omega)
  unfold rhe
  rw [Nat.pow_add, hD2, hP]
  obtain ⟨Q, hQ⟩ : ∃ Q, X / (2 * H) = Q := ⟨_, rfl⟩
  obtain ⟨R, hR⟩ : ∃ R, X % (2 * H) = R := ⟨_, rfl⟩
  rw [hQ, hR] at hdm ⊢
  rw [hR] at hmod
  have hHe : H % 2 = 0 := by omega
  -- the rest is odd
  have hRo : R % 2 = 1 := by
    have e1 : 2 * H * Q = 2 * (H * Q) := Nat.mul_assoc _ _ _
    omega
  obtain ⟨T, hT⟩ : ∃ T, H * P = T := ⟨_, rfl⟩
  obtain ⟨RP, hRP⟩ : ∃ RP, R * P = RP := ⟨_, rfl⟩
  have eT : 2 * H * P = 2 * T := by rw [Nat.mul_assoc, hT]
  have eX : X * P = Q * (2 * T) + RP := by rw [← hdm, Nat.add_mul, hRP, ← eT, Nat.mul_comm (2 * H) Q, Nat.mul_assoc]
  have g1 : (X - 1) * P = X * P - P := by rw [Nat.sub_mul, Nat.one_mul]
  have g2 : (X + 1) * P = X * P + P := by rw [Nat.add_mul, Nat.one_mul]
  have gXP : P ≤ X * P := Nat.le_mul_of_pos_left _ (by omega)
  rw [g1] at h1
  rw [g2] at h2
  have r1 : P ≤ RP := by rw [← hRP]; exact Nat.le_mul_of_pos_left _ (by omega)
  have r2 : RP + P ≤ 2 * T := by
    rw [← hRP, ← eT]
    have : (R + 1) * P ≤ 2 * H * P := Nat.mul_le_mul_right _ (by omega)
    rw [Nat.add_mul, Nat.one_mul] at this
    exact this
  obtain ⟨QT, hQT⟩ : ∃ QT, Q * (2 * T) = QT := ⟨_, rfl⟩
  rw [hQT] at eX
  have hTp : 0 < 2 * T := by omega
  obtain ⟨r, hr⟩ : ∃ r, M = r + QT := ⟨M - QT, by omega⟩
  have hr1 : r < 2 * T := by omega
  have hMd : M / (2 * T) = Q := by rw [hr, ← hQT, Nat.add_mul_div_right _ _ hTp, Nat.div_eq_of_lt hr1, Nat.zero_add]
  have hMm : M % (2 * T) = r := by rw [hr, ← hQT, Nat.add_mul_mod_self_right, Nat.mod_eq_of_lt hr1]
  rw [eT, hMd, hMm]
  congr 1
  by_cases c : H < R
  · have : T + P ≤ RP := by
      rw [← hRP, ← hT]
      have : (H + 1) * P ≤ R * P := Nat.mul_le_mul_right _ (by omega)
      rw [Nat.add_mul, Nat.one_mul] at this
      exact this
    rw [if_pos (.inl (by omega)), if_pos (.inl (by omega))]
  · have hne : R ≠ H := by omega
    have : RP + P ≤ T := by
      rw [← hRP, ← hT]
      have : (R + 1) * P ≤ H * P := Nat.mul_le_mul_right _ (by omega)
      rw [Nat.add_mul, Nat.one_mul] at this
      exact this
    rw [if_neg (by omega), if_neg (by omega)]
theorem rung_stick (X M k : Nat) (q : Int) (hX : X % 2 = 1) (hb : 134217728 ≤ X) (h1 : (X - 1) * 2 ^ k < M) (h2 : M < (X + 1) * 2 ^ k) : rung M q = rung X (q + k) := by
  have hp := pow_pos' k
  have hX0 : X ≠ 0 := by omega
  obtain ⟨b1, b2⟩ := log_bounds X hX0
  have hM0 : M ≠ 0 := by omega
  have hL27 : 27 ≤ X.log2 := by
    have : ¬ X.log2 < 27 := fun h => by
      have := (Nat.log2_lt hX0).1 h
      have e : 2 ^ 27 = 134217728 := by decide
      omega
    omega
  have ev : 2 ^ X.log2 % 2 = 0 := by rw [pow_half _ (by omega)]; omega
  have ev2 : 2 ^ (X.log2 + 1) % 2 = 0 := by rw [pow_half _ (by omega)]; omega
  have hlog : M.log2 = X.log2 + k := by
    rw [Nat.log2_eq_iff hM0]
    have g1 : 2 ^ X.log2 * 2 ^ k ≤ (X - 1) * 2 ^ k := Nat.mul_le_mul_right _ (by omega)
    have g2 : (X + 1) * 2 ^ k ≤ 2 ^ (X.log2 + 1) * 2 ^ k := Nat.mul_le_mul_right _ (by omega)
    rw [← Nat.pow_add] at g1 g2
    rw [show X.log2 + k + 1 = X.log2 + 1 + k by omega]
    omega
  rw [rung_eq M q hM0, rung_eq X _ hX0]
  have hl : lastP M q = lastP X (q + k) := by
    unfold lastP; rw [hlog]; congr 1; omega
  have hlp : lastP X (q + k) = max (q + k + X.log2 - 23) (-149) := rfl
  rw [hl]
  obtain ⟨L, hL⟩ : ∃ L, lastP X (q + k) = L := ⟨_, rfl⟩
  rw [hL] at hlp ⊢
  have hk : keptQ M q L = keptQ X (q + k) L := by
    unfold keptQ
    obtain ⟨D, hD⟩ : ∃ D, (L - (q + k)).toNat = D := ⟨_, rfl⟩
    rw [show (q - L).toNat = 0 by omega, show (q + k - L).toNat = 0 by omega, Nat.shiftLeft_zero, Nat.shiftLeft_zero, hD, show (L - q).toNat = D + k by omega]
    exact rhe_stick X M D k hX (by omega) h1 h2
  rw [hk]
end Go.Proofs.Yteecekhfpfnepaa.Sg
end

section
namespace Go.Proofs.Yteecekhfpfnepaa.Sg
open Ieee
open Go.RowKit Go.Proofs.Yteecekhfpfnepaa.PAll Go.Proofs.YteecekhfpfnepaaW.PrintWords Go.Proofs.YteecekhfpfnepaaW.PrintLast Go.Proofs.YteecekhfpfnepaaW.PrintMore
set_option linter.unusedVariables false
set_option linter.unusedSimpArgs false
theorem k_weight : Ieee.single.signWeight = 2147483648 := by decide
theorem k_binade : Ieee.single.binade = 8388608 := by decide
theorem k_inf : Ieee.single.infRung = 2139095040 := by decide
theorem k_least : Ieee.single.leastPlace = -149 := by decide
theorem read_eq (a : Nat) (h : a < 4294967296) : Ieee.single.read a = if a / 8388608 % 256 = 255 then (if a % 8388608 = 0 then .infinity (decide (2147483648 ≤ a)) else .nan (decide (2147483648 ≤ a)) (a % 8388608))
    else if a / 8388608 % 256 = 0 then .number (decide (2147483648 ≤ a)) (a % 8388608) (-149) else .number (decide (2147483648 ≤ a)) (8388608 + a % 8388608) (((a / 8388608 % 256 : Nat) : Int) - 150) := by
  unfold Ieee.Format.read
  simp only [k_weight, k_binade, k_inf, k_least]
  have hs : (a / 2147483648 % 2 == 1) = decide (2147483648 ≤ a) := by
    by_cases c : 2147483648 ≤ a
    · rw [decide_eq_true c, beq_iff_eq]; omega
    · rw [decide_eq_false c]; simp; omega
  rw [hs]
  by_cases c1 : a / 8388608 % 256 = 255
  · rw [if_pos c1, if_neg (by omega), if_neg (by omega)]
    by_cases c2 : a % 8388608 = 0
    · rw [if_pos c2, if_pos (by omega)]
    · rw [if_neg c2, if_neg (by omega), show a % 2147483648 - 2139095040 = a % 8388608 from by omega]
  · rw [if_neg c1]
    by_cases c2 : a / 8388608 % 256 = 0
    · rw [if_pos c2, if_pos (by omega), show a % 2147483648 = a % 8388608 from by omega]
    · rw [if_neg c2, if_neg (by omega), if_pos (by omega), show a % 2147483648 % 8388608 = a % 8388608 from by omega, show a % 2147483648 / 8388608 = a / 8388608 % 256 from by omega]
      congr 1
      omega
/-- The number of a finite single. -/
structure Fin32 (a : Int) (s : Bool) (m : Nat) (e : Int) : Prop where
  word : a = sgn s + (rung m e : Int)
  form : (m < 8388608 ∧ e = -149) ∨ (8388608 ≤ m ∧ m < 16777216 ∧ -149 ≤ e ∧ e ≤ 104)
theorem rung_sub (m : Nat) (h : m < 8388608) : rung m (-149) = m := by
  by_cases h0 : m = 0
  · subst h0; rfl
  have h1 : m.log2 < 23 := (Nat.log2_lt h0).2 (by omega)
  rw [rung_eq m _ h0]
  have e1 : lastP m (-149) = -149 := by unfold lastP; omega
  rw [e1]
  unfold keptQ
  simp only [Int.sub_self, Int.toNat_zero, Nat.shiftLeft_zero, rhe_zero]
  omega
theorem rung_norm (m : Nat) (e : Int) (h : 8388608 ≤ m) (h2 : m < 16777216) (he : -149 ≤ e) (he2 : e ≤ 104) : (rung m e : Int) = (e + 149) * 8388608 + m := by
  have h1 : m.log2 = 23 := (Nat.log2_eq_iff (by omega)).2 ⟨by omega, by omega⟩
  rw [rung_eq m _ (by omega)]
  have e1 : lastP m e = e := by unfold lastP; omega
  rw [e1]
  unfold keptQ
  simp only [Int.sub_self, Int.toNat_zero, Nat.shiftLeft_zero, rhe_zero]
  omega
theorem raw_cases (a : Int) (h0 : 0 ≤ a) (h1 : a < 4294967296) :
    (rawV a = (2, false, 0, 0) ∧ ∃ s f, Ieee.single.read a.toNat = .nan s f) ∨ (∃ s, rawV a = (1, s, 0, 0) ∧ Ieee.single.read a.toNat = .infinity s ∧ a = sgn s + 2139095040) ∨
    (∃ (s : Bool) (m : Nat) (e : Int), rawV a = (0, s, (m : Int), e) ∧ Ieee.single.read a.toNat = .number s m e ∧ Fin32 a s m e) := by
  obtain ⟨n, rfl⟩ := Int.eq_ofNat_of_zero_le h0
  have hn : n < 4294967296 := by omega
  have hr := read_eq n hn
  have ed : decide ((2147483648 : Int) ≤ (n : Int)) = decide (2147483648 ≤ n) := by
    by_cases c : 2147483648 ≤ n
    · rw [decide_eq_true c, decide_eq_true (by omega)]
    · rw [decide_eq_false c, decide_eq_false (by omega)]
  have hsg : sgn (decide (2147483648 ≤ n)) = ((n / 2147483648 * 2147483648 : Nat) : Int) := by
    by_cases c : 2147483648 ≤ n
    · rw [decide_eq_true c]; show (2147483648 : Int) = _; omega
    · rw [decide_eq_false c]; show (0 : Int) = _; omega
  rw [Int.toNat_natCast, hr]
  unfold rawV
  rw [ed]
  by_cases c1 : n / 8388608 % 256 = 255
  · rw [if_pos c1, if_pos (by omega)]
    by_cases c2 : n % 8388608 = 0
    · rw [if_pos c2, if_pos (by omega)]
      exact .inr (.inl ⟨_, rfl, rfl, by rw [hsg]; omega⟩)
    · rw [if_neg c2, if_neg (by omega)]
      exact .inl ⟨rfl, _, _, rfl⟩
  · rw [if_neg c1, if_neg (by omega)]
    by_cases c2 : n / 8388608 % 256 = 0
    · rw [if_pos c2, if_pos (by omega)]
      refine .inr (.inr ⟨_, n % 8388608, -149, ?_, rfl, ?_, .inl ⟨by omega, rfl⟩⟩)
      · rw [show (n : Int) % 8388608 = ((n % 8388608 : Nat) : Int) from by omega]
      · rw [rung_sub _ (by omega), hsg]; omega
    · rw [if_neg c2, if_neg (by omega)]
      refine .inr (.inr ⟨_, 8388608 + n % 8388608, ((n / 8388608 % 256 : Nat) : Int) - 150, ?_, rfl, ?_, .inr ⟨by omega, by omega, by omega, by omega⟩⟩)
      · rw [show (8388608 + (n : Int) % 8388608) = ((8388608 + n % 8388608 : Nat) : Int) from by omega, show (n : Int) / 8388608 % 256 = ((n / 8388608 % 256 : Nat) : Int) from by omega]
      · rw [rung_norm _ _ (by omega) (by omega) (by omega) (by omega), hsg]; omega
theorem raw_some (a : Int) (h0 : 0 ≤ a) (h1 : a < 4294967296) : heraldref03_raw.f a = some (rawV a) := by unfold heraldref03_raw.f; rw [if_pos ⟨h0, h1⟩]
/-- The bits of a word that is none: as they are. -/
theorem word_cast (s : Bool) (r : Nat) : ((Ieee.single.word s r : Nat) : Int) = sgn s + (r : Int) := by
  unfold Ieee.Format.word sgn
  rw [k_weight]
  cases s <;> simp
theorem back_word (s : Bool) (r : Nat) (h : r ≤ 2139095040) : backV (Ieee.single.word s r) = sgn s + (r : Int) := by
  have hw := word_cast s r
  have hs : sgn s = 0 ∨ sgn s = 2147483648 := by cases s <;> simp [sgn]
  have hlt : Ieee.single.word s r < 4294967296 := by omega
  have hr := read_eq _ hlt
  obtain ⟨x, hx⟩ : ∃ x, Ieee.single.word s r = x := ⟨_, rfl⟩
  rw [hx] at hw hlt hr ⊢
  unfold backV
  have ho : (FloatKind.f32.format.order x x == some .eq) = true := by
    show ((Ieee.single.read x).order (Ieee.single.read x) == some .eq) = true
    rw [hr]
    by_cases c1 : x / 8388608 % 256 = 255
    · rw [if_pos c1, if_pos (by omega)]
      simp [Ieee.Datum.order, compare, compareOfLessAndEq]
    · rw [if_neg c1]
      split <;> simp [Ieee.Datum.order, compare, compareOfLessAndEq]
  rw [if_pos ho, hw]
theorem arith_number (s : Bool) (m : Nat) (e : Int) : arithV (some (Ieee.single.write (.number s m e))) = NR s m e := by
  show backV (Ieee.single.nearest s m e) = _
  rw [nearest_eq, back_word s _ (rung_le m e)]; rfl
theorem arith_inf (s : Bool) : arithV (some (Ieee.single.write (.infinity s))) = sgn s + 2139095040 := by
  show backV (Ieee.single.word s Ieee.single.infRung) = _
  rw [k_inf, back_word s _ (by omega)]; rfl
end Go.Proofs.Yteecekhfpfnepaa.Sg
end

section
namespace Go.Proofs.Yteecekhfpfnepaa.Sg
open Ieee
open Go.RowKit Go.Proofs.Yteecekhfpfnepaa.PAll Go.Proofs.YteecekhfpfnepaaW.PrintWords Go.Proofs.YteecekhfpfnepaaW.PrintLast Go.Proofs.YteecekhfpfnepaaW.PrintMore
set_option linter.unusedVariables false
set_option linter.unusedSimpArgs false
def cmpI (x y : Int) : Int := if x < y then -1 else if x > y then 1 else 0
theorem sign_some (x y : Int) : heraldref03_sign.f x y = some (cmpI x y) := by
  unfold heraldref03_sign.f cmpI
  split
  · rfl
  · split <;> rfl
theorem cmpI_lt {x y : Int} (h : x < y) : cmpI x y = -1 := if_pos h
theorem cmpI_gt {x y : Int} (h : y < x) : cmpI x y = 1 := by unfold cmpI; rw [if_neg (by omega), if_pos h]
theorem cmpI_eq {x y : Int} (h : x = y) : cmpI x y = 0 := by unfold cmpI; rw [if_neg (by omega), if_neg (by omega)]
theorem ahead_l1 (m : Int) (e : Int) (he0 : -2000 ≤ e) (he1 : e ≤ 2000) : ∀ (d n k : Nat), n * 2 ^ d ≤ 4611686018427387904 → d ≤ 1000 → d + 1 ≤ k → heraldref03_ahead.l1 k m e (n : Int) (e + d) = some (cmpI m ((n * 2 ^ d : Nat) : Int)) := by
  intro d
  induction d with
  | zero =>
    intro n k hn hd hk
    obtain ⟨k, rfl⟩ : ∃ j, k = j + 1 := ⟨k - 1, by omega⟩
    simp only [heraldref03_ahead.l1]
    rw [if_neg (by omega), sign_some, Nat.pow_zero, Nat.mul_one]
    rfl
  | succ d ih =>
    intro n k hn hd hk
    obtain ⟨k, rfl⟩ : ∃ j, k = j + 1 := ⟨k - 1, by omega⟩
    have e1 : n * 2 ^ (d + 1) = n * 2 * 2 ^ d := by rw [Nat.pow_succ, Nat.mul_comm (2 ^ d) 2, Nat.mul_assoc]
    rw [e1] at hn ⊢
    have h2 : n * 2 ≤ n * 2 * 2 ^ d := Nat.le_mul_of_pos_right _ (pow_pos' d)
    simp only [heraldref03_ahead.l1]
    rw [if_pos (by omega), wrap_in (a := (n : Int) * 2) (by omega) (by omega), wrap_in (by omega) (by omega), show (n : Int) * 2 = ((n * 2 : Nat) : Int) from by omega, show e + ((d + 1 : Nat) : Int) - 1 = e + (d : Int) from by omega]
    exact ih (n * 2) k hn (by omega) (by omega)
theorem ahead_l0 (n : Nat) (f : Int) (hn : n ≤ 4611686018427387904) (hf0 : -2000 ≤ f) (hf1 : f ≤ 2000) : ∀ (d m k : Nat), m * 2 ^ d ≤ 4611686018427387904 → d ≤ 1000 → d + 2 ≤ k → heraldref03_ahead.l0 k (m : Int) (f + d) (n : Int) f = some (cmpI ((m * 2 ^ d : Nat) : Int) (n : Int)) := by
  intro d
  induction d with
  | zero =>
    intro m k hm hd hk
    obtain ⟨k, rfl⟩ : ∃ j, k = j + 1 := ⟨k - 1, by omega⟩
    simp only [heraldref03_ahead.l0]
    rw [if_neg (by omega), Nat.pow_zero, Nat.mul_one]
    have := ahead_l1 (m : Int) (f + ((0 : Nat) : Int)) (by omega) (by omega) 0 n k (by rw [Nat.pow_zero]; omega) (by omega) (by omega)
    rw [Nat.pow_zero, Nat.mul_one, show f + ((0 : Nat) : Int) + ((0 : Nat) : Int) = f from by omega] at this
    exact this
  | succ d ih =>
    intro m k hm hd hk
    obtain ⟨k, rfl⟩ : ∃ j, k = j + 1 := ⟨k - 1, by omega⟩
    have e1 : m * 2 ^ (d + 1) = m * 2 * 2 ^ d := by rw [Nat.pow_succ, Nat.mul_comm (2 ^ d) 2, Nat.mul_assoc]
    rw [e1] at hm ⊢
    have h2 : m * 2 ≤ m * 2 * 2 ^ d := Nat.le_mul_of_pos_right _ (pow_pos' d)
    simp only [heraldref03_ahead.l0]
    rw [if_pos (by omega), wrap_in (a := (m : Int) * 2) (by omega) (by omega), wrap_in (by omega) (by omega), show (m : Int) * 2 = ((m * 2 : Nat) : Int) from by omega, show f + ((d + 1 : Nat) : Int) - 1 = f + (d : Int) from by omega]
    exact ih (m * 2) k hm (by omega) (by omega)
/-- The size of a number in units of 2 to a place below. -/
def sz (m : Nat) (e base : Int) : Nat := m <<< (e - base).toNat
theorem sz_lt {m n : Nat} {e f base : Int} (hm : m ≠ 0) (hn : n ≠ 0) (he : base ≤ e) (hf : base ≤ f) (h : (m.log2 : Int) + e < (n.log2 : Int) + f) : sz m e base < sz n f base := by
  obtain ⟨_, h1⟩ := log_bounds m hm
  obtain ⟨h2, _⟩ := log_bounds n hn
  unfold sz
  rw [Nat.shiftLeft_eq, Nat.shiftLeft_eq]
  have g1 : m * 2 ^ (e - base).toNat < 2 ^ (m.log2 + 1) * 2 ^ (e - base).toNat := Nat.mul_lt_mul_of_pos_right h1 (pow_pos' _)
  have g2 : 2 ^ n.log2 * 2 ^ (f - base).toNat ≤ n * 2 ^ (f - base).toNat := Nat.mul_le_mul_right _ h2
  rw [← Nat.pow_add] at g1 g2
  have g3 : 2 ^ (m.log2 + 1 + (e - base).toNat) ≤ 2 ^ (n.log2 + (f - base).toNat) := Nat.pow_le_pow_right (by omega) (by omega)
  omega
theorem ahead_some (m n : Nat) (e f : Int) (hm : m < 16777216) (hn : n < 16777216) (he0 : -149 ≤ e) (he1 : e ≤ 1000) (hf0 : -149 ≤ f) (hf1 : f ≤ 1000) (k : Nat) (hk : 110 ≤ k) :
    heraldref03_ahead.f k (m : Int) e (n : Int) f = some (cmpI (sz m e (min e f) : Int) (sz n f (min e f) : Int)) := by
  obtain ⟨k, rfl⟩ : ∃ j, k = j + 1 := ⟨k - 1, by omega⟩
  have p1 := pow_pos' (e - min e f).toNat
  have p2 := pow_pos' (f - min e f).toNat
  unfold heraldref03_ahead.f
  by_cases c1 : m = 0
  · subst c1
    rw [if_pos (by rfl)]
    simp only [heraldref03_ahead.j0]
    rw [if_pos trivial, sign_some]
    simp only [Option.bind_some, Option.some.injEq]
    unfold sz cmpI
    rw [Nat.zero_shiftLeft, Nat.shiftLeft_eq]
    by_cases c2 : n = 0
    · subst c2; rw [Nat.zero_mul]
    · have : 0 < n * 2 ^ (f - min e f).toNat := Nat.mul_pos (by omega) p2
      rw [if_pos (by omega), if_pos (by omega)]
  · rw [if_neg (by omega)]
    by_cases c2 : n = 0
    · subst c2
      simp only [heraldref03_ahead.j0]
      rw [if_pos (by rfl), sign_some]
      simp only [Option.bind_some, Option.some.injEq]
      unfold sz
      rw [Nat.zero_shiftLeft, Nat.shiftLeft_eq]
      have : 0 < m * 2 ^ (e - min e f).toNat := Nat.mul_pos (by omega) p1
      rw [cmpI_gt (by omega), cmpI_gt (by omega)]
    · have l1 := log_lt m c1 (by omega)
      have l2 := log_lt n c2 (by omega)
      have b1 := log_bounds m c1
      have b2 := log_bounds n c2
      have hl1 : m.log2 < 24 := (Nat.log2_lt c1).2 (by omega)
      have hl2 : n.log2 < 24 := (Nat.log2_lt c2).2 (by omega)
      simp only [heraldref03_ahead.j0]
      rw [if_neg (by simp; omega), u64_in (by omega) (by omega), u64_in (by omega) (by omega), length_some m k (by omega) (by omega), length_some n k (by omega) (by omega), lenI_log m c1, lenI_log n c2]
      simp only [Option.bind_some]
      rw [wrap_in (a := (m.log2 : Int) + 1 + e) (by omega) (by omega), wrap_in (a := (n.log2 : Int) + 1 + f) (by omega) (by omega)]
      by_cases c3 : (m.log2 : Int) + 1 + e = (n.log2 : Int) + 1 + f
      · rw [if_pos c3]
        by_cases c4 : f ≤ e
        · obtain ⟨d, hd⟩ : ∃ d : Nat, e = f + d := ⟨(e - f).toNat, by omega⟩
          have hmn : min e f = f := by omega
          have hb : m * 2 ^ d ≤ 4611686018427387904 := by
            have g1 : m * 2 ^ d < 2 ^ (m.log2 + 1) * 2 ^ d := Nat.mul_lt_mul_of_pos_right b1.2 (pow_pos' _)
            rw [← Nat.pow_add] at g1
            have g3 : 2 ^ (m.log2 + 1 + d) ≤ 2 ^ 24 := Nat.pow_le_pow_right (by omega) (by omega)
            have g4 : 2 ^ 24 = 16777216 := by decide
            omega
          have := ahead_l0 n f (by omega) (by omega) (by omega) d m k hb (by omega) (by omega)
          rw [hmn]
          unfold sz
          rw [show (f - f).toNat = 0 by omega, Nat.shiftLeft_zero, show (e - f).toNat = d by omega, Nat.shiftLeft_eq]
          rw [hd]
          exact this
        · obtain ⟨d, hd⟩ : ∃ d : Nat, f = e + d := ⟨(f - e).toNat, by omega⟩
          have hmn : min e f = e := by omega
          have hb : n * 2 ^ d ≤ 4611686018427387904 := by
            have g1 : n * 2 ^ d < 2 ^ (n.log2 + 1) * 2 ^ d := Nat.mul_lt_mul_of_pos_right b2.2 (pow_pos' _)
            rw [← Nat.pow_add] at g1
            have g3 : 2 ^ (n.log2 + 1 + d) ≤ 2 ^ 24 := Nat.pow_le_pow_right (by omega) (by omega)
            have g4 : 2 ^ 24 = 16777216 := by decide
            omega
          obtain ⟨k, rfl⟩ : ∃ j, k = j + 1 := ⟨k - 1, by omega⟩
          have := ahead_l1 (m : Int) e (by omega) (by omega) d n k hb (by omega) (by omega)
          simp only [heraldref03_ahead.l0]
          rw [if_neg (by omega), hmn]
          unfold sz
          rw [show (e - e).toNat = 0 by omega, Nat.shiftLeft_zero, show (f - e).toNat = d by omega, Nat.shiftLeft_eq]
          rw [hd]
          exact this
      · rw [if_neg c3, sign_some]
        simp only [Option.bind_some, Option.some.injEq]
        by_cases c4 : (m.log2 : Int) + 1 + e < (n.log2 : Int) + 1 + f
        · have := sz_lt (base := min e f) c1 c2 (by omega) (by omega) (show (m.log2 : Int) + e < (n.log2 : Int) + f by omega)
          rw [cmpI_lt c4, cmpI_lt (by omega)]
        · have := sz_lt (base := min e f) c2 c1 (by omega) (by omega) (show (n.log2 : Int) + f < (m.log2 : Int) + e by omega)
          rw [cmpI_gt (by omega), cmpI_gt (by omega)]
end Go.Proofs.Yteecekhfpfnepaa.Sg
end

section
namespace Go.Proofs.Yteecekhfpfnepaa.Sg
open Ieee
open Go.RowKit Go.Proofs.Yteecekhfpfnepaa.PAll Go.Proofs.YteecekhfpfnepaaW.PrintWords Go.Proofs.YteecekhfpfnepaaW.PrintLast Go.Proofs.YteecekhfpfnepaaW.PrintMore
set_option linter.unusedVariables false
set_option linter.unusedSimpArgs false
theorem fin_small {a : Int} {s : Bool} {m : Nat} {e : Int} (h : Fin32 a s m e) : m < 16777216 ∧ -149 ≤ e ∧ e ≤ 104 := by
  rcases h.form with ⟨h1, h2⟩ | ⟨h1, h2, h3, h4⟩ <;> omega
theorem bne_xor (s t : Bool) : (s != t) = (s ^^ t) := by cases s <;> cases t <;> rfl
end Go.Proofs.Yteecekhfpfnepaa.Sg
end

section
namespace Go.Proofs.Yteecekhfpfnepaa.Sg
open Ieee
open Go.RowKit Go.Proofs.Yteecekhfpfnepaa.PAll Go.Proofs.YteecekhfpfnepaaW.PrintWords Go.Proofs.YteecekhfpfnepaaW.PrintLast Go.Proofs.YteecekhfpfnepaaW.PrintMore
set_option linter.unusedVariables false
set_option linter.unusedSimpArgs false
/-- The model's sum of two numbers, the first of them in greater or the same units. -/
def sumV (s : Bool) (m : Nat) (e : Int) (t : Bool) (n : Nat) (f : Int) : Int := arithV (((Datum.number s m e).sum (.number t n f)).map Ieee.single.write)
theorem sumV_eq (s t : Bool) (m n d : Nat) (e f : Int) (hd : e = f + d) (hm : m ≠ 0) (hn : n ≠ 0) (hle : n ≤ m * 2 ^ d) :
    sumV s m e t n f = if s = t then NR s (m * 2 ^ d + n) f else if m * 2 ^ d = n then 0 else NR s (m * 2 ^ d - n) f := by
  unfold sumV
  simp only [Datum.sum, Option.map_some, arith_number]
  have hmn : min e f = f := by omega
  rw [hmn]
  have e1 : signed s m (e - f).toNat = if s then -((m * 2 ^ d : Nat) : Int) else ((m * 2 ^ d : Nat) : Int) := by
    unfold signed; rw [show (e - f).toNat = d by omega, Nat.shiftLeft_eq]
  have e2 : signed t n (f - f).toNat = if t then -(n : Int) else (n : Int) := by
    unfold signed; rw [show (f - f).toNat = 0 by omega, Nat.shiftLeft_zero]
  rw [e1, e2]
  obtain ⟨M, hM⟩ : ∃ M, m * 2 ^ d = M := ⟨_, rfl⟩
  rw [hM] at hle ⊢
  have hM0 : 0 < M := by omega
  clear e1 e2 hM hmn
  cases s <;> cases t
  · simp only [Bool.false_eq_true, if_false, if_true]
    rw [if_neg (by omega), show ((M : Int) + (n : Int)).natAbs = M + n by omega, show decide ((M : Int) + (n : Int) < 0) = false from decide_eq_false (by omega)]
  · simp only [Bool.false_eq_true, if_false, if_true]
    by_cases c : M = n
    · subst c
      rw [show (M : Int) + -(M : Int) = 0 by omega]
      simp [NR, sgn, rung]
    · rw [if_neg (by omega), if_neg c, show ((M : Int) + -(n : Int)).natAbs = M - n by omega, show decide ((M : Int) + -(n : Int) < 0) = false from decide_eq_false (by omega)]
  · simp only [Bool.false_eq_true, if_false, if_true]
    by_cases c : M = n
    · subst c
      rw [show -(M : Int) + (M : Int) = 0 by omega]
      simp [NR, sgn, rung]
    · rw [if_neg (by omega), if_neg c, show (-(M : Int) + (n : Int)).natAbs = M - n by omega, show decide (-(M : Int) + (n : Int) < 0) = true from decide_eq_true (by omega), if_neg (by decide)]
  · simp only [if_true]
    rw [if_neg (by omega), show (-(M : Int) + -(n : Int)).natAbs = M + n by omega, show decide (-(M : Int) + -(n : Int) < 0) = true from decide_eq_true (by omega)]
/-- The end of the reference's sum. -/
theorem add_j3 (s t : Bool) (x y M n : Nat) (e f : Int) (he0 : -149 ≤ e) (he1 : e ≤ 104) (hx : x < 1152921504606846976) (hyx : y ≤ x) (h1 : rung (x + y) (e - 33) = rung (M + n) f) (h2 : x = y ↔ M = n) (h3 : rung (x - y) (e - 33) = rung (M - n) f) (k : Nat) (hk : 90 ≤ k) :
    heraldref03_Add.j3 k s e t (x : Int) (y : Int) = some (if s = t then NR s (M + n) f else if M = n then 0 else NR s (M - n) f) := by
  obtain ⟨k, rfl⟩ : ∃ j, k = j + 1 := ⟨k - 1, by omega⟩
  simp only [heraldref03_Add.j3]
  rw [wrap_in (a := e - 33) (by omega) (by omega)]
  by_cases c : s = t
  · subst c
    rw [if_pos (by simp), if_pos rfl, ← Int.natCast_add, u64_in (by omega) (by omega), refnear_some s (x + y) _ (by omega) k (by omega)]
    simp only [Option.bind_some, NR, h1]
  · rw [if_neg (by simpa using c), if_neg c]
    by_cases c2 : x = y
    · rw [if_pos (by omega), if_pos (h2.1 c2)]
    · rw [if_neg (by omega), if_neg (fun h => c2 (h2.2 h)), show (x : Int) - (y : Int) = ((x - y : Nat) : Int) from by omega, u64_in (by omega) (by omega), refnear_some s (x - y) _ (by omega) k (by omega)]
      simp only [Option.bind_some, NR, h3]
theorem or_one (a : Nat) (ha : a < 4294967296) : bits .or .u64 (a : Int) 1 = ((if a % 2 = 1 then a else a + 1 : Nat) : Int) := by
  show IntKind.u64.wrap ((BitVec.ofInt 64 (a : Int) ||| BitVec.ofInt 64 ((1 : Nat) : Int)).toNat : Int) = _
  rw [BitVec.toNat_or, BitVec.ofInt_natCast, BitVec.ofInt_natCast, BitVec.toNat_ofNat, BitVec.toNat_ofNat, Nat.mod_eq_of_lt (by omega), Nat.mod_eq_of_lt (by omega)]
  have e : a ||| 1 = if a % 2 = 1 then a else a + 1 := by
    by_cases c : a % 2 = 1
    · rw [if_pos c]
      have := Nat.two_pow_add_eq_or_of_lt (i := 1) (b := 1) (by omega) (a / 2)
      have h2 : a = 2 ^ 1 * (a / 2) + 1 := by omega
      rw [h2, this, Nat.or_assoc, Nat.or_self]
    · rw [if_neg c]
      have := Nat.two_pow_add_eq_or_of_lt (i := 1) (b := 1) (by omega) (a / 2)
      have h2 : a = 2 ^ 1 * (a / 2) := by omega
      rw [← h2] at this
      exact this.symm
  rw [e]
  exact u64_in (by split <;> omega) (by split <;> omega)
/-- What is lost counts as one: the sum and the difference, at an odd place. -/
theorem stick_parts (m n k x y : Nat) (e f : Int) (hk : 1 ≤ k) (hx : x = m * 8589934592) (hm : m ≠ 0) (hn : n < 16777216) (hy : y = if n / 2 ^ k % 2 = 1 then n / 2 ^ k else n / 2 ^ k + 1) (hrem : n % 2 ^ k ≠ 0) (he : e - 33 = f + k) :
    rung (x + y) (e - 33) = rung (m * 2 ^ (33 + k) + n) f ∧ rung (x - y) (e - 33) = rung (m * 2 ^ (33 + k) - n) f ∧ y ≤ 16777216 := by
  have hp := pow_pos' k
  have hM : m * 2 ^ (33 + k) = x * 2 ^ k := by rw [Nat.pow_add, ← Nat.mul_assoc, hx]
  have hdm := Nat.div_add_mod n (2 ^ k)
  have hmod : n % 2 ^ k < 2 ^ k := Nat.mod_lt _ hp
  have hq : n / 2 ^ k ≤ n := Nat.div_le_self _ _
  rw [hM, he]
  obtain ⟨P, hP⟩ : ∃ P, 2 ^ k = P := ⟨_, rfl⟩
  rw [hP] at hdm hmod hrem hq hy hp ⊢
  obtain ⟨q, hQ⟩ : ∃ q, n / P = q := ⟨_, rfl⟩
  obtain ⟨r, hR⟩ : ∃ r, n % P = r := ⟨_, rfl⟩
  rw [hQ] at hdm hq hy
  rw [hR] at hdm hmod hrem
  have hxe : x % 2 = 0 := by omega
  have hxb : 8589934592 ≤ x := by omega
  have hyo : y % 2 = 1 := by rw [hy]; split <;> omega
  have hyb : y ≤ 16777216 := by rw [hy]; split <;> omega
  have hyr : y = q ∨ y = q + 1 := by rw [hy]; split <;> omega
  obtain ⟨xP, hxP⟩ : ∃ xP, x * P = xP := ⟨_, rfl⟩
  obtain ⟨qP, hqP⟩ : ∃ qP, P * q = qP := ⟨_, rfl⟩
  rw [hqP] at hdm
  have hqP' : q * P = qP := by rw [Nat.mul_comm]; exact hqP
  have hle : (q + 1) * P ≤ x * P := Nat.mul_le_mul_right _ (by omega)
  have hle2 : (q + 2) * P ≤ x * P := Nat.mul_le_mul_right _ (by omega)
  rw [Nat.add_mul, hqP', hxP] at hle hle2
  rw [hxP]
  refine ⟨?_, ?_, hyb⟩
  · refine (rung_stick (x + y) (xP + n) k f (by omega) (by omega) ?_ ?_).symm
    · rw [hP]
      rcases hyr with h | h
      · rw [h, show x + q - 1 = x + (q - 1) by omega, Nat.add_mul, hxP, Nat.sub_mul, hqP']; omega
      · rw [h, show x + (q + 1) - 1 = x + q by omega, Nat.add_mul, hxP, hqP']; omega
    · rw [hP]
      rcases hyr with h | h
      · rw [h, Nat.add_mul, Nat.add_mul, hxP, hqP']; omega
      · rw [h, Nat.add_mul, Nat.add_mul, Nat.add_mul, hxP, hqP']; omega
  · refine (rung_stick (x - y) (xP - n) k f (by omega) (by omega) ?_ ?_).symm
    · rw [hP, Nat.sub_sub, Nat.sub_mul, hxP]
      rcases hyr with h | h
      · rw [h, Nat.add_mul, hqP']; omega
      · rw [h, Nat.add_mul, Nat.add_mul, hqP']; omega
    · rw [hP]
      rcases hyr with h | h
      · rw [h, Nat.add_mul, Nat.sub_mul, hxP, hqP']; omega
      · rw [h, Nat.add_mul, Nat.sub_mul, hxP, Nat.add_mul, hqP']; omega
theorem shl33 (m : Nat) (hm : m < 16777216) : IntKind.u64.wrap (IntKind.u64.wrap (m : Int) * 8589934592) = ((m * 8589934592 : Nat) : Int) := by
  rw [u64_in (a := (m : Int)) (by omega) (by omega), u64_in (by omega) (by omega)]; omega
theorem rung_down (M n m' n' t : Nat) (e f : Int) (h1 : m' = M * 2 ^ t) (h2 : n' = n * 2 ^ t) (he : e - 33 = f - t) : rung (m' + n') (e - 33) = rung (M + n) f ∧ rung (m' - n') (e - 33) = rung (M - n) f := by
  rw [h1, h2, he, ← Nat.add_mul, ← Nat.sub_mul]
  exact ⟨rung_scale _ _ _, rung_scale _ _ _⟩
/-- The reference's sum of two numbers that are not 0, the first of them not the lesser. -/
theorem add_j2 (s t : Bool) (m n d : Nat) (e f : Int) (hd : e = f + d) (hm : m ≠ 0) (hn : n ≠ 0) (hm1 : m < 16777216) (hn1 : n < 16777216) (he1 : e ≤ 104) (hf0 : -149 ≤ f) (hle : n ≤ m * 2 ^ d) (k : Nat) (hk : 100 ≤ k) :
    heraldref03_Add.j2 k s (m : Int) e t (n : Int) f = some (sumV s m e t n f) := by
  obtain ⟨k, rfl⟩ : ∃ j, k = j + 1 := ⟨k - 1, by omega⟩
  rw [sumV_eq s t m n d e f hd hm hn hle]
  simp only [heraldref03_Add.j2]
  rw [wrap_in (a := e - f) (by omega) (by omega), show e - f = (d : Int) from by omega, shl33 m hm1, u64_in (a := (n : Int)) (by omega) (by omega)]
  have e33 : 2 ^ 33 = 8589934592 := by decide
  by_cases c1 : d ≤ 33
  · obtain ⟨u, hu⟩ : ∃ u, 33 = d + u := ⟨33 - d, by omega⟩
    have hpu := pow_pos' u
    have hbu : 2 ^ u ≤ 2 ^ 33 := Nat.pow_le_pow_right (by omega) (by omega)
    have hnu : n * 2 ^ u ≤ 16777216 * 8589934592 := Nat.mul_le_mul (by omega) (by omega)
    have hx : m * 8589934592 = m * 2 ^ d * 2 ^ u := by rw [← e33, hu, Nat.pow_add, Nat.mul_assoc]
    rw [if_pos (by omega), wrap_in (a := 33 - (d : Int)) (by omega) (by omega), show 33 - (d : Int) = (u : Int) from by omega, u64_in (a := (u : Int)) (by omega) (by omega), if_pos (by omega), shl_u n u (by omega) (by omega)]
    obtain ⟨r1, r2⟩ := rung_down (m * 2 ^ d) n _ _ u e f hx rfl (by omega)
    refine add_j3 s t _ _ _ _ e f (by omega) he1 (by omega) ?_ r1 ?_ r2 k (by omega)
    · rw [hx]; exact Nat.mul_le_mul_right _ hle
    · rw [hx]; exact Nat.mul_right_cancel_iff hpu
  · rw [if_neg (by omega)]
    obtain ⟨q, hq⟩ : ∃ q, d = 33 + q := ⟨d - 33, by omega⟩
    have hpq := pow_pos' q
    have hMx : m * 2 ^ d = m * 8589934592 * 2 ^ q := by rw [hq, Nat.pow_add, e33, Nat.mul_assoc]
    have hbig : n < m * 8589934592 := by omega
    have hbig2 : m * 8589934592 ≤ m * 2 ^ d := by rw [hMx]; exact Nat.le_mul_of_pos_right _ hpq
    have key : ∀ y : Nat, y = (if n % 2 ^ q = 0 then n / 2 ^ q else if n / 2 ^ q % 2 = 1 then n / 2 ^ q else n / 2 ^ q + 1) →
        heraldref03_Add.j3 k s e t ((m * 8589934592 : Nat) : Int) (y : Int) = some (if s = t then NR s (m * 2 ^ d + n) f else if m * 2 ^ d = n then 0 else NR s (m * 2 ^ d - n) f) := by
      intro y hy
      have hdm := Nat.div_add_mod n (2 ^ q)
      have hql : n / 2 ^ q ≤ n := Nat.div_le_self _ _
      by_cases c2 : n % 2 ^ q = 0
      · rw [if_pos c2] at hy
        have hn' : n = y * 2 ^ q := by rw [hy, Nat.mul_comm]; omega
        have hrs : ∀ X : Nat, rung (X * 2 ^ q) f = rung X (e - 33) := by
          intro X
          have := rung_scale X q (e - 33)
          rwa [show e - 33 - (q : Int) = f from by omega] at this
        refine add_j3 s t _ _ _ _ e f (by omega) he1 (by omega) (by omega) ?_ (by omega) ?_ k (by omega)
        · rw [hMx, show m * 8589934592 * 2 ^ q + n = (m * 8589934592 + y) * 2 ^ q by rw [Nat.add_mul]; omega]
          exact (hrs _).symm
        · rw [hMx, show m * 8589934592 * 2 ^ q - n = (m * 8589934592 - y) * 2 ^ q by rw [Nat.sub_mul]; omega]
          exact (hrs _).symm
      · rw [if_neg c2] at hy
        have hq1 : 1 ≤ q := by
          rcases Nat.eq_zero_or_pos q with h | h
          · subst h; rw [Nat.pow_zero, Nat.mod_one] at c2; omega
          · exact h
        obtain ⟨r1, r2, r3⟩ := stick_parts m n q (m * 8589934592) y e f hq1 rfl hm hn1 hy c2 (by omega)
        rw [← hq] at r1 r2
        exact add_j3 s t _ _ _ _ e f (by omega) he1 (by omega) (by omega) r1 (by omega) r2 k (by omega)
    by_cases c3 : d < 64
    · rw [if_pos (by omega), wrap_in (a := (d : Int) - 33) (by omega) (by omega), show (d : Int) - 33 = (q : Int) from by omega, u64_in (a := (q : Int)) (by omega) (by omega), if_pos (by omega), shr_u n q (by omega)]
      have hql : n / 2 ^ q ≤ n := Nat.div_le_self _ _
      have hdm := Nat.div_add_mod n (2 ^ q)
      have hml : n / 2 ^ q * 2 ^ q ≤ n := Nat.div_mul_le_self _ _
      have hcm : n / 2 ^ q * 2 ^ q = 2 ^ q * (n / 2 ^ q) := Nat.mul_comm _ _
      rw [shl_u (n / 2 ^ q) q (by omega) (by omega)]
      by_cases c4 : n % 2 ^ q = 0
      · rw [if_pos (by omega)]
        exact key _ (by rw [if_pos c4])
      · rw [if_neg (by omega), or_one _ (by omega)]
        exact key _ (by rw [if_neg c4])
    · rw [if_neg (by omega)]
      have hbq : 2 ^ 24 ≤ 2 ^ q := Nat.pow_le_pow_right (by omega) (by omega)
      have e24 : 2 ^ 24 = 16777216 := by decide
      have hz : n / 2 ^ q = 0 := Nat.div_eq_of_lt (by omega)
      have hz2 : n % 2 ^ q = n := Nat.mod_eq_of_lt (by omega)
      exact key 1 (by rw [hz, hz2, if_neg hn, if_neg (by omega)])
end Go.Proofs.Yteecekhfpfnepaa.Sg
end

section
namespace Go.Proofs.Yteecekhfpfnepaa.Sg
open Ieee
open Go.RowKit Go.Proofs.Yteecekhfpfnepaa.PAll Go.Proofs.YteecekhfpfnepaaW.PrintWords Go.Proofs.YteecekhfpfnepaaW.PrintLast Go.Proofs.YteecekhfpfnepaaW.PrintMore
set_option linter.unusedVariables false
set_option linter.unusedSimpArgs false
theorem sum_comm (x y : Datum) : x.sum y = y.sum x := by
  cases x with
  | nan => cases y <;> rfl
  | infinity s =>
    cases y with
    | nan => rfl
    | infinity t =>
      simp only [Datum.sum]
      by_cases c : s = t
      · subst c; rfl
      · rw [if_neg c, if_neg (fun h => c h.symm)]
    | number => rfl
  | number s m i =>
    cases y with
    | nan => rfl
    | infinity t => rfl
    | number t n j =>
      simp only [Datum.sum]
      rw [Int.min_comm j i, Int.add_comm (signed t n _), Bool.and_comm t s]
theorem zero_sum (s t : Bool) (n : Nat) (e f : Int) (hn : n ≠ 0) : arithV (((Datum.number s 0 e).sum (.number t n f)).map Ieee.single.write) = NR t n f := by
  simp only [Datum.sum, Option.map_some, arith_number]
  obtain ⟨B, hB⟩ : ∃ B, min e f = B := ⟨_, rfl⟩
  obtain ⟨u, hu⟩ : ∃ u, (f - B).toNat = u := ⟨_, rfl⟩
  have hp := pow_pos' u
  have e1 : signed s 0 (min e f - B).toNat = 0 := by unfold signed; cases s <;> simp
  rw [hB]
  have e1 : signed s 0 (e - B).toNat = 0 := by unfold signed; cases s <;> simp
  have e2 : signed t n (f - B).toNat = if t then -((n * 2 ^ u : Nat) : Int) else ((n * 2 ^ u : Nat) : Int) := by unfold signed; rw [hu, Nat.shiftLeft_eq]
  rw [e1, e2, Int.zero_add]
  have hx : 0 < n * 2 ^ u := Nat.mul_pos (by omega) hp
  have hr := rung_scale n u f
  rw [show f - (u : Int) = B from by omega] at hr
  unfold NR
  rw [← hr]
  obtain ⟨x, hx'⟩ : ∃ x, n * 2 ^ u = x := ⟨_, rfl⟩
  rw [hx'] at hx ⊢
  cases t
  · simp only [Bool.false_eq_true, if_false]
    rw [if_neg (by omega), decide_eq_false (by omega), Int.natAbs_natCast]
  · simp only [if_true]
    rw [if_neg (by omega), decide_eq_true (by omega), show (-(x : Int)).natAbs = x by omega]
theorem zeros_sum (s t : Bool) (e f : Int) : arithV (((Datum.number s 0 e).sum (.number t 0 f)).map Ieee.single.write) = if s then (if t then 2147483648 else 0) else 0 := by
  simp only [Datum.sum, Option.map_some, arith_number]
  have e1 : ∀ s : Bool, ∀ d, signed s 0 d = 0 := by intro s d; unfold signed; cases s <;> simp
  rw [e1, e1]
  cases s <;> cases t <;> simp [NR, sgn, rung]
theorem greater_place {a b : Int} {s t : Bool} {m n : Nat} {e f : Int} (fa : Fin32 a s m e) (fb : Fin32 b t n f) (hm : m ≠ 0) (hn : n ≠ 0) (h : sz n f (min e f) ≤ sz m e (min e f)) : f ≤ e := by
  by_cases c : f ≤ e
  · exact c
  · have hf := fb.form
    have he := (fin_small fa).2
    have hm1 := (fin_small fa).1
    rcases hf with ⟨_, h2⟩ | ⟨h2, h3, _, _⟩
    · omega
    · have hl2 : n.log2 = 23 := (Nat.log2_eq_iff (by omega)).2 ⟨by omega, by omega⟩
      have hl1 : m.log2 < 24 := (Nat.log2_lt hm).2 (by omega)
      have := sz_lt (base := min e f) hm hn (by omega) (by omega) (show (m.log2 : Int) + e < (n.log2 : Int) + f by omega)
      omega
theorem add_great {a b : Int} {s t : Bool} {m n : Nat} {e f : Int} (fa : Fin32 a s m e) (fb : Fin32 b t n f) (hm : m ≠ 0) (hn : n ≠ 0) (h : sz n f (min e f) ≤ sz m e (min e f)) (k : Nat) (hk : 100 ≤ k) :
    heraldref03_Add.j2 k s (m : Int) e t (n : Int) f = some (sumV s m e t n f) := by
  have hp := greater_place fa fb hm hn h
  obtain ⟨m1, e0, e1⟩ := fin_small fa
  obtain ⟨n1, f0, f1⟩ := fin_small fb
  obtain ⟨d, hd⟩ : ∃ d : Nat, e = f + d := ⟨(e - f).toNat, by omega⟩
  refine add_j2 s t m n d e f hd hm hn m1 n1 e1 f0 ?_ k hk
  unfold sz at h
  rw [show min e f = f by omega, show (f - f).toNat = 0 by omega, show (e - f).toNat = d by omega, Nat.shiftLeft_zero, Nat.shiftLeft_eq] at h
  exact h
theorem refAdd_some (a b : Int) (a0 : 0 ≤ a) (a1 : a < 4294967296) (b0 : 0 ≤ b) (b1 : b < 4294967296) (k : Nat) (hk : 130 ≤ k) : heraldref03_Add.f k a b = some (arithV (arithR .add a.toNat b.toNat)) := by
  obtain ⟨k, rfl⟩ : ∃ j, k = j + 2 := ⟨k - 2, by omega⟩
  have hM : arithR .add a.toNat b.toNat = ((Ieee.single.read a.toNat).sum (Ieee.single.read b.toNat)).map Ieee.single.write := rfl
  unfold heraldref03_Add.f
  rw [raw_some a a0 a1, raw_some b b0 b1, hM]
  simp only [Option.bind_some]
  rcases raw_cases a a0 a1 with ⟨ra, s, fa, da⟩ | ⟨s, ra, da, wa⟩ | ⟨s, m, e, ra, da, fa⟩ <;> rcases raw_cases b b0 b1 with ⟨rb, t, fb, db⟩ | ⟨t, rb, db, wb⟩ | ⟨t, n, f, rb, db, fb⟩ <;> rw [ra, rb, da, db]
  · simp [heraldref03_Add.j0, Datum.sum, arithV]
  · simp [heraldref03_Add.j0, Datum.sum, arithV]
  · simp [heraldref03_Add.j0, Datum.sum, arithV]
  · simp [heraldref03_Add.j0, Datum.sum, arithV]
  · by_cases c : s = t
    · subst c
      simp only [Datum.sum, if_true, Option.map_some, arith_inf]
      simp [heraldref03_Add.j0, wa]
    · simp only [Datum.sum, if_neg c, Option.map_none]
      have : (s != t) = true := by simpa using c
      simp [heraldref03_Add.j0, arithV, this, c]
  · simp only [Datum.sum, Option.map_some, arith_inf]
    simp [heraldref03_Add.j0, wa]
  · simp [heraldref03_Add.j0, Datum.sum, arithV]
  · simp only [Datum.sum, Option.map_some, arith_inf]
    simp [heraldref03_Add.j0, wb]
  · simp only [heraldref03_Add.j0, heraldref03_Add.j1]
    by_cases c : m = 0
    · subst c
      by_cases d : n = 0
      · subst d
        rw [zeros_sum]
        cases s <;> cases t <;> simp
      · rw [zero_sum s t n e f d, show NR t n f = b from fb.word.symm]
        simp [d]
    · by_cases d : n = 0
      · subst d
        rw [sum_comm, zero_sum t s m f e c, show NR s m e = a from fa.word.symm]
        simp [c]
      · obtain ⟨m1, e0, e1⟩ := fin_small fa
        obtain ⟨n1, f0, f1⟩ := fin_small fb
        have ha := ahead_some m n e f m1 n1 e0 (by omega) f0 (by omega) k (by omega)
        simp [c, d]
        rw [ha]
        simp only [Option.bind_some]
        by_cases g : (sz m e (min e f) : Int) < (sz n f (min e f) : Int)
        · rw [cmpI_lt g, if_pos (by omega), sum_comm]
          exact add_great fb fa d c (by rw [Int.min_comm f e]; omega) k (by omega)
        · rw [if_neg (by rcases Int.lt_or_eq_of_le (Int.not_lt.mp g) with h | h
                         · rw [cmpI_gt h]; omega
                         · rw [cmpI_eq h.symm]; omega)]
          exact add_great fa fb c d (by omega) k (by omega)
end Go.Proofs.Yteecekhfpfnepaa.Sg
end

section
namespace Go.Proofs.Yteecekhfpfnepaa.Sg
open Ieee
open Go.RowKit Go.Proofs.Yteecekhfpfnepaa.PAll Go.Proofs.YteecekhfpfnepaaW.PrintWords Go.Proofs.YteecekhfpfnepaaW.PrintLast Go.Proofs.YteecekhfpfnepaaW.PrintMore
set_option linter.unusedVariables false
set_option linter.unusedSimpArgs false
theorem xor_nat (n : Nat) (h : n < 4294967296) : n ^^^ 2147483648 = if n < 2147483648 then n + 2147483648 else n - 2147483648 := by
  have h1 : (n ^^^ 2147483648) / 2 ^ 31 = (n / 2 ^ 31) ^^^ (2147483648 / 2 ^ 31) := by
    rw [← Nat.shiftRight_eq_div_pow, ← Nat.shiftRight_eq_div_pow, ← Nat.shiftRight_eq_div_pow, Nat.shiftRight_xor_distrib]
  have h2 : (n ^^^ 2147483648) % 2 ^ 31 = (n % 2 ^ 31) ^^^ (2147483648 % 2 ^ 31) := Nat.xor_mod_two_pow
  have e31 : 2 ^ 31 = 2147483648 := by decide
  rw [e31] at h1 h2
  rw [show 2147483648 % 2147483648 = 0 by decide, Nat.xor_zero] at h2
  rw [show 2147483648 / 2147483648 = 1 by decide] at h1
  by_cases c : n < 2147483648
  · rw [if_pos c]
    rw [show n / 2147483648 = 0 by omega, Nat.zero_xor] at h1
    omega
  · rw [if_neg c]
    rw [show n / 2147483648 = 1 by omega, Nat.xor_self] at h1
    omega
theorem xor_top (a : Int) (h0 : 0 ≤ a) (h1 : a < 4294967296) : bits .xor .u32 a 2147483648 = if a < 2147483648 then a + 2147483648 else a - 2147483648 := by
  obtain ⟨n, rfl⟩ := Int.eq_ofNat_of_zero_le h0
  show IntKind.u32.wrap ((BitVec.ofInt 32 (n : Int) ^^^ BitVec.ofInt 32 ((2147483648 : Nat) : Int)).toNat : Int) = _
  rw [BitVec.toNat_xor, BitVec.ofInt_natCast, BitVec.ofInt_natCast, BitVec.toNat_ofNat, BitVec.toNat_ofNat, Nat.mod_eq_of_lt (by omega), Nat.mod_eq_of_lt (by omega), xor_nat n (by omega)]
  show (((if n < 2147483648 then n + 2147483648 else n - 2147483648 : Nat) : Int)) % 4294967296 = _
  split <;> split <;> omega
theorem sum_nan (x : Datum) (s : Bool) (f : Nat) : x.sum (.nan s f) = none := by cases x <;> rfl
theorem refSub_some (a b : Int) (a0 : 0 ≤ a) (a1 : a < 4294967296) (b0 : 0 ≤ b) (b1 : b < 4294967296) (k : Nat) (hk : 130 ≤ k) : heraldref03_Sub.f k a b = single_Sub.f a b := by
  have hx := xor_top b b0 b1
  obtain ⟨c, hc⟩ : ∃ c, bits .xor .u32 b 2147483648 = c := ⟨_, rfl⟩
  rw [hc] at hx
  have hcr : 0 ≤ c ∧ c < 4294967296 := by rw [hx]; split <;> omega
  unfold heraldref03_Sub.f single_Sub.f heraldref03_negated.f
  rw [hc, raw_some b b0 b1]
  simp only [Option.bind_some]
  rw [refAdd_some a c a0 a1 hcr.1 hcr.2 k hk]
  unfold single_Add.f
  simp only [Option.bind_some]
  by_cases hn : (rawV b).1 = 2
  · rw [if_pos hn]
    -- a none
    have h255 : c.toNat / 8388608 % 256 = 255 ∧ c.toNat % 8388608 ≠ 0 := by
      unfold rawV at hn
      by_cases c1 : b / 8388608 % 256 = 255
      · rw [if_pos c1] at hn
        by_cases c2 : b % 8388608 = 0
        · rw [if_pos c2] at hn; exact absurd hn (by simp)
        · rw [hx]; split <;> omega
      · rw [if_neg c1] at hn
        split at hn <;> exact absurd hn (by simp)
    have hr := read_eq c.toNat (by omega)
    rw [if_pos h255.1, if_neg h255.2] at hr
    have : arithR .add a.toNat c.toNat = none := by
      show ((Ieee.single.read a.toNat).sum (Ieee.single.read c.toNat)).map Ieee.single.write = none
      rw [hr, sum_nan]; rfl
    rw [this]; rfl
  · rw [if_neg hn]
end Go.Proofs.Yteecekhfpfnepaa.Sg
end

section
namespace Go.Proofs.Yteecekhfpfnepaa.Sg
set_option linter.unusedVariables false
set_option linter.unusedSimpArgs false
theorem rung_stick2 (X M k : Nat) (q : Int) (hX : X % 2 = 1) (hb : 33554432 ≤ X) (h1 : (X - 1) * 2 ^ k < M) (h2 : M < (X + 1) * 2 ^ k) : rung M q = rung X (q + k) := by
  have hp := pow_pos' k
  have hX0 : X ≠ 0 := by omega
  obtain ⟨b1, b2⟩ := log_bounds X hX0
  have hM0 : M ≠ 0 := by omega
  have hL27 : 25 ≤ X.log2 := by
    have : ¬ X.log2 < 25 := fun h => by
      have := (Nat.log2_lt hX0).1 h
      have e : 2 ^ 25 = 33554432 := by decide
      omega
    omega
  have ev : 2 ^ X.log2 % 2 = 0 := by rw [pow_half _ (by omega)]; omega
  have ev2 : 2 ^ (X.log2 + 1) % 2 = 0 := by rw [pow_half _ (by omega)]; omega
  have hlog : M.log2 = X.log2 + k := by
    rw [Nat.log2_eq_iff hM0]
    have g1 : 2 ^ X.log2 * 2 ^ k ≤ (X - 1) * 2 ^ k := Nat.mul_le_mul_right _ (by omega)
    have g2 : (X + 1) * 2 ^ k ≤ 2 ^ (X.log2 + 1) * 2 ^ k := Nat.mul_le_mul_right _ (by omega)
    rw [← Nat.pow_add] at g1 g2
    rw [show X.log2 + k + 1 = X.log2 + 1 + k by omega]
    omega
  rw [rung_eq M q hM0, rung_eq X _ hX0]
  have hl : lastP M q = lastP X (q + k) := by
    unfold lastP; rw [hlog]; congr 1; omega
  have hlp : lastP X (q + k) = max (q + k + X.log2 - 23) (-149) := rfl
  rw [hl]
  obtain ⟨L, hL⟩ : ∃ L, lastP X (q + k) = L := ⟨_, rfl⟩
  rw [hL] at hlp ⊢
  have hk : keptQ M q L = keptQ X (q + k) L := by
    unfold keptQ
    obtain ⟨D, hD⟩ : ∃ D, (L - (q + k)).toNat = D := ⟨_, rfl⟩
    rw [show (q - L).toNat = 0 by omega, show (q + k - L).toNat = 0 by omega, Nat.shiftLeft_zero, Nat.shiftLeft_zero, hD, show (L - q).toNat = D + k by omega]
    exact rhe_stick X M D k hX (by omega) h1 h2
  rw [hk]
theorem stick_join (X Y d : Nat) (f : Int) (hX : X % 2 = 1) (hb : 33554432 ≤ X) (h1 : (X - 1) * 2 ^ d < Y ∨ (Y % 2 = 1 ∧ (X - 1) * 2 ^ d < Y + 1)) (h2 : Y < (X + 1) * 2 ^ d ∨ (Y % 2 = 1 ∧ Y < (X + 1) * 2 ^ d + 1)) : rung Y f = rung X (f + d) := by
  obtain ⟨z, rfl⟩ : ∃ z, X = 2 * z + 1 := ⟨X / 2, by omega⟩
  have e1 : (2 * z + 1 - 1) * 2 ^ d = 2 * (z * 2 ^ d) := by rw [Nat.add_sub_cancel, Nat.mul_assoc]
  have e2 : (2 * z + 1 + 1) * 2 ^ d = 2 * ((z + 1) * 2 ^ d) := by rw [show 2 * z + 1 + 1 = 2 * (z + 1) by omega, Nat.mul_assoc]
  refine rung_stick2 (2 * z + 1) Y d f hX hb ?_ ?_
  · rw [e1] at h1 ⊢; omega
  · rw [e2] at h2 ⊢; omega
theorem scale_join (X d : Nat) (f : Int) : rung (X * 2 ^ d) f = rung X (f + d) := by
  have := rung_scale X d (f + d)
  rwa [show f + (d : Int) - d = f by omega] at this
/-- One quotient, told twice. -/
theorem join_div (X Y A B C D d : Nat) (f : Int) (hB : 0 < B) (hD : 0 < D) (hrel : A * 2 ^ d * D = C * B) (hX : X * B = A ∨ (X % 2 = 1 ∧ 33554432 ≤ X ∧ (X - 1) * B < A ∧ A < (X + 1) * B))
    (hY : Y * D = C ∨ (Y % 2 = 1 ∧ (Y - 1) * D < C ∧ C < (Y + 1) * D)) : rung Y f = rung X (f + d) := by
  have hp := pow_pos' d
  rcases hX with rfl | ⟨x1, x2, x3, x4⟩
  · have hC : C = X * 2 ^ d * D := by
      apply Nat.eq_of_mul_eq_mul_right hB
      rw [← hrel]
      simp only [Nat.mul_assoc, Nat.mul_comm B, Nat.mul_left_comm B]
    subst hC
    have hy : Y = X * 2 ^ d := by
      rcases hY with h | ⟨_, h1, h2⟩
      · exact Nat.eq_of_mul_eq_mul_right hD h
      · have g1 := Nat.lt_of_mul_lt_mul_right h1
        have g2 := Nat.lt_of_mul_lt_mul_right h2
        omega
    rw [hy, scale_join]
  · have l1 : (X - 1) * 2 ^ d * D < C := by
      apply Nat.lt_of_mul_lt_mul_right (a := B)
      rw [← hrel, show (X - 1) * 2 ^ d * D * B = ((X - 1) * B) * (2 ^ d * D) by simp only [Nat.mul_assoc, Nat.mul_comm B, Nat.mul_left_comm B], Nat.mul_assoc A]
      exact Nat.mul_lt_mul_of_pos_right x3 (Nat.mul_pos hp hD)
    have l2 : C < (X + 1) * 2 ^ d * D := by
      apply Nat.lt_of_mul_lt_mul_right (a := B)
      rw [← hrel, show (X + 1) * 2 ^ d * D * B = ((X + 1) * B) * (2 ^ d * D) by simp only [Nat.mul_assoc, Nat.mul_comm B, Nat.mul_left_comm B], Nat.mul_assoc A]
      exact Nat.mul_lt_mul_of_pos_right x4 (Nat.mul_pos hp hD)
    rcases hY with rfl | ⟨y1, y2, y3⟩
    · exact stick_join X Y d f x1 x2 (.inl (Nat.lt_of_mul_lt_mul_right l1)) (.inl (Nat.lt_of_mul_lt_mul_right l2))
    · have g1 := Nat.lt_of_mul_lt_mul_right (Nat.lt_trans l1 y3)
      have g2 := Nat.lt_of_mul_lt_mul_right (Nat.lt_trans y2 l2)
      exact stick_join X Y d f x1 x2 (.inr ⟨y1, g1⟩) (.inr ⟨y1, by omega⟩)
theorem sq_lt {a b : Nat} (h : a * a < b * b) : a < b := Nat.mul_self_lt_mul_self_iff.1 h
theorem sq_eq {a b : Nat} (h : a * a = b * b) : a = b := by
  rcases Nat.lt_trichotomy a b with c | c | c
  · have := Nat.mul_self_lt_mul_self c; omega
  · exact c
  · have := Nat.mul_self_lt_mul_self c; omega
/-- One root, told twice. -/
theorem join_root (X Y A C d : Nat) (f : Int) (hrel : C = A * (2 ^ d * 2 ^ d)) (hX : X * X = A ∨ (X % 2 = 1 ∧ 33554432 ≤ X ∧ (X - 1) * (X - 1) < A ∧ A < (X + 1) * (X + 1)))
    (hY : Y * Y = C ∨ (Y % 2 = 1 ∧ (Y - 1) * (Y - 1) < C ∧ C < (Y + 1) * (Y + 1))) : rung Y f = rung X (f + d) := by
  have hp := pow_pos' d
  have hpp : 0 < 2 ^ d * 2 ^ d := Nat.mul_pos hp hp
  have sh : ∀ x : Nat, x * x * (2 ^ d * 2 ^ d) = (x * 2 ^ d) * (x * 2 ^ d) := fun x => by simp only [Nat.mul_assoc, Nat.mul_left_comm x]
  rcases hX with rfl | ⟨x1, x2, x3, x4⟩
  · rw [sh] at hrel
    subst hrel
    have hy : Y = X * 2 ^ d := by
      rcases hY with h | ⟨_, h1, h2⟩
      · exact sq_eq h
      · have g1 := sq_lt h1
        have g2 := sq_lt h2
        omega
    rw [hy, scale_join]
  · have l1 : ((X - 1) * 2 ^ d) * ((X - 1) * 2 ^ d) < C := by
      rw [← sh, hrel]
      exact Nat.mul_lt_mul_of_pos_right x3 hpp
    have l2 : C < ((X + 1) * 2 ^ d) * ((X + 1) * 2 ^ d) := by
      rw [← sh, hrel]
      exact Nat.mul_lt_mul_of_pos_right x4 hpp
    rcases hY with rfl | ⟨y1, y2, y3⟩
    · exact stick_join X Y d f x1 x2 (.inl (sq_lt l1)) (.inl (sq_lt l2))
    · have g1 := sq_lt (Nat.lt_trans l1 y3)
      have g2 := sq_lt (Nat.lt_trans y2 l2)
      exact stick_join X Y d f x1 x2 (.inr ⟨y1, g1⟩) (.inr ⟨y1, by omega⟩)
end Go.Proofs.Yteecekhfpfnepaa.Sg
end

section
namespace Go.Proofs.Yteecekhfpfnepaa.Sg
open Ieee
open Go.RowKit Go.Proofs.Yteecekhfpfnepaa.PAll Go.Proofs.YteecekhfpfnepaaW.PrintWords Go.Proofs.YteecekhfpfnepaaW.PrintLast Go.Proofs.YteecekhfpfnepaaW.PrintMore
set_option linter.unusedVariables false
set_option linter.unusedSimpArgs false
theorem or_one2 (a : Nat) (ha : a < 9223372036854775808) : bits .or .u64 (a : Int) 1 = ((if a % 2 = 1 then a else a + 1 : Nat) : Int) := by
  show IntKind.u64.wrap ((BitVec.ofInt 64 (a : Int) ||| BitVec.ofInt 64 ((1 : Nat) : Int)).toNat : Int) = _
  rw [BitVec.toNat_or, BitVec.ofInt_natCast, BitVec.ofInt_natCast, BitVec.toNat_ofNat, BitVec.toNat_ofNat, Nat.mod_eq_of_lt (by omega), Nat.mod_eq_of_lt (by omega)]
  have e : a ||| 1 = if a % 2 = 1 then a else a + 1 := by
    by_cases c : a % 2 = 1
    · rw [if_pos c]
      have := Nat.two_pow_add_eq_or_of_lt (i := 1) (b := 1) (by omega) (a / 2)
      have h2 : a = 2 ^ 1 * (a / 2) + 1 := by omega
      rw [h2, this, Nat.or_assoc, Nat.or_self]
    · rw [if_neg c]
      have := Nat.two_pow_add_eq_or_of_lt (i := 1) (b := 1) (by omega) (a / 2)
      have h2 : a = 2 ^ 1 * (a / 2) := by omega
      rw [← h2] at this
      exact this.symm
  rw [e]
  exact u64_in (by split <;> omega) (by split <;> omega)
/-- A quotient; where something is left, an odd one. -/
def divQ (N n : Nat) : Nat := if N / n * n = N then N / n else if N / n % 2 = 1 then N / n else N / n + 1
theorem divQ_sticky (N n : Nat) (hn : 0 < n) : divQ N n * n = N ∨ (divQ N n % 2 = 1 ∧ (divQ N n - 1) * n < N ∧ N < (divQ N n + 1) * n) := by
  have h1 : N / n * n ≤ N := Nat.div_mul_le_self _ _
  have h2 : N < (N / n + 1) * n := by
    have g1 := Nat.div_add_mod N n
    have g2 := Nat.mod_lt N hn
    rw [Nat.add_mul, Nat.one_mul, Nat.mul_comm (N / n)]; omega
  unfold divQ
  obtain ⟨q, hq⟩ : ∃ q, N / n = q := ⟨_, rfl⟩
  rw [hq] at h1 h2 ⊢
  by_cases c : q * n = N
  · rw [if_pos c]; exact .inl c
  · rw [if_neg c]
    by_cases c2 : q % 2 = 1
    · rw [if_pos c2]
      refine .inr ⟨c2, ?_, h2⟩
      have : (q - 1) * n ≤ q * n := Nat.mul_le_mul_right _ (by omega)
      omega
    · rw [if_neg c2]
      refine .inr ⟨by omega, by rw [Nat.add_sub_cancel]; omega, ?_⟩
      have : (q + 1) * n ≤ (q + 1 + 1) * n := Nat.mul_le_mul_right _ (by omega)
      omega
theorem div_tail (s t : Bool) (M n : Nat) (e f : Int) (hM : M < 16777216) (hn : 0 < n) (hn1 : n < 16777216) (he0 : -400 ≤ e) (he1 : e ≤ 300) (hf0 : -400 ≤ f) (hf1 : f ≤ 400) (k : Nat) (hk : 80 ≤ k) :
    (if (IntKind.u64.wrap ((n : Int))) = 0 then (none) else (if (IntKind.u64.wrap ((IntKind.u64.wrap (Int.tdiv (IntKind.u64.wrap ((IntKind.u64.wrap ((M : Int))) * 274877906944)) (IntKind.u64.wrap ((n : Int))))) * (IntKind.u64.wrap ((n : Int))))) = (IntKind.u64.wrap ((IntKind.u64.wrap ((M : Int))) * 274877906944)) then ((heraldref03_near.f k (s != t) (IntKind.u64.wrap (Int.tdiv (IntKind.u64.wrap ((IntKind.u64.wrap ((M : Int))) * 274877906944)) (IntKind.u64.wrap ((n : Int))))) (wrap64 ((wrap64 (e - 38)) - f))).bind fun t206 => (some t206)) else ((heraldref03_near.f k (s != t) (Go.bits .or .u64 (IntKind.u64.wrap (Int.tdiv (IntKind.u64.wrap ((IntKind.u64.wrap ((M : Int))) * 274877906944)) (IntKind.u64.wrap ((n : Int))))) 1) (wrap64 ((wrap64 (e - 38)) - f))).bind fun t207 => (some t207)))) = some (NR (s ^^ t) (divQ (M * 274877906944) n) (e - 38 - f)) := by
  obtain ⟨N, hN⟩ : ∃ N, M * 274877906944 = N := ⟨_, rfl⟩
  have hNb : N < 4611686018427387904 := by omega
  have hq : N / n ≤ N := Nat.div_le_self _ _
  have hq2 : N / n * n ≤ N := Nat.div_mul_le_self _ _
  have w1 : IntKind.u64.wrap (n : Int) = (n : Int) := u64_in (by omega) (by omega)
  have w2 : IntKind.u64.wrap (M : Int) = (M : Int) := u64_in (by omega) (by omega)
  have w3 : IntKind.u64.wrap ((M : Int) * 274877906944) = (N : Int) := by rw [u64_in (by omega) (by omega)]; omega
  have w4 : IntKind.u64.wrap (Int.tdiv (N : Int) (n : Int)) = ((N / n : Nat) : Int) := by
    rw [Int.tdiv_eq_ediv_of_nonneg (by omega), ← Int.natCast_ediv]
    obtain ⟨q, hqq⟩ : ∃ q, N / n = q := ⟨_, rfl⟩
    rw [hqq] at hq ⊢
    rw [u64_in (by omega) (by omega)]
  have w5 : IntKind.u64.wrap (((N / n : Nat) : Int) * (n : Int)) = ((N / n * n : Nat) : Int) := by
    rw [← Int.natCast_mul]
    obtain ⟨q, hqq⟩ : ∃ q, N / n * n = q := ⟨_, rfl⟩
    rw [hqq] at hq2 ⊢
    rw [u64_in (by omega) (by omega)]
  have w6 : wrap64 (wrap64 (e - 38) - f) = e - 38 - f := by rw [wrap_in (a := e - 38) (by omega) (by omega), wrap_in (by omega) (by omega)]
  rw [w1, w2, w3, w4, w5, w6, if_neg (by omega), hN]
  have hx : (s != t) = (s ^^ t) := bne_xor s t
  rw [hx]
  unfold divQ
  obtain ⟨q, hqq⟩ : ∃ q, N / n = q := ⟨_, rfl⟩
  rw [hqq] at hq hq2 ⊢
  by_cases c : q * n = N
  · rw [if_pos (by omega), if_pos c, refnear_some _ q _ (by omega) k hk]; rfl
  · rw [if_neg (by omega), if_neg c, or_one2 _ (by omega), refnear_some _ _ _ (by split <;> omega) k hk]; rfl
theorem div_l1 (s t : Bool) (M : Nat) (e : Int) (hM : M < 16777216) (he0 : -400 ≤ e) (he1 : e ≤ 300) : ∀ (c n : Nat) (f : Int) (k : Nat), 0 < n → n < 2 ^ c → c ≤ 24 → -300 ≤ f → f + c ≤ 400 → c + 90 ≤ k →
    ∃ (u n' : Nat), n = n' * 2 ^ u ∧ 0 < n' ∧ heraldref03_Div.l1 k s (M : Int) e t (n : Int) f = some (NR (s ^^ t) (divQ (M * 274877906944) n') (e - 38 - (f + u)))
  | 0, n, f, k, h0, h1, _, _, _, _ => by rw [Nat.pow_zero] at h1; omega
  | c + 1, n, f, k, h0, h1, hc, hf0, hf1, hk => by
    obtain ⟨k, rfl⟩ : ∃ j, k = j + 1 := ⟨k - 1, by omega⟩
    have hp : 2 ^ (c + 1) ≤ 2 ^ 24 := Nat.pow_le_pow_right (by omega) (by omega)
    have hp2 : 2 ^ 24 = 16777216 := by decide
    have hps : 2 ^ (c + 1) = 2 * 2 ^ c := by rw [Nat.pow_succ, Nat.mul_comm]
    have ht := div_tail s t M n e f hM h0 (by omega) he0 he1 (by omega) (by omega) k (by omega)
    simp only [heraldref03_Div.l1]
    by_cases c1 : 2 ≤ n
    · rw [if_pos (by omega)]
      by_cases c2 : n % 2 = 0
      · rw [if_pos (by rw [Int.tmod_eq_emod_of_nonneg (by omega)]; omega)]
        have e1 : wrap64 (Int.tdiv (n : Int) 2) = ((n / 2 : Nat) : Int) := by
          rw [Int.tdiv_eq_ediv_of_nonneg (by omega), wrap_in (by omega) (by omega)]; omega
        rw [e1, wrap_in (a := f + 1) (by omega) (by omega)]
        obtain ⟨u, n', g1, g2, g3⟩ := div_l1 s t M e hM he0 he1 c (n / 2) (f + 1) k (by omega) (by omega) (by omega) (by omega) (by omega) (by omega)
        refine ⟨u + 1, n', ?_, g2, ?_⟩
        · rw [Nat.pow_succ, ← Nat.mul_assoc, ← g1]; omega
        · rw [g3]; congr 2; omega
      · rw [if_neg (by rw [Int.tmod_eq_emod_of_nonneg (by omega)]; omega)]
        exact ⟨0, n, by rw [Nat.pow_zero, Nat.mul_one], h0, by rw [ht]; congr 2; omega⟩
    · rw [if_neg (by omega)]
      exact ⟨0, n, by rw [Nat.pow_zero, Nat.mul_one], h0, by rw [ht]; congr 2; omega⟩
theorem div_l0 (s t : Bool) (n f : Int) : ∀ (c m : Nat) (e : Int) (k : Nat), m < 16777216 → 8388608 ≤ m * 2 ^ c → c ≤ 24 → -400 ≤ e - c → e ≤ 200 → c + 1 ≤ k →
    ∃ (a k' : Nat), k ≤ k' + c + 1 ∧ a ≤ c ∧ m * 2 ^ a < 16777216 ∧ 8388608 ≤ m * 2 ^ a ∧ heraldref03_Div.l0 k s (m : Int) e t n f = heraldref03_Div.l1 k' s ((m * 2 ^ a : Nat) : Int) (e - a) t n f
  | c, m, e, 0, _, _, _, _, _, hk => by omega
  | 0, m, e, k + 1, h1, h2, hc, he0, he1, hk => by
    rw [Nat.pow_zero, Nat.mul_one] at h2
    refine ⟨0, k, by omega, by omega, by rw [Nat.pow_zero, Nat.mul_one]; omega, by rw [Nat.pow_zero, Nat.mul_one]; omega, ?_⟩
    simp only [heraldref03_Div.l0]
    rw [if_neg (by omega), Nat.pow_zero, Nat.mul_one, show e - ((0 : Nat) : Int) = e by omega]
  | c + 1, m, e, k + 1, h1, h2, hc, he0, he1, hk => by
    by_cases c1 : m < 8388608
    · obtain ⟨a, k', g1, g2, g3, g4, g5⟩ := div_l0 s t n f c (m * 2) (e - 1) k (by omega) (by rw [Nat.mul_assoc, ← Nat.pow_succ']; exact h2) (by omega) (by omega) (by omega) (by omega)
      have em : m * 2 * 2 ^ a = m * 2 ^ (a + 1) := by rw [Nat.mul_assoc, ← Nat.pow_succ']
      rw [em] at g3 g4 g5
      refine ⟨a + 1, k', by omega, by omega, g3, g4, ?_⟩
      simp only [heraldref03_Div.l0]
      rw [if_pos (by omega), wrap_in (a := (m : Int) * 2) (by omega) (by omega), wrap_in (a := e - 1) (by omega) (by omega), show (m : Int) * 2 = ((m * 2 : Nat) : Int) by omega, g5]
      congr 1
      omega
    · refine ⟨0, k, by omega, by omega, by rw [Nat.pow_zero, Nat.mul_one]; omega, by rw [Nat.pow_zero, Nat.mul_one]; omega, ?_⟩
      simp only [heraldref03_Div.l0]
      rw [if_neg (by omega), Nat.pow_zero, Nat.mul_one, show e - ((0 : Nat) : Int) = e by omega]
/-- The model's quotient of two numbers that are not 0, and the reference's. -/
theorem div_num (s t : Bool) (m n : Nat) (e f : Int) (hm : m ≠ 0) (hn : n ≠ 0) (hm1 : m < 16777216) (hn1 : n < 16777216) (he0 : -149 ≤ e) (he1 : e ≤ 104) (hf0 : -149 ≤ f) (hf1 : f ≤ 104) (k : Nat) (hk : 200 ≤ k) :
    heraldref03_Div.l0 k s (m : Int) e t (n : Int) f = some (arithV (((Datum.number s m e).quotient (Ieee.single.fractionBits + 2) (.number t n f)).map Ieee.single.write)) := by
  have hlm := log_bounds m hm
  have hln := log_bounds n hn
  have h23 : m.log2 ≤ 23 := by
    have : m.log2 < 24 := (Nat.log2_lt hm).2 (by omega)
    omega
  have n23 : n.log2 ≤ 23 := by
    have : n.log2 < 24 := (Nat.log2_lt hn).2 (by omega)
    omega
  have e24 : 2 ^ 24 = 16777216 := by decide
  obtain ⟨a, k', g1, g2, g3, g4, g5⟩ := div_l0 s t (n : Int) f 24 m e k hm1 (by rw [e24]; omega) (by omega) (by omega) (by omega) (by omega)
  obtain ⟨u, n', g6, g7, g8⟩ := div_l1 s t (m * 2 ^ a) (e - a) g3 (by omega) (by omega) 24 n f k' (by omega) (by rw [e24]; omega) (by omega) (by omega) (by omega) (by omega)
  rw [g5, g8]
  -- the model's
  obtain ⟨mo, hmo⟩ : ∃ mo, Ieee.single.fractionBits + 2 + n.log2 - m.log2 = mo := ⟨_, rfl⟩
  have hmo' : mo + m.log2 = 25 + n.log2 := by
    have : Ieee.single.fractionBits = 23 := rfl
    omega
  obtain ⟨D, hD⟩ : ∃ D, m <<< mo = D := ⟨_, rfl⟩
  have hD' : D = m * 2 ^ mo := by rw [← hD, Nat.shiftLeft_eq]
  obtain ⟨X, hX⟩ : ∃ X, 2 * (D / n) + (D % n != 0).toNat = X := ⟨_, rfl⟩
  have hmodel : (Datum.number s m e).quotient (Ieee.single.fractionBits + 2) (.number t n f) = some (.number (s ^^ t) X (e - f - mo - 1)) := by
    simp only [Datum.quotient]
    rw [if_neg hn, hmo, hD, hX]
  rw [hmodel, Option.map_some, arith_number]
  unfold NR
  -- the rest is more than the last place tells
  have hdm := Nat.div_add_mod D n
  have hmod : D % n < n := Nat.mod_lt _ (by omega)
  have hDn : 16777216 * n ≤ D := by
    have h1 : 2 ^ m.log2 * 2 ^ mo ≤ D := by rw [hD']; exact Nat.mul_le_mul_right _ hlm.1
    rw [← Nat.pow_add, show m.log2 + mo = 24 + (n.log2 + 1) by omega, Nat.pow_add] at h1
    have h2 : 2 ^ 24 = 16777216 := by decide
    rw [h2] at h1
    have := Nat.mul_le_mul_left 16777216 (Nat.le_of_lt hln.2)
    omega
  have hq : 16777216 ≤ D / n := (Nat.le_div_iff_mul_le (by omega)).2 hDn
  have hXs : X * n = 2 * m * 2 ^ mo ∨ (X % 2 = 1 ∧ 33554432 ≤ X ∧ (X - 1) * n < 2 * m * 2 ^ mo ∧ 2 * m * 2 ^ mo < (X + 1) * n) := by
    have e2 : 2 * m * 2 ^ mo = 2 * D := by rw [hD', Nat.mul_assoc]
    rw [e2]
    obtain ⟨q, hqq⟩ : ∃ q, D / n = q := ⟨_, rfl⟩
    rw [hqq] at hdm hX hq
    have hnq : n * q = q * n := Nat.mul_comm _ _
    rw [hnq] at hdm
    by_cases c : D % n = 0
    · refine .inl ?_
      rw [c] at hX
      have hX' : X = 2 * q := by rw [← hX]; simp
      rw [hX', Nat.mul_assoc]; omega
    · refine .inr ?_
      have hX' : X = 2 * q + 1 := by
        rw [← hX]
        have : (D % n != 0) = true := by simp [c]
        rw [this]; rfl
      subst hX'
      refine ⟨by omega, by omega, ?_, ?_⟩
      · rw [Nat.add_sub_cancel, Nat.mul_assoc]; omega
      · rw [show 2 * q + 1 + 1 = 2 * (q + 1) by omega, Nat.mul_assoc, Nat.add_mul, Nat.one_mul]; omega
  have hYs := divQ_sticky (m * 2 ^ a * 274877906944) n' g7
  obtain ⟨Y, hY⟩ : ∃ Y, divQ (m * 2 ^ a * 274877906944) n' = Y := ⟨_, rfl⟩
  rw [hY] at hYs ⊢
  have hlog : 23 < m.log2 + 1 + a := by
    apply (Nat.pow_lt_pow_iff_right (a := 2) (by omega)).1
    rw [Nat.pow_add]
    have := Nat.mul_lt_mul_of_pos_right hlm.2 (pow_pos' a)
    have h2 : 2 ^ 23 = 8388608 := by decide
    omega
  obtain ⟨d, hd⟩ : ∃ d : Nat, mo + 1 + d = a + 38 + u := ⟨a + 38 + u - (mo + 1), by omega⟩
  have hj := join_div X Y (2 * m * 2 ^ mo) n (m * 2 ^ a * 274877906944) n' d (e - a - 38 - (f + u)) (by omega) g7 ?_ hXs hYs
  · rw [hj, show e - (a : Int) - 38 - (f + u) + d = e - f - mo - 1 by omega]
  · have e38 : 274877906944 = 2 ^ 38 := by decide
    rw [e38]
    conv => rhs; rw [g6]
    have ep : 2 * 2 ^ mo * 2 ^ d = 2 ^ a * 2 ^ 38 * 2 ^ u := by
      rw [← Nat.pow_succ', ← Nat.pow_add, ← Nat.pow_add, ← Nat.pow_add]
      congr 1
    calc 2 * m * 2 ^ mo * 2 ^ d * n' = (2 * 2 ^ mo * 2 ^ d) * (m * n') := by simp only [Nat.mul_assoc, Nat.mul_left_comm m]
      _ = (2 ^ a * 2 ^ 38 * 2 ^ u) * (m * n') := by rw [ep]
      _ = m * 2 ^ a * 2 ^ 38 * (n' * 2 ^ u) := by
        rw [Nat.mul_comm (2 ^ a * 2 ^ 38 * 2 ^ u)]
        simp only [Nat.mul_assoc, Nat.mul_left_comm n', Nat.mul_comm n']
end Go.Proofs.Yteecekhfpfnepaa.Sg
end

section
namespace Go.Proofs.Yteecekhfpfnepaa.Sg
open Ieee
open Go.RowKit Go.Proofs.Yteecekhfpfnepaa.PAll Go.Proofs.YteecekhfpfnepaaW.PrintWords Go.Proofs.YteecekhfpfnepaaW.PrintLast Go.Proofs.YteecekhfpfnepaaW.PrintMore
set_option linter.unusedVariables false
set_option linter.unusedSimpArgs false
theorem refDiv_some (a b : Int) (a0 : 0 ≤ a) (a1 : a < 4294967296) (b0 : 0 ≤ b) (b1 : b < 4294967296) (k : Nat) (hk : 300 ≤ k) : heraldref03_Div.f k a b = some (arithV (arithR .quo a.toNat b.toNat)) := by
  obtain ⟨k, rfl⟩ : ∃ j, k = j + 5 := ⟨k - 5, by omega⟩
  have hM : arithR .quo a.toNat b.toNat = ((Ieee.single.read a.toNat).quotient (Ieee.single.fractionBits + 2) (Ieee.single.read b.toNat)).map Ieee.single.write := rfl
  unfold heraldref03_Div.f
  rw [raw_some a a0 a1, raw_some b b0 b1, hM]
  simp only [Option.bind_some]
  rcases raw_cases a a0 a1 with ⟨ra, s, fa, da⟩ | ⟨s, ra, da, wa⟩ | ⟨s, m, e, ra, da, fa⟩ <;> rcases raw_cases b b0 b1 with ⟨rb, t, fb, db⟩ | ⟨t, rb, db, wb⟩ | ⟨t, n, f, rb, db, fb⟩ <;> rw [ra, rb, da, db]
  · simp [heraldref03_Div.j0, heraldref03_Div.j1, Datum.quotient, arithV]
  · simp [heraldref03_Div.j0, heraldref03_Div.j1, Datum.quotient, arithV]
  · by_cases c : n = 0 <;> simp [heraldref03_Div.j0, heraldref03_Div.j1, Datum.quotient, arithV, c]
  · simp [heraldref03_Div.j0, heraldref03_Div.j1, Datum.quotient, arithV]
  · simp [heraldref03_Div.j0, heraldref03_Div.j1, Datum.quotient, arithV]
  · simp only [Datum.quotient, Option.map_some, arith_inf]
    by_cases c : n = 0 <;> cases s <;> cases t <;> simp [heraldref03_Div.j0, heraldref03_Div.j1, heraldref03_Div.j2, heraldref03_Div.j3, c, sgn]
  · by_cases c : m = 0 <;> simp [heraldref03_Div.j0, heraldref03_Div.j1, Datum.quotient, arithV, c]
  · simp only [Datum.quotient, Option.map_some, arith_number]
    have hz : NR (s ^^ t) 0 0 = sgn (s ^^ t) := by simp [NR, rung]
    rw [hz]
    by_cases c : m = 0 <;> cases s <;> cases t <;> simp [heraldref03_Div.j0, heraldref03_Div.j1, heraldref03_Div.j2, heraldref03_Div.j3, heraldref03_Div.j4, c, sgn]
  · obtain ⟨m1, e0, e1⟩ := fin_small fa
    obtain ⟨n1, f0, f1⟩ := fin_small fb
    by_cases d : n = 0
    · subst d
      by_cases c : m = 0
      · simp [heraldref03_Div.j0, heraldref03_Div.j1, Datum.quotient, arithV, c]
      · simp only [Datum.quotient, if_true, if_neg c, Option.map_some, arith_inf]
        cases s <;> cases t <;> simp [heraldref03_Div.j0, heraldref03_Div.j1, heraldref03_Div.j2, heraldref03_Div.j3, c, sgn]
    · by_cases c : m = 0
      · subst c
        have hq : ((Datum.number s 0 e).quotient (Ieee.single.fractionBits + 2) (.number t n f)).map Ieee.single.write = some (Ieee.single.write (.number (s ^^ t) 0 (e - f - ((Ieee.single.fractionBits + 2 + n.log2 - Nat.log2 0 : Nat) : Int) - 1))) := by
          simp [Datum.quotient, d]
        rw [hq, arith_number]
        have hz : ∀ E, NR (s ^^ t) 0 E = sgn (s ^^ t) := fun E => by simp [NR, rung]
        rw [hz]
        cases s <;> cases t <;> simp [heraldref03_Div.j0, heraldref03_Div.j1, heraldref03_Div.j2, heraldref03_Div.j3, heraldref03_Div.j4, d, sgn]
      · have hj := div_num s t m n e f c d m1 n1 e0 e1 f0 f1 k (by omega)
        cases s <;> cases t <;> simpa [heraldref03_Div.j0, heraldref03_Div.j1, heraldref03_Div.j2, heraldref03_Div.j3, heraldref03_Div.j4, c, d] using hj
end Go.Proofs.Yteecekhfpfnepaa.Sg
end

section
namespace Go.Proofs.Yteecekhfpfnepaa.Sg
open Ieee
open Go.RowKit Go.Proofs.Yteecekhfpfnepaa.PAll Go.Proofs.YteecekhfpfnepaaW.PrintWords Go.Proofs.YteecekhfpfnepaaW.PrintLast Go.Proofs.YteecekhfpfnepaaW.PrintMore
set_option linter.unusedVariables false
set_option linter.unusedSimpArgs false
theorem rootFrom_spec (n : Nat) : ∀ (todo root : Nat), root * root ≤ n → n < (root + 2 ^ todo) * (root + 2 ^ todo) → Datum.rootFrom n todo root * Datum.rootFrom n todo root ≤ n ∧ n < (Datum.rootFrom n todo root + 1) * (Datum.rootFrom n todo root + 1)
  | 0, root, h1, h2 => by
    rw [Nat.pow_zero] at h2
    exact ⟨h1, h2⟩
  | todo + 1, root, h1, h2 => by
    simp only [Datum.rootFrom, Nat.one_shiftLeft]
    by_cases c : (root + 2 ^ todo) * (root + 2 ^ todo) ≤ n
    · rw [if_pos c]
      refine rootFrom_spec n todo _ c ?_
      rw [show root + 2 ^ todo + 2 ^ todo = root + 2 ^ (todo + 1) by rw [Nat.pow_succ]; omega]
      exact h2
    · rw [if_neg c]
      exact rootFrom_spec n todo root h1 (by omega)
theorem root_spec (n : Nat) : ∃ w, Datum.rootFrom n (n.log2 / 2 + 1) 0 = w ∧ w * w ≤ n ∧ n < (w + 1) * (w + 1) := by
  refine ⟨_, rfl, rootFrom_spec n _ 0 (by omega) ?_⟩
  rw [Nat.zero_add, ← Nat.pow_add]
  have h : n < 2 ^ (n.log2 + 1) := Nat.lt_log2_self
  have : 2 ^ (n.log2 + 1) ≤ 2 ^ (n.log2 / 2 + 1 + (n.log2 / 2 + 1)) := Nat.pow_le_pow_right (by omega) (by omega)
  omega
theorem refroot_loop (n : Nat) (hn : n < 4611686018427387904) : ∀ (j r k : Nat), r * r ≤ n → n < (r + 2 ^ (j + 1)) * (r + 2 ^ (j + 1)) → r + 2 ^ (j + 1) ≤ 4294967296 → j + 3 ≤ k →
    ∃ w : Nat, heraldref03_root.l0 k (n : Int) (r : Int) ((2 ^ j : Nat) : Int) = some (w : Int) ∧ w * w ≤ n ∧ n < (w + 1) * (w + 1)
  | j, r, 0, _, _, _, hk => by omega
  | j, r, k + 1, h1, h2, h3, hk => by
    have hp := pow_pos' j
    have hps : 2 ^ (j + 1) = 2 ^ j + 2 ^ j := by rw [Nat.pow_succ]; omega
    simp only [heraldref03_root.l0]
    obtain ⟨b, hb⟩ : ∃ b, 2 ^ j = b := ⟨_, rfl⟩
    rw [hps, hb] at h2 h3
    rw [hb] at hp ⊢
    have hsq : (r + b) * (r + b) ≤ 4294967295 * 4294967295 := Nat.mul_le_mul (by omega) (by omega)
    rw [if_pos (by omega), show (r : Int) + (b : Int) = ((r + b : Nat) : Int) by omega, u64_in (a := ((r + b : Nat) : Int)) (by omega) (by omega), ← Int.natCast_mul, u64_in (a := (((r + b) * (r + b) : Nat) : Int)) (by omega) (by omega)]
    have ed : IntKind.u64.wrap (Int.tdiv (b : Int) 2) = ((b / 2 : Nat) : Int) := by
      rw [Int.tdiv_eq_ediv_of_nonneg (by omega), u64_in (by omega) (by omega)]; omega
    rw [ed]
    cases j with
    | zero =>
      obtain rfl : b = 1 := by rw [← hb]
      obtain ⟨k, rfl⟩ : ∃ i, k = i + 1 := ⟨k - 1, by omega⟩
      by_cases c : (r + 1) * (r + 1) ≤ n
      · rw [if_pos (by omega)]
        simp only [heraldref03_root.l0]
        rw [if_neg (by omega)]
        exact ⟨r + 1, rfl, c, h2⟩
      · rw [if_neg (by omega)]
        simp only [heraldref03_root.l0]
        rw [if_neg (by omega)]
        exact ⟨r, rfl, h1, by omega⟩
    | succ i =>
      have e2 : b / 2 = 2 ^ i := by rw [← hb, Nat.pow_succ]; omega
      have e3 : 2 ^ (i + 1) = b := hb
      rw [e2]
      by_cases c : (r + b) * (r + b) ≤ n
      · rw [if_pos (by omega)]
        exact refroot_loop n hn i (r + b) k c (by rw [e3, show r + b + b = r + (b + b) by omega]; exact h2) (by rw [e3]; omega) (by omega)
      · rw [if_neg (by omega)]
        exact refroot_loop n hn i r k h1 (by rw [e3]; omega) (by rw [e3]; omega) (by omega)
theorem refroot_some (n : Nat) (hn : n < 4611686018427387904) (k : Nat) (hk : 40 ≤ k) : ∃ w : Nat, heraldref03_root.f k (n : Int) = some (w : Int) ∧ w * w ≤ n ∧ n < (w + 1) * (w + 1) := by
  unfold heraldref03_root.f
  have e : (2147483648 : Int) = ((2 ^ 31 : Nat) : Int) := by decide
  rw [e]
  exact refroot_loop n hn 31 0 k (by omega) (by
    have : (0 + 2 ^ (31 + 1)) * (0 + 2 ^ (31 + 1)) = 18446744073709551616 := by decide
    omega) (by decide) (by omega)
/-- Twice a root, odd where something is left. -/
theorem root_sticky (n w : Nat) (h1 : w * w ≤ n) (h2 : n < (w + 1) * (w + 1)) (X : Nat) (hX : X = 2 * w + (if w * w = n then 0 else 1)) : X * X = 4 * n ∨ (X % 2 = 1 ∧ (X - 1) * (X - 1) < 4 * n ∧ 4 * n < (X + 1) * (X + 1)) := by
  by_cases c : w * w = n
  · rw [if_pos c, Nat.add_zero] at hX
    refine .inl ?_
    subst hX
    rw [show 2 * w * (2 * w) = 4 * (w * w) by rw [Nat.mul_mul_mul_comm], c]
  · rw [if_neg c] at hX
    subst hX
    refine .inr ⟨by omega, ?_, ?_⟩
    · rw [Nat.add_sub_cancel, show 2 * w * (2 * w) = 4 * (w * w) by rw [Nat.mul_mul_mul_comm]]; omega
    · rw [show 2 * w + 1 + 1 = 2 * (w + 1) by omega, show 2 * (w + 1) * (2 * (w + 1)) = 4 * ((w + 1) * (w + 1)) by rw [Nat.mul_mul_mul_comm]]; omega
theorem sq_le {a b : Nat} (h : a ≤ b) : a * a ≤ b * b := Nat.mul_le_mul h h
/-- A rounding to 53 digits ahead of the one to 24: a root of so few digits is never near enough to a middle. -/
theorem double_round (v n w mag Z : Nat) (p : Int) (hv : n = v * 1152921504606846976) (hn0 : 2 ^ 108 ≤ n) (hn1 : n < 2 ^ 110) (h1 : w * w ≤ n) (h2 : n < (w + 1) * (w + 1)) (hm : mag = 2 * w + (if w * w = n then 0 else 1)) (hZ : Z = rhe mag 3) :
    rung Z (p + 3) = rung mag p ∧ 4503599627370496 ≤ Z ∧ Z < 9007199254740992 ∧ mag.log2 = 55 := by
  have e108 : 2 ^ 108 = 18014398509481984 * 18014398509481984 := by decide
  have e110 : 2 ^ 110 = 36028797018963968 * 36028797018963968 := by decide
  rw [e108] at hn0
  rw [e110] at hn1
  have w0 : 18014398509481984 < w + 1 := sq_lt (by omega)
  have w1 : w < 36028797018963968 := sq_lt (by omega)
  clear hn0 hn1 e108 e110
  obtain ⟨H, r, hw, hr⟩ : ∃ H r, w = H * 1073741824 + r ∧ r < 1073741824 := ⟨w / 1073741824, w % 1073741824, by omega, by omega⟩
  have hH0 : 16777216 ≤ H := by omega
  have hH1 : H < 33554432 := by omega
  have hst : mag = 2 * w ∨ mag = 2 * w + 1 := by split at hm <;> omega
  have hlog : mag.log2 = 55 := by
    have a1 : 2 ^ 55 = 36028797018963968 := by decide
    have a2 : 2 ^ 56 = 72057594037927936 := by decide
    exact (Nat.log2_eq_iff (by omega)).2 ⟨by omega, by omega⟩
  have h8 : 8 * Z ≤ mag + 4 ∧ mag ≤ 8 * Z + 4 := by
    have e8 : 2 ^ 3 = 8 := by decide
    rw [hZ]; unfold rhe; rw [e8]; split <;> omega
  have sqH : ∀ G : Nat, (G * 1073741824) * (G * 1073741824) = G * G * 1152921504606846976 := fun G => by rw [Nat.mul_mul_mul_comm]
  by_cases c : r ≤ 3
  · -- it is H 2^30 itself
    have hlo : H * H * 1152921504606846976 ≤ n := by
      have g : H * 1073741824 ≤ w := by omega
      have g2 := sq_le g
      rw [sqH] at g2
      exact Nat.le_trans g2 h1
    have hup : n < H * H * 1152921504606846976 + 8 * (H * 1073741824) + 16 := by
      have g : w + 1 ≤ H * 1073741824 + 4 := by omega
      have := sq_le g
      have e : (H * 1073741824 + 4) * (H * 1073741824 + 4) = H * H * 1152921504606846976 + 8 * (H * 1073741824) + 16 := by
        rw [Nat.add_mul, Nat.mul_add, sqH]; omega
      omega
    have hvH : v = H * H := by
      obtain ⟨q, hq⟩ : ∃ q, H * H = q := ⟨_, rfl⟩
      rw [hq] at hlo hup ⊢
      omega
    have hnH : n = (H * 1073741824) * (H * 1073741824) := by rw [sqH, hv, hvH]
    have hwH : w = H * 1073741824 := by
      obtain ⟨y, hy⟩ : ∃ y, H * 1073741824 = y := ⟨_, rfl⟩
      rw [hy] at hnH hw ⊢
      have : w < y + 1 := sq_lt (by
        have : y * y < (y + 1) * (y + 1) := Nat.mul_self_lt_mul_self (by omega)
        omega)
      omega
    have hmag : mag = H * 2 ^ 28 * 2 ^ 3 := by
      rw [if_pos (by rw [hnH, hwH])] at hm
      have e28 : 2 ^ 28 = 268435456 := by decide
      have e8 : 2 ^ 3 = 8 := by decide
      rw [e28, e8]
      omega
    have hZ' : Z = H * 2 ^ 28 := by rw [hZ, hmag, rhe_exact]
    have e28 : 2 ^ 28 = 268435456 := by decide
    refine ⟨?_, by rw [hZ', e28]; omega, by rw [hZ', e28]; omega, hlog⟩
    rw [hmag, ← hZ']
    exact (scale_join Z 3 p).symm
  · have hr2 : r < 1073741821 := by
      apply Nat.lt_of_not_le
      intro hc
      obtain ⟨G, hG⟩ : ∃ G, H + 1 = G := ⟨_, rfl⟩
      have hlt : n < G * G * 1152921504606846976 := by
        rw [← sqH]
        have g : w + 1 ≤ G * 1073741824 := by omega
        exact Nat.lt_of_lt_of_le h2 (sq_le g)
      have hge : G * G * 1152921504606846976 ≤ n + 6 * (G * 1073741824) := by
        obtain ⟨g, hg⟩ : ∃ g, G * 1073741824 = g + 3 := ⟨G * 1073741824 - 3, by omega⟩
        have q1 : g * g ≤ w * w := Nat.mul_le_mul (by omega) (by omega)
        have q2 : (g + 3) * (g + 3) = g * g + 6 * g + 9 := by rw [Nat.add_mul, Nat.mul_add]; omega
        rw [← sqH, hg, q2]
        omega
      obtain ⟨q, hq⟩ : ∃ q, G * G = q := ⟨_, rfl⟩
      rw [hq] at hlt hge
      omega
    have hX : rung mag p = rung (2 * H + 1) (p + (30 : Nat)) := by
      have e30 : 2 ^ 30 = 1073741824 := by decide
      refine rung_stick2 (2 * H + 1) mag 30 p (by omega) (by omega) ?_ ?_
      · rw [e30]; omega
      · rw [e30]; omega
    have hX2 : rung (Z * 2 ^ 3) p = rung (2 * H + 1) (p + (30 : Nat)) := by
      have e30 : 2 ^ 30 = 1073741824 := by decide
      have e8 : 2 ^ 3 = 8 := by decide
      refine rung_stick2 (2 * H + 1) (Z * 2 ^ 3) 30 p (by omega) (by omega) ?_ ?_
      · rw [e30, e8]; omega
      · rw [e30, e8]; omega
    refine ⟨?_, by omega, by omega, hlog⟩
    rw [hX, ← hX2, scale_join]
    rfl
end Go.Proofs.Yteecekhfpfnepaa.Sg
end

section
namespace Go.Proofs.Yteecekhfpfnepaa.Sg
open Ieee
open Go.RowKit Go.Proofs.Yteecekhfpfnepaa.PAll Go.Proofs.YteecekhfpfnepaaW.PrintWords Go.Proofs.YteecekhfpfnepaaW.PrintLast Go.Proofs.YteecekhfpfnepaaW.PrintMore
set_option linter.unusedVariables false
set_option linter.unusedSimpArgs false
theorem e60 : 2 ^ 60 = 1152921504606846976 := by decide
theorem sqrt_l0 : ∀ (c m : Nat) (e : Int) (k : Nat), m < 2305843009213693952 → 1152921504606846976 ≤ m * 2 ^ c → c ≤ 64 → -300 ≤ e - c → e ≤ 200 → c + 1 ≤ k →
    ∃ (a k' : Nat), k ≤ k' + c + 1 ∧ a ≤ c ∧ m * 2 ^ a < 2305843009213693952 ∧ 1152921504606846976 ≤ m * 2 ^ a ∧ heraldref03_Sqrt.l0 k (m : Int) e = (if Int.tmod (e - a) 2 = 0 then heraldref03_Sqrt.j3 k' ((m * 2 ^ a : Nat) : Int) (e - a) else heraldref03_Sqrt.j3 k' (wrap64 (((m * 2 ^ a : Nat) : Int) * 2)) (wrap64 (e - a - 1)))
  | c, m, e, 0, _, _, _, _, _, hk => by omega
  | 0, m, e, k + 1, h1, h2, hc, he0, he1, hk => by
    rw [Nat.pow_zero, Nat.mul_one] at h2
    refine ⟨0, k, by omega, by omega, by rw [Nat.pow_zero, Nat.mul_one]; omega, by rw [Nat.pow_zero, Nat.mul_one]; omega, ?_⟩
    simp only [heraldref03_Sqrt.l0]
    rw [if_neg (by omega), Nat.pow_zero, Nat.mul_one, show e - ((0 : Nat) : Int) = e by omega]
  | c + 1, m, e, k + 1, h1, h2, hc, he0, he1, hk => by
    by_cases c1 : m < 1152921504606846976
    · obtain ⟨a, k', g1, g2, g3, g4, g5⟩ := sqrt_l0 c (m * 2) (e - 1) k (by omega) (by rw [Nat.mul_assoc, ← Nat.pow_succ']; exact h2) (by omega) (by omega) (by omega) (by omega)
      have em : m * 2 * 2 ^ a = m * 2 ^ (a + 1) := by rw [Nat.mul_assoc, ← Nat.pow_succ']
      rw [em, show e - 1 - (a : Int) = e - ((a + 1 : Nat) : Int) by omega] at g5
      rw [em] at g3 g4
      refine ⟨a + 1, k', by omega, by omega, g3, g4, ?_⟩
      simp only [heraldref03_Sqrt.l0]
      rw [if_pos (by omega), wrap_in (a := (m : Int) * 2) (by omega) (by omega), wrap_in (a := e - 1) (by omega) (by omega), show (m : Int) * 2 = ((m * 2 : Nat) : Int) by omega, g5]
    · refine ⟨0, k, by omega, by omega, by rw [Nat.pow_zero, Nat.mul_one]; omega, by rw [Nat.pow_zero, Nat.mul_one]; omega, ?_⟩
      simp only [heraldref03_Sqrt.l0]
      rw [if_neg (by omega), Nat.pow_zero, Nat.mul_one, show e - ((0 : Nat) : Int) = e by omega]
theorem ref_j3s (n : Nat) (E : Int) (hn0 : 1152921504606846976 ≤ n) (hn : n < 4611686018427387904) (hE : E % 2 = 0) (hE0 : -400 ≤ E) (hE1 : E ≤ 300) (k : Nat) (hk : 100 ≤ k) :
    ∃ q : Nat, heraldref03_Sqrt.j3 k (n : Int) E = some (NR false q (E / 2 - 1)) ∧ 33554432 ≤ q ∧ (q * q = 4 * n ∨ (q % 2 = 1 ∧ (q - 1) * (q - 1) < 4 * n ∧ 4 * n < (q + 1) * (q + 1))) := by
  obtain ⟨k, rfl⟩ : ∃ j, k = j + 1 := ⟨k - 1, by omega⟩
  obtain ⟨w, h1, h2, h3⟩ := refroot_some n hn k (by omega)
  have hw1 : w < 2147483648 := sq_lt (by omega)
  have hw0 : 1073741824 < w + 1 := sq_lt (by omega)
  have hww : w * w ≤ 2147483648 * 2147483648 := Nat.mul_le_mul (by omega) (by omega)
  have hst := root_sticky n w h2 h3 _ rfl
  refine ⟨_, ?_, ?_, hst⟩
  · simp only [heraldref03_Sqrt.j3]
    obtain ⟨z, rfl⟩ : ∃ z, E = 2 * z := ⟨E / 2, by omega⟩
    rw [u64_in (a := (n : Int)) (by omega) (by omega), h1]
    simp only [Option.bind_some]
    have w1 : IntKind.u64.wrap ((w : Int) * (w : Int)) = ((w * w : Nat) : Int) := by rw [← Int.natCast_mul, u64_in (by omega) (by omega)]
    have w2 : IntKind.u64.wrap (2 * (w : Int)) = ((2 * w : Nat) : Int) := by rw [u64_in (by omega) (by omega)]; omega
    have w3 : IntKind.u64.wrap (((2 * w : Nat) : Int) + 1) = ((2 * w + 1 : Nat) : Int) := by rw [u64_in (by omega) (by omega)]; omega
    have w4 : wrap64 (wrap64 (Int.tdiv (2 * z) 2) - 1) = 2 * z / 2 - 1 := by
      rw [Int.mul_tdiv_cancel_left _ (by decide), wrap_in (a := z) (by omega) (by omega), wrap_in (by omega) (by omega)]; omega
    rw [w1, w2, w3, w4]
    by_cases c : w * w = n
    · rw [if_pos (by omega), if_pos c, refnear_some false (2 * w) _ (by omega) k (by omega)]; rfl
    · rw [if_neg (by omega), if_neg c, refnear_some false (2 * w + 1) _ (by omega) k (by omega)]; rfl
  · split <;> omega
theorem tmod_two (x : Int) : Int.tmod x 2 = 0 ↔ x % 2 = 0 := by
  constructor
  · intro h
    have := Int.dvd_of_tmod_eq_zero h
    omega
  · intro h
    exact Int.tmod_eq_zero_of_dvd (by omega)
theorem ref_sqrt_num (m : Nat) (e : Int) (hm : m ≠ 0) (hm1 : m < 16777216) (he0 : -149 ≤ e) (he1 : e ≤ 104) (k : Nat) (hk : 200 ≤ k) :
    ∃ (a q : Nat), heraldref03_Sqrt.l0 k (m : Int) e = some (NR false q ((e - a) / 2 - 1)) ∧ (e - a) % 2 = 0 ∧ a ≤ 62 ∧ 33554432 ≤ q ∧ (q * q = 4 * (m * 2 ^ a) ∨ (q % 2 = 1 ∧ (q - 1) * (q - 1) < 4 * (m * 2 ^ a) ∧ 4 * (m * 2 ^ a) < (q + 1) * (q + 1))) := by
  obtain ⟨a, k', g1, g2, g3, g4, g5⟩ := sqrt_l0 60 m e k (by omega) (by rw [e60]; omega) (by omega) (by omega) (by omega) (by omega)
  by_cases c : (e - a) % 2 = 0
  · rw [if_pos ((tmod_two _).2 c)] at g5
    obtain ⟨q, h1, h2, h3⟩ := ref_j3s (m * 2 ^ a) (e - a) g4 (by omega) c (by omega) (by omega) k' (by omega)
    exact ⟨a, q, by rw [g5, h1], c, by omega, h2, h3⟩
  · rw [if_neg (fun h => c ((tmod_two _).1 h)), wrap_in (a := e - a - 1) (by omega) (by omega), wrap_in (by omega) (by omega)] at g5
    have em : ((m * 2 ^ a : Nat) : Int) * 2 = ((m * 2 ^ (a + 1) : Nat) : Int) := by rw [Nat.pow_succ, ← Nat.mul_assoc]; omega
    have en : m * 2 ^ (a + 1) = m * 2 ^ a * 2 := by rw [Nat.pow_succ, ← Nat.mul_assoc]
    rw [em, show e - (a : Int) - 1 = e - ((a + 1 : Nat) : Int) by omega] at g5
    obtain ⟨q, h1, h2, h3⟩ := ref_j3s (m * 2 ^ (a + 1)) (e - ((a + 1 : Nat) : Int)) (by omega) (by omega) (by omega) (by omega) (by omega) k' (by omega)
    exact ⟨a + 1, q, by rw [g5, h1], by omega, by omega, h2, h3⟩
/-- The model's root of a single's number, by 54 digits and more. -/
theorem model_root (m : Nat) (e : Int) (hm : m ≠ 0) (hm1 : m < 16777216) :
    ∃ (c w mag : Nat) (p : Int), (Datum.number false (m * 2 ^ (52 - m.log2)) (e + m.log2 - 52)).root (Ieee.double.fractionBits + 2) = some (.number false mag p) ∧ mag = 2 * w + (if w * w = m * 2 ^ c then 0 else 1) ∧ w * w ≤ m * 2 ^ c ∧ m * 2 ^ c < (w + 1) * (w + 1) ∧ 2 ^ 108 ≤ m * 2 ^ c ∧ m * 2 ^ c < 2 ^ 110 ∧ 85 ≤ c ∧ c ≤ 110 ∧ (e - c) % 2 = 0 ∧ p = (e - c) / 2 - 1 := by
  have hlm := log_bounds m hm
  have h23 : m.log2 ≤ 23 := by
    have : m.log2 < 24 := (Nat.log2_lt hm).2 (by omega)
    omega
  have hp := pow_pos' (52 - m.log2)
  have hM : m * 2 ^ (52 - m.log2) ≠ 0 := Nat.mul_ne_zero hm (by omega)
  have hlog : (m * 2 ^ (52 - m.log2)).log2 = 52 := by rw [log2_scale m _ hm]; omega
  have hf : 2 * (Ieee.double.fractionBits + 2) - 52 = 56 := by decide
  obtain ⟨b, hb⟩ : ∃ b, ((e + m.log2 - 52 - (56 : Nat)) % 2).toNat = b := ⟨_, rfl⟩
  obtain ⟨c, hc⟩ : ∃ c, 52 - m.log2 + (56 + b) = c := ⟨_, rfl⟩
  have hn : (m * 2 ^ (52 - m.log2)) <<< (56 + b) = m * 2 ^ c := by rw [Nat.shiftLeft_eq, Nat.mul_assoc, ← Nat.pow_add, hc]
  obtain ⟨w, hw, h1, h2⟩ := root_spec (m * 2 ^ c)
  refine ⟨c, w, _, _, ?_, rfl, h1, h2, ?_, ?_, by omega, by omega, by omega, rfl⟩
  · simp only [Datum.root]
    rw [if_neg hM, if_neg (by decide), hlog, hf, hb, hn, hw]
    congr 2
    · congr 1
      by_cases c1 : w * w = m * 2 ^ c
      · simp [c1]
      · simp [c1]
    · omega
  · have := Nat.mul_le_mul_right (2 ^ c) hlm.1
    rw [← Nat.pow_add] at this
    exact Nat.le_trans (Nat.pow_le_pow_right (by omega) (by omega)) this
  · have := Nat.mul_lt_mul_of_pos_right hlm.2 (pow_pos' c)
    rw [← Nat.pow_add] at this
    exact Nat.lt_of_lt_of_le this (Nat.pow_le_pow_right (by omega) (by omega))
theorem d_weight : Ieee.double.signWeight = 9223372036854775808 := by decide
theorem d_binade : Ieee.double.binade = 4503599627370496 := by decide
theorem d_inf : Ieee.double.infRung = 9218868437227405312 := by decide
theorem d_least : Ieee.double.leastPlace = -1074 := by decide
theorem d_frac : Ieee.double.fractionBits = 52 := by decide
theorem dread (s : Bool) (r : Nat) (hr : r < 9223372036854775808) : Ieee.double.read (Ieee.double.word s r) = if r < 4503599627370496 then .number s r (-1074) else if r < 9218868437227405312 then .number s (4503599627370496 + r % 4503599627370496) (-1074 + (r / 4503599627370496 - 1 : Nat)) else if r = 9218868437227405312 then .infinity s else .nan s (r - 9218868437227405312) := by
  unfold Ieee.Format.read Ieee.Format.word
  simp only [d_weight, d_binade, d_inf, d_least]
  cases s with
  | false =>
    have e1 : (r / 9223372036854775808 % 2 == 1) = false := by simp; omega
    simp only [Bool.false_eq_true, if_false, e1, Nat.mod_eq_of_lt hr]
  | true =>
    have e1 : ((9223372036854775808 + r) / 9223372036854775808 % 2 == 1) = true := by rw [beq_iff_eq]; omega
    have e2 : (9223372036854775808 + r) % 9223372036854775808 = r := by omega
    simp only [if_true, e1, e2]
theorem dwr (s : Bool) (mag Z : Nat) (p last : Int) (h : mag ≠ 0) (hl : last = p + mag.log2 - 52) (hl0 : -1074 ≤ last) (hl1 : last ≤ 900) (hZ : rhe (mag <<< (p - last).toNat) (last - p).toNat = Z) (h0 : 4503599627370496 ≤ Z) (h1 : Z < 9007199254740992) :
    Ieee.double.read (Ieee.double.write (.number s mag p)) = .number s Z last := by
  show Ieee.double.read (Ieee.double.nearest s mag p) = _
  unfold Ieee.Format.nearest
  rw [if_neg h]
  simp only [d_frac, d_least, d_binade, d_inf, cut_even]
  rw [show max (p + (mag.log2 : Int) - ((52 : Nat) : Int)) (-1074) = last by omega, hZ, Nat.min_eq_left (by omega), dread _ _ (by omega), if_neg (by omega), if_pos (by omega)]
  congr 1
  · omega
  · omega
end Go.Proofs.Yteecekhfpfnepaa.Sg
end

section
namespace Go.Proofs.Yteecekhfpfnepaa.Sg
open Ieee
open Go.RowKit Go.Proofs.Yteecekhfpfnepaa.PAll Go.Proofs.YteecekhfpfnepaaW.PrintWords Go.Proofs.YteecekhfpfnepaaW.PrintLast Go.Proofs.YteecekhfpfnepaaW.PrintMore
set_option linter.unusedVariables false
set_option linter.unusedSimpArgs false
theorem sqrtR_eq (x y z r : Nat) (hn : (Ieee.single.read x).isNaN = false) (h1 : floatToFloatBits .f32 x .f64 = some y) (h2 : FloatKind.f64.format.sqrt y = some z) (h3 : floatToFloatBits .f64 z .f32 = some r) : sqrtR x = some (backV r) := by
  unfold sqrtR
  rw [hn, if_neg (by decide), h1]
  simp only
  rw [h2]
  simp only
  rw [h3]
theorem sqrtR_none (x y : Nat) (hn : (Ieee.single.read x).isNaN = false) (h1 : floatToFloatBits .f32 x .f64 = some y) (h2 : FloatKind.f64.format.sqrt y = none) : sqrtR x = some 2143289344 := by
  unfold sqrtR
  rw [hn, if_neg (by decide), h1]
  simp only
  rw [h2]
theorem sqrtR_nan (x : Nat) (hn : (Ieee.single.read x).isNaN = true) : sqrtR x = some 2143289344 := by
  unfold sqrtR
  rw [hn, if_pos rfl]
theorem fin_word (s : Bool) (r : Nat) (hr : r < 2139095040) : (Ieee.single.read (Ieee.single.word s r)).isInfinity = false := by
  have hw := word_cast s r
  have hs : sgn s = 0 ∨ sgn s = 2147483648 := by cases s <;> simp [sgn]
  obtain ⟨x, hx⟩ : ∃ x, Ieee.single.word s r = x := ⟨_, rfl⟩
  rw [hx] at hw ⊢
  rw [read_eq _ (by omega), if_neg (by omega)]
  split <;> simp [Datum.isInfinity]
theorem down_word (z : Nat) (s : Bool) (Z : Nat) (last : Int) (h : Ieee.double.read z = .number s Z last) (r : Nat) (hq : rung Z last = r) (hr : r < 2139095040) : floatToFloatBits .f64 z .f32 = some (Ieee.single.word s r) := by
  have hd : FloatKind.f64.decode z = .number s Z last := h
  have hw : FloatKind.f32.encode (.number s Z last) = Ieee.single.word s r := by
    rw [← hq]
    exact nearest_eq s Z last
  obtain ⟨y, hy⟩ : ∃ y, Ieee.single.word s r = y := ⟨_, rfl⟩
  have hi : (FloatKind.f32.decode y).isInfinity = false := by
    rw [← hy]
    exact fin_word s r hr
  rw [hy] at hw ⊢
  unfold floatToFloatBits
  rw [if_neg (by decide), hd]
  simp only
  rw [hw, hi, if_neg (by decide)]
theorem up_num (x : Nat) (s : Bool) (m : Nat) (e : Int) (y : Nat) (h : Ieee.single.read x = .number s m e) (hy : Ieee.double.write (.number s m e) = y) (s' : Bool) (m' : Nat) (e' : Int) (hi : Ieee.double.read y = .number s' m' e') : floatToFloatBits .f32 x .f64 = some y := by
  have hd : FloatKind.f32.decode x = .number s m e := h
  have hy' : FloatKind.f64.encode (.number s m e) = y := hy
  have hi' : FloatKind.f64.decode y = .number s' m' e' := hi
  unfold floatToFloatBits
  rw [if_neg (by decide), hd]
  simp only
  rw [hy', hi', if_neg (by simp [Datum.isInfinity])]
theorem dzero (s : Bool) (e : Int) : Ieee.double.read (Ieee.double.write (.number s 0 e)) = .number s 0 (-1074) := by
  show Ieee.double.read (Ieee.double.nearest s 0 e) = _
  unfold Ieee.Format.nearest
  rw [if_pos rfl, dread _ _ (by omega), if_pos (by omega)]
theorem dinf (s : Bool) : Ieee.double.read (Ieee.double.write (.infinity s)) = .infinity s := by
  show Ieee.double.read (Ieee.double.word s Ieee.double.infRung) = _
  rw [d_inf, dread _ _ (by omega), if_neg (by omega), if_neg (by omega), if_pos rfl]
theorem e52 : 2 ^ 52 = 4503599627370496 := by decide
theorem e53 : 2 ^ 53 = 9007199254740992 := by decide
theorem up_shape (s : Bool) (m : Nat) (e : Int) (hm : m ≠ 0) (hm1 : m < 16777216) (he0 : -149 ≤ e) (he1 : e ≤ 104) : Ieee.double.read (Ieee.double.write (.number s m e)) = .number s (m * 2 ^ (52 - m.log2)) (e + m.log2 - 52) := by
  have hlm := log_bounds m hm
  have h23 : m.log2 ≤ 23 := by
    have : m.log2 < 24 := (Nat.log2_lt hm).2 (by omega)
    omega
  obtain ⟨L, hL⟩ : ∃ L, m.log2 = L := ⟨_, rfl⟩
  have h0 : 4503599627370496 ≤ m * 2 ^ (52 - m.log2) := by
    have := Nat.mul_le_mul_right (2 ^ (52 - m.log2)) hlm.1
    rw [← Nat.pow_add, show m.log2 + (52 - m.log2) = 52 by omega, e52] at this
    exact this
  have h1 : m * 2 ^ (52 - m.log2) < 9007199254740992 := by
    have := Nat.mul_lt_mul_of_pos_right hlm.2 (pow_pos' (52 - m.log2))
    rw [← Nat.pow_add, show m.log2 + 1 + (52 - m.log2) = 53 by omega, e53] at this
    exact this
  refine dwr s m (m * 2 ^ (52 - m.log2)) e (e + m.log2 - 52) hm rfl (by omega) (by omega) ?_ h0 h1
  rw [show (e - (e + (m.log2 : Int) - 52)).toNat = 52 - m.log2 by omega, show (e + (m.log2 : Int) - 52 - e).toNat = 0 by omega, rhe_zero, Nat.shiftLeft_eq]
theorem dsqrt (y : Nat) (d : Datum) (h : Ieee.double.read y = d) : FloatKind.f64.format.sqrt y = (d.root (Ieee.double.fractionBits + 2)).map Ieee.double.write := by
  rw [← h]; rfl
end Go.Proofs.Yteecekhfpfnepaa.Sg
end

section
namespace Go.Proofs.Yteecekhfpfnepaa.Sg
open Ieee
open Go.RowKit Go.Proofs.Yteecekhfpfnepaa.PAll Go.Proofs.YteecekhfpfnepaaW.PrintWords Go.Proofs.YteecekhfpfnepaaW.PrintLast Go.Proofs.YteecekhfpfnepaaW.PrintMore
set_option linter.unusedVariables false
set_option linter.unusedSimpArgs false
theorem rung_far (Z : Nat) (L : Int) (h0 : 4503599627370496 ≤ Z) (h1 : Z < 9007199254740992) (hL : L ≤ 60) : rung Z L < 2139095040 := by
  have hZ0 : Z ≠ 0 := by omega
  have hlz : Z.log2 = 52 := (Nat.log2_eq_iff hZ0).2 ⟨by rw [e52]; exact h0, by rw [show 52 + 1 = 53 by omega, e53]; exact h1⟩
  have hk := (kept_ok Z L hZ0).1
  rw [rung_eq Z _ hZ0]
  have hl : lastP Z L = max (L + Z.log2 - 23) (-149) := rfl
  rw [hlz] at hl
  obtain ⟨l, hll⟩ : ∃ l, lastP Z L = l := ⟨_, rfl⟩
  rw [hll] at hl hk ⊢
  obtain ⟨q, hq⟩ : ∃ q, keptQ Z L l = q := ⟨_, rfl⟩
  rw [hq] at hk ⊢
  omega
/-- To 53 digits and back: as if to 24 at once. -/
theorem back_again (z mag Z : Nat) (p : Int) (hz : Ieee.double.write (.number false mag p) = z) (hm : mag ≠ 0) (hl : mag.log2 = 55) (hZ : rhe mag 3 = Z) (h0 : 4503599627370496 ≤ Z) (h1 : Z < 9007199254740992) (hp0 : -1000 ≤ p) (hp1 : p ≤ 50) :
    ∃ r, floatToFloatBits .f64 z .f32 = some r ∧ backV r = NR false Z (p + 3) := by
  have hback : Ieee.double.read z = .number false Z (p + 3) := by
    rw [← hz]
    refine dwr false mag Z p (p + 3) hm (by rw [hl]; omega) (by omega) (by omega) ?_ h0 h1
    rw [show (p - (p + 3)).toNat = 0 by omega, show (p + 3 - p).toNat = 3 by omega, Nat.shiftLeft_zero, hZ]
  have hf := rung_far Z (p + 3) h0 h1 (by omega)
  refine ⟨_, down_word z false Z (p + 3) hback _ rfl hf, ?_⟩
  rw [back_word false _ (Nat.le_of_lt hf)]
  rfl
theorem sqrt_model (x m : Nat) (e : Int) (hx : Ieee.single.read x = .number false m e) (hm : m ≠ 0) (hm1 : m < 16777216) (he0 : -149 ≤ e) (he1 : e ≤ 104) :
    ∃ (c w mag : Nat) (p : Int), sqrtR x = some (NR false mag p) ∧ mag = 2 * w + (if w * w = m * 2 ^ c then 0 else 1) ∧ w * w ≤ m * 2 ^ c ∧ m * 2 ^ c < (w + 1) * (w + 1) ∧ 85 ≤ c ∧ (e - c) % 2 = 0 ∧ p = (e - c) / 2 - 1 := by
  obtain ⟨c, w, mag, p, r1, r2, r3, r4, r5, r6, r7, r8, r9, r10⟩ := model_root m e hm hm1
  refine ⟨c, w, mag, p, ?_, r2, r3, r4, r7, r9, r10⟩
  have hs := up_shape false m e hm hm1 he0 he1
  obtain ⟨y, hy⟩ : ∃ y, Ieee.double.write (.number false m e) = y := ⟨_, rfl⟩
  rw [hy] at hs
  have hup := up_num x false m e y hx hy _ _ _ hs
  have hroot := dsqrt y _ hs
  rw [r1, Option.map_some] at hroot
  have hv : m * 2 ^ c = m * 2 ^ (c - 60) * 1152921504606846976 := by
    rw [← e60, Nat.mul_assoc, ← Nat.pow_add, show c - 60 + 60 = c by omega]
  obtain ⟨Z, hZ⟩ : ∃ Z, rhe mag 3 = Z := ⟨_, rfl⟩
  obtain ⟨d1, d2, d3, d4⟩ := double_round (m * 2 ^ (c - 60)) (m * 2 ^ c) w mag Z p hv r5 r6 r3 r4 r2 hZ.symm
  have hmag0 : mag ≠ 0 := by
    intro h
    rw [h] at d4
    exact absurd d4 (by decide)
  obtain ⟨z, hz⟩ : ∃ z, Ieee.double.write (.number false mag p) = z := ⟨_, rfl⟩
  rw [hz] at hroot
  obtain ⟨r, b1, b2⟩ := back_again z mag Z p hz hmag0 d4 hZ d2 d3 (by omega) (by omega)
  rw [sqrtR_eq x y z r (by rw [hx]; rfl) hup hroot b1, b2]
  unfold NR
  rw [d1]
theorem sqrt_num (x m : Nat) (e : Int) (hx : Ieee.single.read x = .number false m e) (hm : m ≠ 0) (hm1 : m < 16777216) (he0 : -149 ≤ e) (he1 : e ≤ 104) (k : Nat) (hk : 200 ≤ k) : heraldref03_Sqrt.l0 k (m : Int) e = sqrtR x := by
  obtain ⟨a, q, g1, g2, g3, g4, g5⟩ := ref_sqrt_num m e hm hm1 he0 he1 k hk
  obtain ⟨c, w, mag, p, r1, r2, r3, r4, r7, r9, r10⟩ := sqrt_model x m e hx hm hm1 he0 he1
  rw [g1, r1]
  obtain ⟨d, hd⟩ : ∃ d : Nat, c = a + 2 * d := ⟨(c - a) / 2, by omega⟩
  have hst := root_sticky (m * 2 ^ c) w r3 r4 mag r2
  have hrel : 4 * (m * 2 ^ c) = 4 * (m * 2 ^ a) * (2 ^ d * 2 ^ d) := by
    rw [hd, Nat.pow_add, show 2 * d = d + d by omega, Nat.pow_add]
    simp only [Nat.mul_assoc]
  have hx : q * q = 4 * (m * 2 ^ a) ∨ (q % 2 = 1 ∧ 33554432 ≤ q ∧ (q - 1) * (q - 1) < 4 * (m * 2 ^ a) ∧ 4 * (m * 2 ^ a) < (q + 1) * (q + 1)) := by
    rcases g5 with h | ⟨h1, h2, h3⟩
    · exact .inl h
    · exact .inr ⟨h1, g4, h2, h3⟩
  have hj := join_root q mag (4 * (m * 2 ^ a)) (4 * (m * 2 ^ c)) d p hrel hx hst
  unfold NR
  rw [hj, show p + (d : Int) = (e - a) / 2 - 1 by omega]
theorem refSqrt_some (a : Int) (a0 : 0 ≤ a) (a1 : a < 4294967296) (k : Nat) (hk : 300 ≤ k) : heraldref03_Sqrt.f k a = single_Sqrt.f a := by
  obtain ⟨k, rfl⟩ : ∃ j, k = j + 2 := ⟨k - 2, by omega⟩
  unfold heraldref03_Sqrt.f single_Sqrt.f
  rw [raw_some a a0 a1]
  simp only [Option.bind_some]
  rcases raw_cases a a0 a1 with ⟨ra, s, fa, da⟩ | ⟨s, ra, da, wa⟩ | ⟨s, m, e, ra, da, fa⟩ <;> rw [ra]
  · rw [sqrtR_nan a.toNat (by rw [da]; rfl)]
    simp [heraldref03_Sqrt.j0, heraldref03_Sqrt.j1]
  · have hup : floatToFloatBits .f32 a.toNat .f64 = some (Ieee.double.write (.infinity s)) := by
      have hd : FloatKind.f32.decode a.toNat = .infinity s := da
      unfold floatToFloatBits
      rw [if_neg (by decide), hd]
      rfl
    have hroot := dsqrt _ _ (dinf s)
    cases s with
    | true =>
      rw [sqrtR_none a.toNat _ (by rw [da]; rfl) hup (by rw [hroot]; rfl)]
      simp [heraldref03_Sqrt.j0, heraldref03_Sqrt.j1]
    | false =>
      have hdn : floatToFloatBits .f64 (Ieee.double.write (.infinity false)) .f32 = some (Ieee.single.word false 2139095040) := by
        have hd : FloatKind.f64.decode (Ieee.double.write (.infinity false)) = .infinity false := dinf false
        unfold floatToFloatBits
        rw [if_neg (by decide), hd]
        rfl
      rw [sqrtR_eq a.toNat _ _ _ (by rw [da]; rfl) hup (by rw [hroot]; rfl) hdn, back_word false _ (by omega)]
      have hw : a = 2139095040 := by rw [wa]; rfl
      simp [heraldref03_Sqrt.j0, heraldref03_Sqrt.j1, hw, sgn]
  · obtain ⟨m1, e0, e1⟩ := fin_small fa
    have hnn : (Ieee.single.read a.toNat).isNaN = false := by rw [da]; rfl
    by_cases c : m = 0
    · subst c
      have hup := up_num a.toNat s 0 e _ da rfl _ _ _ (dzero s e)
      have hroot := dsqrt _ _ (dzero s e)
      have hr2 : (Datum.number s 0 (-1074)).root (Ieee.double.fractionBits + 2) = some (.number s 0 (-1074)) := by simp [Datum.root]
      rw [hr2, Option.map_some] at hroot
      have hdn := down_word _ s 0 (-1074) (dzero s (-1074)) 0 (by simp [rung]) (by omega)
      rw [sqrtR_eq a.toNat _ _ _ hnn hup hroot hdn, back_word s 0 (by omega)]
      have hw : a = sgn s := by
        have := fa.word
        simpa [rung] using this
      simp [heraldref03_Sqrt.j0, heraldref03_Sqrt.j1, ← hw]
    · cases s with
      | true =>
        have hs := up_shape true m e c m1 e0 e1
        have hup := up_num a.toNat true m e _ da rfl _ _ _ hs
        have hroot := dsqrt _ _ hs
        have hp := pow_pos' (52 - m.log2)
        have hr2 : (Datum.number true (m * 2 ^ (52 - m.log2)) (e + m.log2 - 52)).root (Ieee.double.fractionBits + 2) = none := by
          simp only [Datum.root]
          rw [if_neg (Nat.mul_ne_zero c (by omega))]
          rfl
        rw [hr2] at hroot
        rw [sqrtR_none a.toNat _ hnn hup hroot]
        simp [heraldref03_Sqrt.j0, heraldref03_Sqrt.j1, c]
      | false =>
        have hj := sqrt_num a.toNat m e da c m1 e0 e1 k (by omega)
        simpa [heraldref03_Sqrt.j0, heraldref03_Sqrt.j1, c] using hj
end Go.Proofs.Yteecekhfpfnepaa.Sg
end

section
namespace Go.Proofs.Yteecekhfpfnepaa.Pure
open Go.RowKit Go.Proofs.Yteecekhfpfnepaa.PAll Go.Proofs.Yteecekhfpfnepaa.Sg Go.Proofs.YteecekhfpfnepaaW.PrintWords Go.Proofs.YteecekhfpfnepaaW.PrintLast
set_option linter.unusedVariables false
theorem isSome_root (a : Int) (a0 : 0 ≤ a) (a1 : a < 4294967296) : ∃ r, single_Sqrt.f a = some r := by
  unfold single_Sqrt.f
  rcases raw_cases a a0 a1 with ⟨ra, s, fa, da⟩ | ⟨s, ra, da, wa⟩ | ⟨s, m, e, ra, da, fa⟩
  · exact ⟨_, sqrtR_nan a.toNat (by rw [da]; rfl)⟩
  · have h := refSqrt_some a a0 a1 300 (by omega)
    unfold heraldref03_Sqrt.f single_Sqrt.f at h
    rw [raw_some a a0 a1, ra] at h
    cases s <;> simp [heraldref03_Sqrt.j0, heraldref03_Sqrt.j1] at h <;> exact ⟨_, h.symm⟩
  · obtain ⟨m1, e0, e1⟩ := fin_small fa
    by_cases c : m = 0
    · have h := refSqrt_some a a0 a1 300 (by omega)
      unfold heraldref03_Sqrt.f single_Sqrt.f at h
      rw [raw_some a a0 a1, ra] at h
      simp [heraldref03_Sqrt.j0, heraldref03_Sqrt.j1, c] at h
      exact ⟨_, h.symm⟩
    · cases s with
      | true =>
        have h := refSqrt_some a a0 a1 300 (by omega)
        unfold heraldref03_Sqrt.f single_Sqrt.f at h
        rw [raw_some a a0 a1, ra] at h
        simp [heraldref03_Sqrt.j0, heraldref03_Sqrt.j1, c] at h
        exact ⟨_, h.symm⟩
      | false =>
        obtain ⟨_, _, _, _, h, _⟩ := sqrt_model a.toNat m e da c m1 e0 e1
        exact ⟨_, h⟩
theorem SingleDivides : heraldlaw03_SingleDivides.Pure := by
  intro a0 a1 w0 w1
  obtain ⟨h0, h1⟩ := wf_u32 w0
  obtain ⟨g0, g1⟩ := wf_u32 w1
  refine ⟨400, ?_⟩
  unfold heraldlaw03_SingleDivides.f
  obtain ⟨r, hr⟩ := isSome_root a0 h0 (by omega)
  obtain ⟨d, hd⟩ : ∃ d, single_Sub.f a0 a1 = some d := ⟨_, rfl⟩
  rw [awake_some 400 (by omega), refSub_some a0 a1 h0 (by omega) g0 (by omega) 400 (by omega), refDiv_some a0 a1 h0 (by omega) g0 (by omega) 400 (by omega), refSqrt_some a0 h0 (by omega) 400 (by omega), hr, hd]
  unfold single_Div.f
  simp
end Go.Proofs.Yteecekhfpfnepaa.Pure
end
