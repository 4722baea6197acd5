/- Texts of this session and printed texts, merged, what is not needed left out: PAllx0, HTz, TbLaid, PAllx1, HLen, PAllx2, HFloat, HAdd, PAllx3, PAllx12, PAllx13. -/
import Derived.Test.YteecekhfpfnepaaDoorTtD0
import Derived.Test.YteecekhfpfnepaaDoorProg
import Derived.Below
import Derived.Deep.Draws
import Derived.Deep.AppendLies
import Derived.Maps.AppendAt
import Derived.OwnWalk
import Derived.Laws.BytesArg
import Derived.Laws.MakeOwn
import Derived.Laws.OwnMore
import Derived.Deep.OwnRows
import Derived.Tactics
import Derived.Lib.ConvBytes
import Derived.Laws.Slices
import Derived.WalkKit
import Derived.KernelRfl
import Derived.RowKit3
import Derived.Deep.LoopGhost
import Derived.Deep.QuietTactic
import Derived.BigQuiet
import Derived.WideLaws
import Derived.Deep.DeepCutAuto
import Derived.Deep.CutBlock
import Derived.Deep.RegionHeld3
import Derived.Laws.Rows
import Derived.Lib.AppendStr
import Derived.ArgAppend
import Derived.Laws.IdiomCopy
import Derived.OrdersHeld
import Derived.Laws.BitsLemmas
import Derived.RowKit
import Derived.Test.YteecekhfpfnepaaDoorRows
import Derived.ProofKit
import Derived.LaidMore
import Derived.Lay
import Derived.OpenShut
import Derived.Stop.Joined
import Derived.Laws.Externs
import Derived.Laws.ComplexArith
import Derived.WalkLawsBesides
section
namespace Go.Proofs.YteecekhfpfnepaaDoor.PAll
open Go.RowKit Go.Proofs.YteecekhfpfnepaaDoorW.PrintWords Go.Proofs.YteecekhfpfnepaaDoorW.PrintLast Go.Proofs.YteecekhfpfnepaaDoorW.PrintMore
attribute [local go_sem] max2_int min2_int max_two min_two max_three min_three max_four min_four   -- for this text's walks alone
set_option linter.unusedVariables false
set_option linter.unusedSimpArgs false
def errW : Option Int → Value
 | none => .nilIface
 | some c => .iface 0 (.int .i64 c)
theorem errW_none : errW none = .nilIface := rfl
theorem errW_some (c : Int) : errW (some c) = .iface 0 (.int .i64 c) := rfl
theorem info3 : (Tryd.prog.info? 3).map (fun i => (i.zero, i.size, i.bytes)) = some (some (.int .i64 0), 1, 8) := by kernel_rfl
theorem info22 : (Tryd.prog.info? 22).map (fun i => (i.zero, i.size, i.bytes)) = some (some (.int .u32 0), 1, 4) := by kernel_rfl
structure S24 where
 f0 : Int
 f1 : Bool
 f2 : Int
 f3 : Int
end Go.Proofs.YteecekhfpfnepaaDoor.PAll
end

section
namespace Go.Proofs.YteecekhfpfnepaaDoor.PAll
open Go.RowKit Go.Proofs.YteecekhfpfnepaaDoorW.PrintWords Go.Proofs.YteecekhfpfnepaaDoorW.PrintLast Go.Proofs.YteecekhfpfnepaaDoorW.PrintMore
set_option linter.unusedVariables false
set_option linter.unusedSimpArgs false
def tabL : List Int := [0, 1, 56, 2, 57, 49, 28, 3, 61, 58, 42, 50, 38, 29, 17, 4, 62, 47, 59, 36, 45, 43, 51, 22, 53, 39, 33, 30, 24, 18, 12, 5, 63, 55, 48, 27, 60, 41, 37, 16, 46, 35, 44, 21, 52, 32, 23, 11, 54, 26, 40, 15, 34, 20, 31, 10, 25, 14, 19, 9, 13, 8, 7, 6]
/-- The package's table lies in its variable. -/
def Tab (w : World) : Prop := ∀ i : Nat, i < 64 → w.cell? ⟨1, i, none⟩ = some (.int .u8 (tabL.getD i 0))
theorem tab_below {w w' : World} (h : Tab w) (hb : Below w.heap.size w w') : Tab w' := fun i hi => (hb.cell (World.block_lt_of_cell? w _ (h i hi))).trans (h i hi)
/-- How many binary noughts a number ends with. -/
def tzf : Nat → Nat → Nat
 | 0, _ => 0
 | f + 1, x => if x % 2 = 1 then 0 else tzf f (x / 2) + 1
def tz (x : Nat) : Nat := tzf 64 x
theorem tzf_spec : ∀ (f x : Nat), x ≠ 0 → x < 2 ^ f → ∃ k, x = 2 ^ tzf f x * (2 * k + 1) := by
 intro f
 induction f with
 | zero => intro x h0 h1; rw [Nat.pow_zero] at h1; omega
 | succ f ih =>
  intro x h0 h1
  unfold tzf
  by_cases c : x % 2 = 1
  ·rw [if_pos c]
   exact ⟨x / 2, by rw [Nat.pow_zero]; omega⟩
  ·rw [if_neg c]
   obtain ⟨k, hk⟩ := ih (x / 2) (by omega) (by rw [Nat.pow_succ] at h1; omega)
   refine ⟨k, ?_⟩
   rw [Nat.pow_succ, Nat.mul_comm (2 ^ _) 2, Nat.mul_assoc, ← hk]
   omega
theorem tz_spec (x : Nat) (h0 : x ≠ 0) (h1 : x < 18446744073709551616) : ∃ k, x = 2 ^ tz x * (2 * k + 1) := tzf_spec 64 x h0 h1
theorem tz_lt (x : Nat) (h0 : x ≠ 0) (h1 : x < 18446744073709551616) : tz x < 64 := by
 obtain ⟨k, hk⟩ := tz_spec x h0 h1
 have h2 : 2 ^ tz x ≤ x := by
  have : 2 ^ tz x * 1 ≤ 2 ^ tz x * (2 * k + 1) := Nat.mul_le_mul_left _ (by omega)
  omega
 have h3 : 2 ^ tz x < 2 ^ 64 := by
  have e : 2 ^ 64 = 18446744073709551616 := by decide
  omega
 exact (Nat.pow_lt_pow_iff_right (by omega)).1 h3
theorem and_odd (n k : Nat) (hk : 2 * k + 1 < 2 ^ n) : (2 * k + 1) &&& (2 ^ n - (2 * k + 1)) = 1 := by
 apply Nat.eq_of_testBit_eq
 intro i
 rw [Nat.testBit_and, Nat.testBit_two_pow_sub_succ (by omega)]
 have hn : 0 < n := by
  rcases Nat.eq_zero_or_pos n with h | h
  ·subst h; rw [Nat.pow_zero] at hk; omega
  ·exact h
 cases i with
 | zero =>
  have e1 : (2 * k + 1).testBit 0 = true := by rw [Nat.testBit_zero]; simp
  have e2 : (2 * k).testBit 0 = false := by rw [Nat.testBit_zero]; simp
  rw [e1, e2, decide_eq_true hn]; rfl
 | succ i =>
  have e1 : (2 * k + 1).testBit (i + 1) = k.testBit i := by rw [Nat.testBit_succ]; congr 1; omega
  have e2 : (2 * k).testBit (i + 1) = k.testBit i := by rw [Nat.testBit_succ]; congr 1; omega
  have e3 : (1 : Nat).testBit (i + 1) = false := by rw [Nat.testBit_succ]; simp
  rw [e1, e2, e3]
  cases k.testBit i <;> simp
theorem low_bit (x : Nat) (h0 : x ≠ 0) (h1 : x < 18446744073709551616) : x &&& (18446744073709551616 - x) = 2 ^ tz x := by
 obtain ⟨k, hk⟩ := tz_spec x h0 h1
 have ht := tz_lt x h0 h1
 obtain ⟨t, ht'⟩ : ∃ t, tz x = t := ⟨_, rfl⟩
 rw [ht'] at hk ht ⊢
 have e : 18446744073709551616 = 2 ^ t * 2 ^ (64 - t) := by rw [← Nat.pow_add, show t + (64 - t) = 64 by omega]
 have hlt : 2 * k + 1 < 2 ^ (64 - t) := by
  rw [hk, e] at h1
  exact Nat.lt_of_mul_lt_mul_left h1
 rw [hk, e, ← Nat.mul_sub, Nat.mul_comm (2 ^ t) (2 * k + 1), Nat.mul_comm (2 ^ t) (_ - _), ← Nat.shiftLeft_eq, ← Nat.shiftLeft_eq, ← Nat.shiftLeft_and_distrib, and_odd _ k hlt, Nat.shiftLeft_eq, Nat.one_mul]
theorem tab_tz : ∀ t : Nat, t < 64 → tabL.getD (2 ^ t * 285870213051353865 % 18446744073709551616 / 288230376151711744) 0 = (t : Int) := by decide +kernel
def bits_TrailingZeros.f (a0 : Int) : Option Int := if 0 ≤ a0 ∧ a0 < 18446744073709551616 then (if a0 = 0 then some 64 else some (tz a0.toNat)) else none
theorem and_u64 (a c : Nat) (ha : a < 18446744073709551616) (hc : c < 18446744073709551616) : bits .and .u64 (a : Int) (c : Int) = ((a &&& c : Nat) : Int) := by
 show IntKind.u64.wrap ((BitVec.ofInt 64 (a : Int) &&& BitVec.ofInt 64 (c : Int)).toNat : Int) = _
 rw [BitVec.toNat_and, BitVec.ofInt_natCast, BitVec.ofInt_natCast, BitVec.toNat_ofNat, BitVec.toNat_ofNat, Nat.mod_eq_of_lt (by omega), Nat.mod_eq_of_lt (by omega)]
 have h : a &&& c ≤ a := Nat.and_le_left
 show ((a &&& c : Nat) : Int) % 18446744073709551616 = _
 omega
set_option maxRecDepth 20000 in
set_option maxHeartbeats 800000 in
theorem tz64_calls (a0 : Int) (h0 : 0 < a0) (h1 : a0 < 18446744073709551616) (w : World) (hT : Tab w) :
  Calls Tryd.prog 59 #[.int .u64 a0] w fun e w' => e = .returned (.int .i64 (tz a0.toNat : Int)) ∧ w' = w := by
 obtain ⟨x, rfl⟩ := Int.eq_ofNat_of_zero_le (show 0 ≤ a0 by omega)
 rw [Int.toNat_natCast]
 have hx0 : x ≠ 0 := by omega
 have ht := tz_lt x hx0 (by omega)
 have hneg : IntKind.u64.wrap (-(x : Int)) = ((18446744073709551616 - x : Nat) : Int) := by
  show (-(x : Int)) % 18446744073709551616 = _
  omega
 have hand := and_u64 x (18446744073709551616 - x) (by omega) (by omega)
 rw [low_bit x hx0 (by omega), ← hneg] at hand
 have htab := tab_tz (tz x) ht
 obtain ⟨q, hq⟩ : ∃ q : Nat, 2 ^ tz x * 285870213051353865 % 18446744073709551616 / 288230376151711744 = q := ⟨_, rfl⟩
 have hq64 : q < 64 := by omega
 have hcell := hT q hq64
 rw [hq] at htab
 rw [htab] at hcell
 obtain ⟨p, hp⟩ : ∃ p : Nat, 2 ^ tz x = p := ⟨_, rfl⟩
 rw [hp] at hand hq
 have hidx : IntKind.u64.wrap ((p : Int) * 285870213051353865) / 288230376151711744 = (q : Int) := by
  show ((p : Int) * 285870213051353865) % 18446744073709551616 / 288230376151711744 = _
  rw [← hq, Int.natCast_ediv, Int.natCast_emod, Int.natCast_mul]; rfl
 obtain ⟨t, htt⟩ : ∃ t, tz x = t := ⟨_, rfl⟩
 rw [htt] at hcell ht ⊢
 have ne0 : ((x : Int) == 0) = false := beq_eq_false_iff_ne.mpr (by omega)
 have q1 : (0 : Int) ≤ (q : Int) := by omega
 have q2 : (q : Int) < 64 := by omega
 have wt : wrap64 (t : Int) = (t : Int) := by unfold wrap64; omega
 clear hT htab hp hq htt hneg
 obtain ⟨nx, hnx⟩ : ∃ nx, IntKind.u64.wrap (-(x : Int)) = nx := ⟨_, rfl⟩
 rw [hnx] at hand
 obtain ⟨X, hX⟩ : ∃ X : Int, (x : Int) = X := ⟨_, rfl⟩
 rw [hX] at hand hnx ne0 ⊢
 obtain ⟨Q, hQ⟩ : ∃ Q : Int, (p : Int) = Q := ⟨_, rfl⟩
 rw [hQ] at hand hidx
 obtain ⟨M, hM⟩ : ∃ M : Int, IntKind.u64.wrap (Q * 285870213051353865) = M := ⟨_, rfl⟩
 rw [hM] at hidx
 clear hX hQ
 go_enter Tryd.func59, Tryd.ntmps59
 go_wp2
 go_ret
 exact ⟨rfl, rfl⟩
set_option maxHeartbeats 400000 in
theorem tz64_zero (w : World) : Calls Tryd.prog 59 #[.int .u64 0] w fun e w' => e = .returned (.int .i64 64) ∧ w' = w := by
 go_enter Tryd.func59, Tryd.ntmps59
 go_wp2
 go_ret
 exact ⟨rfl, rfl⟩
set_option maxHeartbeats 400000 in
theorem tz_stays (a0 : Int) (r : Int) (w : World) (h : bits_TrailingZeros.f a0 = some r) (hTab : Tab w) :
  Calls Tryd.prog 36 #[.int .u64 a0] w fun e w' => e = .returned (.int .i64 r) ∧ w' = w := by
 unfold bits_TrailingZeros.f at h
 split at h
 case isFalse => simp at h
 case isTrue hr =>
 have H : Calls Tryd.prog 59 #[.int .u64 a0] w fun e w' => e = .returned (.int .i64 r) ∧ w' = w := by
  by_cases c : a0 = 0
  ·subst c
   rw [if_pos rfl] at h
   obtain rfl := Option.some.inj h
   exact tz64_zero w
  ·rw [if_neg c] at h
   obtain rfl := Option.some.inj h
   exact tz64_calls a0 (by omega) hr.2 w hTab
 have HC := Aside0.mk H
 clear h H
 go_enter Tryd.func36, Tryd.ntmps36
 go_wp2_with (go_at_call 59; (with_reducible refine (HC.out).mono ?_); rintro e w' ⟨rfl, rfl⟩)
 go_ret
 exact ⟨rfl, rfl⟩
end Go.Proofs.YteecekhfpfnepaaDoor.PAll
end

section
namespace Go.Proofs.YteecekhfpfnepaaDoor.Laid
open Go.ChangeShapes Go.WideShapes Go.ChangeAt Go.RowKit Go.Proofs.YteecekhfpfnepaaDoor.PAll
set_option linter.unusedVariables false
def tabs : List (String × DataW Unit) := [("math/bits.deBruijn32tab", Rows.laid_math_bits_deBruijn32tab), ("math/bits.deBruijn64tab", Rows.laid_math_bits_deBruijn64tab), ("unicode/utf8.acceptRanges", Rows.laid_unicode_utf8_acceptRanges), ("unicode/utf8.first", Rows.laid_unicode_utf8_first)]
theorem own : ownKnob Tryd.prog.godebug = none := by kernel_rfl
theorem g64 : Tryd.prog.globalNamed "math/bits.deBruijn64tab" = some 1 := by kernel_rfl
theorem t64 : (Tryd.prog.globals[1]?).map (·.type) = some 136 := by kernel_rfl
theorem door_met (os : Os) (args : Array Value) : laidMetH Tryd.prog tabs ((World.laidAll Tryd.prog os tabs).forCall (fun _ _ => 0) ⟨#[], args, []⟩).memory := by
 rw [MakeChecks.laidMetH_plain _ _ _ (by kernel_rfl)]
 exact laidMet_laidAll _ (by kernel_rfl) (by kernel_rfl)
theorem lits_eq {H : Type} : (Rows.laid_math_bits_deBruijn64tab : DataW H) = .agg (tabL.map fun n => .lit (.int .u8 n)) := rfl
theorem of_laid {W : World} (h : laidMetH Tryd.prog tabs W) : Tab W := by
 rw [MakeChecks.laidMetH_plain _ _ _ (by kernel_rfl)] at h
 obtain ⟨ps, ⟨g0, t0, cs0, f0, p0, q0, hg0, ht0, hv0, hd0, ⟨g1, t1, cs1, f1, p1, q1, hg1, ht1, hv1, hd1, _, _⟩, _⟩, _, _⟩ := h
 obtain rfl := Option.some.inj (g64.symm.trans hg1)
 obtain rfl := Option.some.inj (t64.symm.trans ht1)
 obtain ⟨xs, m1, rfl, hx1, hlen, hn, hel⟩ := DataW.trod_array Tryd.underlying136 hd1
 have c5 : Tryd.prog.cellsOf 5 = 1 := by kernel_rfl
 simp only [lits_eq, Prod.mk.injEq, DataW.agg.injEq] at hx1
 intro i hi
 rw [World.var?_cell hg1 hv1 i]
 have h1 := hel i hi
 rw [c5, Nat.mul_one] at h1
 have hxi : i < xs.length := by omega
 rw [List.getElem?_eq_getElem hxi] at h1
 obtain ⟨k, e1, e2, _⟩ := DataW.trod_int Tryd.underlying5 h1
 have hm : (xs.map (·.1))[i]? = some (.lit (.int .u8 k)) := by rw [List.getElem?_map, List.getElem?_eq_getElem hxi, e2]; rfl
 rw [← hx1.1, List.getElem?_map] at hm
 have hk : tabL[i]? = some k := by
  cases hq : tabL[i]? with
  | none => rw [hq] at hm; simp at hm
  | some q => rw [hq] at hm; simp at hm; rw [hm]
 rw [List.getD_eq_getElem?_getD, hk]
 have e3 : cs1.toList[i]? = some (.int .u8 k) := by
  have := congrArg (·[0]?) e1
  simpa [List.getElem?_take, List.getElem?_drop] using this
 rw [← Array.getElem?_toList, e3]
 rfl
end Go.Proofs.YteecekhfpfnepaaDoor.Laid
end

section
namespace Go.Proofs.YteecekhfpfnepaaDoor.PAll
open Go.RowKit Go.Proofs.YteecekhfpfnepaaDoorW.PrintWords Go.Proofs.YteecekhfpfnepaaDoorW.PrintLast Go.Proofs.YteecekhfpfnepaaDoorW.PrintMore
attribute [local go_sem] max2_int min2_int max_two min_two max_three min_three max_four min_four   -- for this text's walks alone
set_option linter.unusedVariables false
set_option linter.unusedSimpArgs false
def single_down.f (a0 : Int) (a1 : Int) : Option (Int) := if a1 ≤ 0 then (if 0 ≤ (wrap64 (-a1)) then (some (shl .u64 a0 (wrap64 (-a1)))) else (none)) else (if a1 > 64 then (some 0) else (if 0 ≤ (wrap64 (a1 - 1)) then (if a1 < 64 then (if 0 ≤ a1 then (if (Go.bits .and .u64 a0 (IntKind.u64.wrap ((shl .u64 1 a1) - 1))) > (shl .u64 1 (wrap64 (a1 - 1))) then (some (IntKind.u64.wrap ((shr .u64 a0 a1) + 1))) else (if (Go.bits .and .u64 a0 (IntKind.u64.wrap ((shl .u64 1 a1) - 1))) = (shl .u64 1 (wrap64 (a1 - 1))) then (if (Go.bits .and .u64 (shr .u64 a0 a1) 1) = 1 then (some (IntKind.u64.wrap ((shr .u64 a0 a1) + 1))) else (some (shr .u64 a0 a1))) else (some (shr .u64 a0 a1)))) else (none)) else (if a0 > (shl .u64 1 (wrap64 (a1 - 1))) then (some (0 + 1)) else (if a0 = (shl .u64 1 (wrap64 (a1 - 1))) then (if (Go.bits .and .u64 0 1) = 1 then (some (0 + 1)) else (some 0)) else (some 0)))) else (none)))
set_option maxHeartbeats 8000000 in
set_option maxRecDepth 100000 in
theorem single_down.calls (a0 : Int) (a1 : Int) (r : Int) (w : World) (h : single_down.f a0 a1 = some r) :
  Calls Tryd.prog 40 #[.int .u64 a0, .int .i64 a1] w fun e w' => e = .returned (.int .u64 r) ∧ Drawn0 w w' := by
 have H : (if a1 ≤ 0 then (if 0 ≤ (wrap64 (-a1)) then (some (shl .u64 a0 (wrap64 (-a1)))) else (none)) else (if a1 > 64 then (some 0) else (if 0 ≤ (wrap64 (a1 - 1)) then (if a1 < 64 then (if 0 ≤ a1 then (if (Go.bits .and .u64 a0 (IntKind.u64.wrap ((shl .u64 1 a1) - 1))) > (shl .u64 1 (wrap64 (a1 - 1))) then (some (IntKind.u64.wrap ((shr .u64 a0 a1) + 1))) else (if (Go.bits .and .u64 a0 (IntKind.u64.wrap ((shl .u64 1 a1) - 1))) = (shl .u64 1 (wrap64 (a1 - 1))) then (if (Go.bits .and .u64 (shr .u64 a0 a1) 1) = 1 then (some (IntKind.u64.wrap ((shr .u64 a0 a1) + 1))) else (some (shr .u64 a0 a1))) else (some (shr .u64 a0 a1)))) else (none)) else (if a0 > (shl .u64 1 (wrap64 (a1 - 1))) then (some (0 + 1)) else (if a0 = (shl .u64 1 (wrap64 (a1 - 1))) then (if (Go.bits .and .u64 0 1) = 1 then (some (0 + 1)) else (some 0)) else (some 0)))) else (none)))) = some r := h
 clear h
 by_cases c3 : a1 ≤ 0
 ·rw [if_pos c3] at H
  have c3b0 : decide (a1 ≤ 0) = true := decide_eq_true c3
  clear c3
  obtain ⟨ji4, hji4⟩ : ∃ j_ : Int, (wrap64 (-a1)) = j_ := ⟨_, rfl⟩
  replace H : (if 0 ≤ (ji4) then (some (shl .u64 a0 (ji4))) else (none)) = some r := by first | (rw [hji4] at H; exact H) | (simp only [hji4] at H ⊢; exact H)
  have hji4w : (IntKind.i64.wrap (-a1)) = ji4 := (i64_w _).trans hji4
  by_cases c5 : 0 ≤ (ji4)
  ·rw [if_pos c5] at H
   have c5b0 := eq_true c5
   have c5b1 : decide (0 ≤ (ji4)) = true := decide_eq_true c5
   clear c5
   obtain ⟨ji6, hji6⟩ : ∃ j_ : Int, (shl .u64 a0 (ji4)) = j_ := ⟨_, rfl⟩
   replace H : (some ji6) = some r := by first | (rw [hji6] at H; exact H) | (simp only [hji6] at H ⊢; exact H)
   have hji6_ : (IntKind.u64.wrap (a0 * 2 ^ min (ji4).toNat 64)) = ji6 := hji6
   have hji6z : (ji4) ≤ 64 → (IntKind.u64.wrap (a0 * 2 ^ (ji4).toNat)) = ji6 := shl_small hji6
   obtain rfl := Option.some.inj H
   go_enter Tryd.func40, Tryd.ntmps40
   go_wp2
   repeat (go_quiet (fail); try go_wp2)
   go_ret
   exact ⟨by first | rfl | (simp; done) | (simp only [← hji4, ← hji6] <;> (first | rfl | simp)) | (simp [*]; done), by repeat (first | exact Drawn0.refl _ | apply Drawn0.step)⟩
  ·rw [if_neg c5] at H
   exact absurd H (by simp)
 ·rw [if_neg c3] at H
  have c3b0 : decide (a1 ≤ 0) = false := decide_eq_false c3
  clear c3
  by_cases c7 : a1 > 64
  ·rw [if_pos c7] at H
   have c7b0 : decide (64 < a1) = true := decide_eq_true c7
   clear c7
   obtain rfl := Option.some.inj H
   go_enter Tryd.func40, Tryd.ntmps40
   go_wp2
   repeat (go_quiet (fail); try go_wp2)
   go_ret
   exact ⟨by first | rfl | (simp; done) | (simp [*]; done), by repeat (first | exact Drawn0.refl _ | apply Drawn0.step)⟩
  ·rw [if_neg c7] at H
   have c7b0 : decide (64 < a1) = false := decide_eq_false c7
   clear c7
   obtain ⟨ji8, hji8⟩ : ∃ j_ : Int, (wrap64 (a1 - 1)) = j_ := ⟨_, rfl⟩
   replace H : (if 0 ≤ (ji8) then (if a1 < 64 then (if 0 ≤ a1 then (if (Go.bits .and .u64 a0 (IntKind.u64.wrap ((shl .u64 1 a1) - 1))) > (shl .u64 1 (ji8)) then (some (IntKind.u64.wrap ((shr .u64 a0 a1) + 1))) else (if (Go.bits .and .u64 a0 (IntKind.u64.wrap ((shl .u64 1 a1) - 1))) = (shl .u64 1 (ji8)) then (if (Go.bits .and .u64 (shr .u64 a0 a1) 1) = 1 then (some (IntKind.u64.wrap ((shr .u64 a0 a1) + 1))) else (some (shr .u64 a0 a1))) else (some (shr .u64 a0 a1)))) else (none)) else (if a0 > (shl .u64 1 (ji8)) then (some (0 + 1)) else (if a0 = (shl .u64 1 (ji8)) then (if (Go.bits .and .u64 0 1) = 1 then (some (0 + 1)) else (some 0)) else (some 0)))) else (none)) = some r := by first | (rw [hji8] at H; exact H) | (simp only [hji8] at H ⊢; exact H)
   have hji8w : (IntKind.i64.wrap (a1 - 1)) = ji8 := (i64_w _).trans hji8
   by_cases c9 : 0 ≤ (ji8)
   ·rw [if_pos c9] at H
    have c9b0 := eq_true c9
    have c9b1 : decide (0 ≤ (ji8)) = true := decide_eq_true c9
    clear c9
    obtain ⟨ji10, hji10⟩ : ∃ j_ : Int, (shl .u64 1 (ji8)) = j_ := ⟨_, rfl⟩
    replace H : (if a1 < 64 then (if 0 ≤ a1 then (if (Go.bits .and .u64 a0 (IntKind.u64.wrap ((shl .u64 1 a1) - 1))) > (ji10) then (some (IntKind.u64.wrap ((shr .u64 a0 a1) + 1))) else (if (Go.bits .and .u64 a0 (IntKind.u64.wrap ((shl .u64 1 a1) - 1))) = (ji10) then (if (Go.bits .and .u64 (shr .u64 a0 a1) 1) = 1 then (some (IntKind.u64.wrap ((shr .u64 a0 a1) + 1))) else (some (shr .u64 a0 a1))) else (some (shr .u64 a0 a1)))) else (none)) else (if a0 > (ji10) then (some (0 + 1)) else (if a0 = (ji10) then (if (Go.bits .and .u64 0 1) = 1 then (some (0 + 1)) else (some 0)) else (some 0)))) = some r := by first | (rw [hji10] at H; exact H) | (simp only [hji10] at H ⊢; exact H)
    have hji10_ : (IntKind.u64.wrap (1 * 2 ^ min (ji8).toNat 64)) = ji10 := hji10
    have hji10z : (ji8) ≤ 64 → (IntKind.u64.wrap (1 * 2 ^ (ji8).toNat)) = ji10 := shl_small hji10
    have hji10u : (IntKind.u64.wrap (2 ^ min (ji8).toNat 64)) = ji10 := by have h_ := hji10_; rw [Int.one_mul] at h_; exact h_
    have hji10v : (ji8) ≤ 64 → (IntKind.u64.wrap (2 ^ (ji8).toNat)) = ji10 := fun hle_ => by have h_ := hji10z hle_; rw [Int.one_mul] at h_; exact h_
    by_cases c11 : a1 < 64
    ·rw [if_pos c11] at H
     have c11b0 : decide (a1 < 64) = true := decide_eq_true c11
     clear c11
     by_cases c12 : 0 ≤ a1
     ·rw [if_pos c12] at H
      have c12b0 := eq_true c12
      have c12b1 : decide (0 ≤ a1) = true := decide_eq_true c12
      clear c12
      obtain ⟨ji13, hji13⟩ : ∃ j_ : Int, (shr .u64 a0 a1) = j_ := ⟨_, rfl⟩
      replace H : (if (Go.bits .and .u64 a0 (IntKind.u64.wrap ((shl .u64 1 a1) - 1))) > (ji10) then (some (IntKind.u64.wrap ((ji13) + 1))) else (if (Go.bits .and .u64 a0 (IntKind.u64.wrap ((shl .u64 1 a1) - 1))) = (ji10) then (if (Go.bits .and .u64 (ji13) 1) = 1 then (some (IntKind.u64.wrap ((ji13) + 1))) else (some ji13)) else (some ji13))) = some r := by first | (rw [hji13] at H; exact H) | (simp only [hji13] at H ⊢; exact H)
      have hji13_ : (a0 / 2 ^ min a1.toNat 64) = ji13 := hji13
      have hji13z : a1 ≤ 64 → (a0 / 2 ^ a1.toNat) = ji13 := shr_small hji13
      have c14b0 := eq_true (of_decide_eq_true (by first | (with_reducible assumption) | assumption) : 0 ≤ a1)
      obtain ⟨ji15, hji15⟩ : ∃ j_ : Int, (shl .u64 1 a1) = j_ := ⟨_, rfl⟩
      replace H : (if (Go.bits .and .u64 a0 (IntKind.u64.wrap ((ji15) - 1))) > (ji10) then (some (IntKind.u64.wrap ((ji13) + 1))) else (if (Go.bits .and .u64 a0 (IntKind.u64.wrap ((ji15) - 1))) = (ji10) then (if (Go.bits .and .u64 (ji13) 1) = 1 then (some (IntKind.u64.wrap ((ji13) + 1))) else (some ji13)) else (some ji13))) = some r := by first | (rw [hji15] at H; exact H) | (simp only [hji15] at H ⊢; exact H)
      have hji15_ : (IntKind.u64.wrap (1 * 2 ^ min a1.toNat 64)) = ji15 := hji15
      have hji15z : a1 ≤ 64 → (IntKind.u64.wrap (1 * 2 ^ a1.toNat)) = ji15 := shl_small hji15
      have hji15u : (IntKind.u64.wrap (2 ^ min a1.toNat 64)) = ji15 := by have h_ := hji15_; rw [Int.one_mul] at h_; exact h_
      have hji15v : a1 ≤ 64 → (IntKind.u64.wrap (2 ^ a1.toNat)) = ji15 := fun hle_ => by have h_ := hji15z hle_; rw [Int.one_mul] at h_; exact h_
      by_cases c16 : (Go.bits .and .u64 a0 (IntKind.u64.wrap ((ji15) - 1))) > (ji10)
      ·rw [if_pos c16] at H
       have c16b0 : decide ((ji10) < (Go.bits .and .u64 a0 (IntKind.u64.wrap ((ji15) - 1)))) = true := decide_eq_true c16
       clear c16
       obtain rfl := Option.some.inj H
       go_enter Tryd.func40, Tryd.ntmps40
       go_wp2
       repeat (go_quiet (fail); try go_wp2)
       go_ret
       exact ⟨by first | rfl | (simp; done) | (simp only [← hji8, ← hji10, ← hji13, ← hji15] <;> (first | rfl | simp)) | (simp [*]; done), by repeat (first | exact Drawn0.refl _ | apply Drawn0.step)⟩
      ·rw [if_neg c16] at H
       have c16b0 : decide ((ji10) < (Go.bits .and .u64 a0 (IntKind.u64.wrap ((ji15) - 1)))) = false := decide_eq_false c16
       clear c16
       by_cases c17 : (Go.bits .and .u64 a0 (IntKind.u64.wrap ((ji15) - 1))) = (ji10)
       ·rw [if_pos c17] at H
        have c17b0 : ((Go.bits .and .u64 a0 (IntKind.u64.wrap ((ji15) - 1))) == (ji10)) = true := beq_iff_eq.mpr c17
        have c17b1 : ((Go.bits .and .u64 a0 (IntKind.u64.wrap ((ji15) - 1))) != (ji10)) = false := bne_eq_false_iff_eq.mpr c17
        clear c17
        by_cases c18 : (Go.bits .and .u64 (ji13) 1) = 1
        ·rw [if_pos c18] at H
         have c18b0 : ((Go.bits .and .u64 (ji13) 1) == 1) = true := beq_iff_eq.mpr c18
         have c18b1 : ((Go.bits .and .u64 (ji13) 1) != 1) = false := bne_eq_false_iff_eq.mpr c18
         clear c18
         obtain rfl := Option.some.inj H
         go_enter Tryd.func40, Tryd.ntmps40
         go_wp2
         repeat (go_quiet (fail); try go_wp2)
         go_ret
         exact ⟨by first | rfl | (simp; done) | (simp only [← hji8, ← hji10, ← hji13, ← hji15] <;> (first | rfl | simp)) | (simp [*]; done), by repeat (first | exact Drawn0.refl _ | apply Drawn0.step)⟩
        ·rw [if_neg c18] at H
         have c18b0 : ((Go.bits .and .u64 (ji13) 1) == 1) = false := beq_eq_false_iff_ne.mpr c18
         have c18b1 : ((Go.bits .and .u64 (ji13) 1) != 1) = true := bne_iff_ne.mpr c18
         obtain rfl := Option.some.inj H
         go_enter Tryd.func40, Tryd.ntmps40
         go_wp2
         repeat (go_quiet (fail); try go_wp2)
         go_ret
         exact ⟨by first | rfl | (simp; done) | (simp only [← hji8, ← hji10, ← hji13, ← hji15] <;> (first | rfl | simp)) | (simp [*]; done), by repeat (first | exact Drawn0.refl _ | apply Drawn0.step)⟩
       ·rw [if_neg c17] at H
        have c17b0 : ((Go.bits .and .u64 a0 (IntKind.u64.wrap ((ji15) - 1))) == (ji10)) = false := beq_eq_false_iff_ne.mpr c17
        have c17b1 : ((Go.bits .and .u64 a0 (IntKind.u64.wrap ((ji15) - 1))) != (ji10)) = true := bne_iff_ne.mpr c17
        obtain rfl := Option.some.inj H
        go_enter Tryd.func40, Tryd.ntmps40
        go_wp2
        repeat (go_quiet (fail); try go_wp2)
        go_ret
        exact ⟨by first | rfl | (simp; done) | (simp only [← hji8, ← hji10, ← hji13, ← hji15] <;> (first | rfl | simp)) | (simp [*]; done), by repeat (first | exact Drawn0.refl _ | apply Drawn0.step)⟩
     ·rw [if_neg c12] at H
      exact absurd H (by simp)
    ·rw [if_neg c11] at H
     have c11b0 : decide (a1 < 64) = false := decide_eq_false c11
     clear c11
     by_cases c19 : a0 > (ji10)
     ·rw [if_pos c19] at H
      have c19b0 : decide ((ji10) < a0) = true := decide_eq_true c19
      clear c19
      obtain rfl := Option.some.inj H
      go_enter Tryd.func40, Tryd.ntmps40
      go_wp2
      repeat (go_quiet (fail); try go_wp2)
      go_ret
      exact ⟨by first | rfl | (simp; done) | (simp only [← hji8, ← hji10] <;> (first | rfl | simp)) | (simp [*]; done), by repeat (first | exact Drawn0.refl _ | apply Drawn0.step)⟩
     ·rw [if_neg c19] at H
      have c19b0 : decide ((ji10) < a0) = false := decide_eq_false c19
      clear c19
      by_cases c20 : a0 = (ji10)
      ·rw [if_pos c20] at H
       have c20b0 : (a0 == (ji10)) = true := beq_iff_eq.mpr c20
       have c20b1 : (a0 != (ji10)) = false := bne_eq_false_iff_eq.mpr c20
       clear c20
       by_cases c21 : (Go.bits .and .u64 0 1) = 1
       ·rw [if_pos c21] at H
        have c21b0 : ((Go.bits .and .u64 0 1) == 1) = true := beq_iff_eq.mpr c21
        have c21b1 : ((Go.bits .and .u64 0 1) != 1) = false := bne_eq_false_iff_eq.mpr c21
        clear c21
        obtain rfl := Option.some.inj H
        go_enter Tryd.func40, Tryd.ntmps40
        go_wp2
        repeat (go_quiet (fail); try go_wp2)
        go_ret
        exact ⟨by first | rfl | (simp; done) | (simp only [← hji8, ← hji10] <;> (first | rfl | simp)) | (simp [*]; done), by repeat (first | exact Drawn0.refl _ | apply Drawn0.step)⟩
       ·rw [if_neg c21] at H
        have c21b0 : ((Go.bits .and .u64 0 1) == 1) = false := beq_eq_false_iff_ne.mpr c21
        have c21b1 : ((Go.bits .and .u64 0 1) != 1) = true := bne_iff_ne.mpr c21
        obtain rfl := Option.some.inj H
        go_enter Tryd.func40, Tryd.ntmps40
        go_wp2
        repeat (go_quiet (fail); try go_wp2)
        go_ret
        exact ⟨by first | rfl | (simp; done) | (simp only [← hji8, ← hji10] <;> (first | rfl | simp)) | (simp [*]; done), by repeat (first | exact Drawn0.refl _ | apply Drawn0.step)⟩
      ·rw [if_neg c20] at H
       have c20b0 : (a0 == (ji10)) = false := beq_eq_false_iff_ne.mpr c20
       have c20b1 : (a0 != (ji10)) = true := bne_iff_ne.mpr c20
       obtain rfl := Option.some.inj H
       go_enter Tryd.func40, Tryd.ntmps40
       go_wp2
       repeat (go_quiet (fail); try go_wp2)
       go_ret
       exact ⟨by first | rfl | (simp; done) | (simp only [← hji8, ← hji10] <;> (first | rfl | simp)) | (simp [*]; done), by repeat (first | exact Drawn0.refl _ | apply Drawn0.step)⟩
   ·rw [if_neg c9] at H
    exact absurd H (by simp)
end Go.Proofs.YteecekhfpfnepaaDoor.PAll
end

section
namespace Go.Proofs.YteecekhfpfnepaaDoor.PAll
open Go.RowKit Go.Proofs.YteecekhfpfnepaaDoorW.PrintWords Go.Proofs.YteecekhfpfnepaaDoorW.PrintLast Go.Proofs.YteecekhfpfnepaaDoorW.PrintMore
set_option linter.unusedVariables false
set_option linter.unusedSimpArgs false
/-- How many binary digits a number has. -/
def lenI (a : Int) : Int := if a ≤ 0 then 0 else (a.toNat.log2 : Int) + 1
theorem lenI_div (a : Int) (k : Nat) (h : 2 ^ k ≤ a) : lenI a = k + lenI (a / 2 ^ k) := by
 have hp : (0 : Int) < 2 ^ k := Int.pow_pos (by omega)
 obtain ⟨n, rfl⟩ := Int.eq_ofNat_of_zero_le (show 0 ≤ a by omega)
 have hn : 2 ^ k ≤ n := by exact_mod_cast h
 have hn2 : 0 < 2 ^ k := Nat.two_pow_pos k
 have e : (n : Int) / 2 ^ k = ((n / 2 ^ k : Nat) : Int) := by push_cast; rfl
 have hq : 0 < n / 2 ^ k := Nat.div_pos hn hn2
 unfold lenI
 rw [e, if_neg (by omega), if_neg (by omega), Int.toNat_natCast, Int.toNat_natCast]
 have : n.log2 = k + (n / 2 ^ k).log2 := by
  rw [Nat.log2_eq_iff (by omega)]
  have h1 := Nat.log2_self_le (n := n / 2 ^ k) (by omega)
  have h2 := Nat.lt_log2_self (n := n / 2 ^ k)
  constructor
  ·rw [Nat.pow_add]
   exact Nat.le_trans (Nat.mul_le_mul_left _ h1) (Nat.mul_div_le n _)
  ·rw [Nat.add_assoc, Nat.pow_add]
   have := Nat.lt_mul_of_div_lt h2 hn2
   rwa [Nat.mul_comm] at this
 omega
theorem lenI_range (a : Int) (h1 : a < 18446744073709551616) : 0 ≤ lenI a ∧ lenI a ≤ 64 := by
 unfold lenI
 split
 ·omega
 ·have h3 : a.toNat.log2 < 64 := (Nat.log2_lt (by omega)).2 (by omega)
  omega
set_option maxRecDepth 20000 in
def lenTab : ByteArray := ⟨#[0, 1, 2, 2, 3, 3, 3, 3, 4, 4, 4, 4, 4, 4, 4, 4, 5, 5, 5, 5, 5, 5, 5, 5, 5, 5, 5, 5, 5, 5, 5, 5, 6, 6, 6, 6, 6, 6, 6, 6, 6, 6, 6, 6, 6, 6, 6, 6, 6, 6, 6, 6, 6, 6, 6, 6, 6, 6, 6, 6, 6, 6, 6, 6, 7, 7, 7, 7, 7, 7, 7, 7, 7, 7, 7, 7, 7, 7, 7, 7, 7, 7, 7, 7, 7, 7, 7, 7, 7, 7, 7, 7, 7, 7, 7, 7, 7, 7, 7, 7, 7, 7, 7, 7, 7, 7, 7, 7, 7, 7, 7, 7, 7, 7, 7, 7, 7, 7, 7, 7, 7, 7, 7, 7, 7, 7, 7, 7, 8, 8, 8, 8, 8, 8, 8, 8, 8, 8, 8, 8, 8, 8, 8, 8, 8, 8, 8, 8, 8, 8, 8, 8, 8, 8, 8, 8, 8, 8, 8, 8, 8, 8, 8, 8, 8, 8, 8, 8, 8, 8, 8, 8, 8, 8, 8, 8, 8, 8, 8, 8, 8, 8, 8, 8, 8, 8, 8, 8, 8, 8, 8, 8, 8, 8, 8, 8, 8, 8, 8, 8, 8, 8, 8, 8, 8, 8, 8, 8, 8, 8, 8, 8, 8, 8, 8, 8, 8, 8, 8, 8, 8, 8, 8, 8, 8, 8, 8, 8, 8, 8, 8, 8, 8, 8, 8, 8, 8, 8, 8, 8, 8, 8, 8, 8, 8, 8, 8, 8, 8, 8, 8, 8, 8, 8, 8, 8]⟩
set_option maxRecDepth 20000 in
theorem lenTab_at : ∀ i : Nat, i < 256 → bt lenTab (i : Int) = lenI (i : Int) := by decide +kernel
set_option maxRecDepth 20000 in
theorem tab_get (x : Int) (h : x.toNat < (⟨#[0, 1, 2, 2, 3, 3, 3, 3, 4, 4, 4, 4, 4, 4, 4, 4, 5, 5, 5, 5, 5, 5, 5, 5, 5, 5, 5, 5, 5, 5, 5, 5, 6, 6, 6, 6, 6, 6, 6, 6, 6, 6, 6, 6, 6, 6, 6, 6, 6, 6, 6, 6, 6, 6, 6, 6, 6, 6, 6, 6, 6, 6, 6, 6, 7, 7, 7, 7, 7, 7, 7, 7, 7, 7, 7, 7, 7, 7, 7, 7, 7, 7, 7, 7, 7, 7, 7, 7, 7, 7, 7, 7, 7, 7, 7, 7, 7, 7, 7, 7, 7, 7, 7, 7, 7, 7, 7, 7, 7, 7, 7, 7, 7, 7, 7, 7, 7, 7, 7, 7, 7, 7, 7, 7, 7, 7, 7, 7, 8, 8, 8, 8, 8, 8, 8, 8, 8, 8, 8, 8, 8, 8, 8, 8, 8, 8, 8, 8, 8, 8, 8, 8, 8, 8, 8, 8, 8, 8, 8, 8, 8, 8, 8, 8, 8, 8, 8, 8, 8, 8, 8, 8, 8, 8, 8, 8, 8, 8, 8, 8, 8, 8, 8, 8, 8, 8, 8, 8, 8, 8, 8, 8, 8, 8, 8, 8, 8, 8, 8, 8, 8, 8, 8, 8, 8, 8, 8, 8, 8, 8, 8, 8, 8, 8, 8, 8, 8, 8, 8, 8, 8, 8, 8, 8, 8, 8, 8, 8, 8, 8, 8, 8, 8, 8, 8, 8, 8, 8, 8, 8, 8, 8, 8, 8, 8, 8, 8, 8, 8, 8, 8, 8, 8, 8, 8, 8]⟩ : ByteArray).size) (h0 : 0 ≤ x) : (((⟨#[0, 1, 2, 2, 3, 3, 3, 3, 4, 4, 4, 4, 4, 4, 4, 4, 5, 5, 5, 5, 5, 5, 5, 5, 5, 5, 5, 5, 5, 5, 5, 5, 6, 6, 6, 6, 6, 6, 6, 6, 6, 6, 6, 6, 6, 6, 6, 6, 6, 6, 6, 6, 6, 6, 6, 6, 6, 6, 6, 6, 6, 6, 6, 6, 7, 7, 7, 7, 7, 7, 7, 7, 7, 7, 7, 7, 7, 7, 7, 7, 7, 7, 7, 7, 7, 7, 7, 7, 7, 7, 7, 7, 7, 7, 7, 7, 7, 7, 7, 7, 7, 7, 7, 7, 7, 7, 7, 7, 7, 7, 7, 7, 7, 7, 7, 7, 7, 7, 7, 7, 7, 7, 7, 7, 7, 7, 7, 7, 8, 8, 8, 8, 8, 8, 8, 8, 8, 8, 8, 8, 8, 8, 8, 8, 8, 8, 8, 8, 8, 8, 8, 8, 8, 8, 8, 8, 8, 8, 8, 8, 8, 8, 8, 8, 8, 8, 8, 8, 8, 8, 8, 8, 8, 8, 8, 8, 8, 8, 8, 8, 8, 8, 8, 8, 8, 8, 8, 8, 8, 8, 8, 8, 8, 8, 8, 8, 8, 8, 8, 8, 8, 8, 8, 8, 8, 8, 8, 8, 8, 8, 8, 8, 8, 8, 8, 8, 8, 8, 8, 8, 8, 8, 8, 8, 8, 8, 8, 8, 8, 8, 8, 8, 8, 8, 8, 8, 8, 8, 8, 8, 8, 8, 8, 8, 8, 8, 8, 8, 8, 8, 8, 8, 8, 8, 8, 8]⟩ : ByteArray)[x.toNat]'h).toNat : Int) = lenI x := by
 have hs : lenTab.size = 256 := by decide
 have h' : x.toNat < 256 := by rw [← hs]; exact h
 have e := lenTab_at x.toNat h'
 rw [Int.toNat_of_nonneg h0] at e
 rw [← e, ← bt_at lenTab x h]
 rfl
theorem d32 (a : Int) : a < 4294967296 ∨ lenI a = 32 + lenI (a / 4294967296) := by
 by_cases h : a < 4294967296
 ·exact .inl h
 ·exact .inr (lenI_div a 32 (by omega))
theorem d16 (a : Int) : a < 65536 ∨ lenI a = 16 + lenI (a / 65536) := by
 by_cases h : a < 65536
 ·exact .inl h
 ·exact .inr (lenI_div a 16 (by omega))
theorem d8 (a : Int) : a < 256 ∨ lenI a = 8 + lenI (a / 256) := by
 by_cases h : a < 256
 ·exact .inl h
 ·exact .inr (lenI_div a 8 (by omega))
def bits_Len64.f (a0 : Int) : Option Int := if 0 ≤ a0 ∧ a0 < 18446744073709551616 then some (lenI a0) else none
set_option maxRecDepth 20000 in
set_option maxHeartbeats 1600000 in
theorem bits_Len64.calls (a0 : Int) (r : Int) (w : World) (h : bits_Len64.f a0 = some r) :
  Calls Tryd.prog 39 #[.int .u64 a0] w fun e w' => e = .returned (.int .i64 r) ∧ Drawn0 w w' := by
 unfold bits_Len64.f at h
 split at h
 case isFalse => simp at h
 case isTrue hr =>
 obtain ⟨h0, h1⟩ := hr
 obtain rfl := Option.some.inj h
 clear h
 go_enter Tryd.func39, Tryd.ntmps39
 have r0 := lenI_range a0 h1
 go_wp2
 all_goals
  rw [tab_get _ _ (by omega)]
  go_ret
  refine ⟨?_, Drawn0.refl _⟩
  have e1 := d32 a0
  have e2 := d16 a0
  have e3 := d16 (a0 / 4294967296)
  have e4 := d8 a0
  have e5 := d8 (a0 / 4294967296)
  have e6 := d8 (a0 / 65536)
  have e7 := d8 (a0 / 4294967296 / 65536)
  refine congrArg (fun z => Ending.returned (Value.int .i64 z)) (?_ : _ = lenI a0)
  have e8 := lenI_range (a0 / 256) (by omega)
  have e9 := lenI_range (a0 / 65536) (by omega)
  have ea := lenI_range (a0 / 4294967296) (by omega)
  unfold wrap64
  omega
end Go.Proofs.YteecekhfpfnepaaDoor.PAll
end

section
namespace Go.Proofs.YteecekhfpfnepaaDoor.PAll
open Go.RowKit Go.Proofs.YteecekhfpfnepaaDoorW.PrintWords Go.Proofs.YteecekhfpfnepaaDoorW.PrintLast Go.Proofs.YteecekhfpfnepaaDoorW.PrintMore
attribute [local go_sem] max2_int min2_int max_two min_two max_three min_three max_four min_four   -- for this text's walks alone
set_option linter.unusedVariables false
set_option linter.unusedSimpArgs false
mutual
def single_Near.j0 : Nat → Int → Int → Int → Option (Int)
 | 0, _, _, _ => none
 | k + 1, x1, x5, x6 => if x1 > 200 then (some (Go.bits .or .u32 x5 2139095040)) else (if x1 < (-300) then (some x5) else ((bits_Len64.f x6).bind fun t101 => ((single_down.f x6 (wrap64 ((mx (-149) (wrap64 ((wrap64 (x1 + t101)) - 24))) - x1))).bind fun t102 => (if t102 = 16777216 then (single_Near.j1 k x5 (wrap64 ((mx (-149) (wrap64 ((wrap64 (x1 + t101)) - 24))) + 1)) 8388608) else (single_Near.j1 k x5 (mx (-149) (wrap64 ((wrap64 (x1 + t101)) - 24))) t102)))))
def single_Near.j1 : Nat → Int → Int → Int → Option (Int)
 | 0, _, _, _ => none
 | k + 1, x5, x7, x8 => if x8 < 8388608 then (some (Go.bits .or .u32 x5 ((x8) % 4294967296))) else (if (wrap64 (x7 + 150)) ≥ 255 then (some (Go.bits .or .u32 x5 2139095040)) else (some (Go.bits .or .u32 (Go.bits .or .u32 x5 ((((wrap64 (x7 + 150)) % 4294967296) * 8388608) % 4294967296)) ((IntKind.u64.wrap (x8 - 8388608)) % 4294967296))))
end
def single_Near.f (k : Nat) (a0 : Int) (a1 : Int) : Option (Int) := if a0 = 0 then (some 0) else (if a0 < 0 then (single_Near.j0 k a1 2147483648 (IntKind.u64.wrap (-(IntKind.u64.wrap (a0))))) else (single_Near.j0 k a1 0 (IntKind.u64.wrap (a0))))
set_option maxHeartbeats 8000000 in
set_option maxRecDepth 100000 in
theorem single_Near.calls (k : Nat) (a0 : Int) (a1 : Int) (r : Int) (w : World) (h : single_Near.f k a0 a1 = some r) :
  Calls Tryd.prog 16 #[.int .i64 a0, .int .i64 a1] w fun e w' => e = .returned (.int .u32 r) ∧ Below w.heap.size w w' := by
 have HB := Aside0.mk (Below.refl w.heap.size w)
 have H : (if a0 = 0 then (some 0) else (if a0 < 0 then (single_Near.j0 k a1 2147483648 (IntKind.u64.wrap (-(IntKind.u64.wrap (a0))))) else (single_Near.j0 k a1 0 (IntKind.u64.wrap (a0))))) = some r := h
 clear h
 by_cases c3 : a0 = 0
 ·rw [if_pos c3] at H
  have c3b0 : (a0 == 0) = true := beq_iff_eq.mpr c3
  have c3b1 : (a0 != 0) = false := bne_eq_false_iff_eq.mpr c3
  clear c3
  obtain rfl := Option.some.inj H
  go_enter Tryd.func16, Tryd.ntmps16
  go_wp2
  go_ret
  exact ⟨by first | rfl | (simp [errW_none, errW_some] <;> rfl) | (simp [*, errW_none, errW_some] <;> rfl), by repeat (first | (with_reducible first | exact HB.out | apply below_alloc | apply pw_below_drewN | apply below_drew1) | exact HB.out)⟩
 ·rw [if_neg c3] at H
  have c3b0 : (a0 == 0) = false := beq_eq_false_iff_ne.mpr c3
  have c3b1 : (a0 != 0) = true := bne_iff_ne.mpr c3
  have HC4 := Aside0.mk H
  clear H
  go_enter Tryd.func16, Tryd.ntmps16
  go_upto_if 14 with (fail)
  go_cut [5, 6] (fun v5 v6 wc => ∃ (kq : Nat) (x5_3 : Int) (x6_3 : Int), v5 = .int .u32 x5_3 ∧ v6 = .int .u64 x6_3 ∧ Aside0 (single_Near.j0 kq a1 x5_3 x6_3 = some r) ∧ Aside0 (kq ≤ k) ∧ Aside0 (Below w.heap.size w wc))
  case first =>
   have H := HC4.out
   clear HC4
   by_cases c5 : a0 < 0
   ·rw [if_pos c5] at H
    have c5b0 : decide (a0 < 0) = true := decide_eq_true c5
    clear c5
    (first | rw [c5b0] | (simp only [i64_w, i32_w]; rw [c5b0]) | skip)
    have H' := Aside0.mk H
    clear H
    go_wp2
    go_meet
    case rel => exact ⟨_, (2147483648), (IntKind.u64.wrap (-(IntKind.u64.wrap (a0)))), (by first | rfl | (simp; done) | (simp [*]; done) | (simp [i64_w]; done) | (simp [*, i64_w]; done)), (by first | rfl | (simp; done) | (simp [*]; done) | (simp [i64_w]; done) | (simp [*, i64_w]; done)), H', ⟨by first | omega | exact Nat.le_refl _⟩, ⟨by repeat (first | (with_reducible first | exact HB.out | apply below_alloc | apply pw_below_drewN | apply below_drew1) | exact HB.out)⟩⟩
   ·rw [if_neg c5] at H
    have c5b0 : decide (a0 < 0) = false := decide_eq_false c5
    clear c5
    (first | rw [c5b0] | (simp only [i64_w, i32_w]; rw [c5b0]) | skip)
    have H' := Aside0.mk H
    clear H
    go_wp2
    go_meet
    case rel => exact ⟨_, (0), (IntKind.u64.wrap (a0)), (by first | rfl | (simp; done) | (simp [*]; done) | (simp [i64_w]; done) | (simp [*, i64_w]; done)), (by first | rfl | (simp; done) | (simp [*]; done) | (simp [i64_w]; done) | (simp [*, i64_w]; done)), H', ⟨by first | omega | exact Nat.le_refl _⟩, ⟨by repeat (first | (with_reducible first | exact HB.out | apply below_alloc | apply pw_below_drewN | apply below_drew1) | exact HB.out)⟩⟩
  case rest =>
   clear HC4
   try clear c1
   try clear p2
   try clear c3
   try clear c3b0
   try clear c3b1
   try clear c5
   try clear c5b0
   obtain ⟨kq, x5_3, x6_3, rfl, rfl, HA, HJ3, HB⟩ := hcut
   cases kq with
   | zero => exact absurd HA.out (by simp [single_Near.j0])
   | succ kj3 =>
    have H := HA.out
    clear HA
    simp only [single_Near.j0] at H
    by_cases c6 : a1 > 200
    ·rw [if_pos c6] at H
     have c6b0 : decide (200 < a1) = true := decide_eq_true c6
     clear c6
     obtain rfl := Option.some.inj H
     go_wp2
     go_ret
     exact ⟨by first | rfl | (simp [errW_none, errW_some] <;> rfl) | (simp [*, errW_none, errW_some] <;> rfl), by repeat (first | (with_reducible first | exact HB.out | apply below_alloc | apply pw_below_drewN | apply below_drew1) | exact HB.out)⟩
    ·rw [if_neg c6] at H
     have c6b0 : decide (200 < a1) = false := decide_eq_false c6
     clear c6
     by_cases c7 : a1 < (-300)
     ·rw [if_pos c7] at H
      have c7b0 : decide (a1 < (-300)) = true := decide_eq_true c7
      clear c7
      obtain rfl := Option.some.inj H
      go_wp2
      go_ret
      exact ⟨by first | rfl | (simp [errW_none, errW_some] <;> rfl) | (simp [*, errW_none, errW_some] <;> rfl), by repeat (first | (with_reducible first | exact HB.out | apply below_alloc | apply pw_below_drewN | apply below_drew1) | exact HB.out)⟩
     ·rw [if_neg c7] at H
      have c7b0 : decide (a1 < (-300)) = false := decide_eq_false c7
      clear c7
      replace H := Option.bind_eq_some_iff.mp H
      obtain ⟨t101, A80, H⟩ := H
      replace H : ((single_down.f x6_3 (wrap64 ((mx (-149) (wrap64 ((wrap64 (a1 + t101)) - 24))) - a1))).bind fun t102 => (if t102 = 16777216 then (single_Near.j1 kj3 x5_3 (wrap64 ((mx (-149) (wrap64 ((wrap64 (a1 + t101)) - 24))) + 1)) 8388608) else (single_Near.j1 kj3 x5_3 (mx (-149) (wrap64 ((wrap64 (a1 + t101)) - 24))) t102))) = some r := H
      have A8 := Aside0.mk A80
      clear A80
      obtain ⟨ji9, hji9⟩ : ∃ j_ : Int, (mx (-149) (wrap64 ((wrap64 (a1 + t101)) - 24))) = j_ := ⟨_, rfl⟩
      replace H : ((single_down.f x6_3 (wrap64 ((ji9) - a1))).bind fun t102 => (if t102 = 16777216 then (single_Near.j1 kj3 x5_3 (wrap64 ((ji9) + 1)) 8388608) else (single_Near.j1 kj3 x5_3 ji9 t102))) = some r := by first | (rw [hji9] at H; exact H) | (simp only [hji9] at H ⊢; exact H)
      (try rw [hji9] at A8)
      have hji9_ : (if (-149) < (wrap64 ((wrap64 (a1 + t101)) - 24)) then (wrap64 ((wrap64 (a1 + t101)) - 24)) else (-149)) = ji9 := hji9
      replace H := Option.bind_eq_some_iff.mp H
      obtain ⟨t102, A100, H⟩ := H
      replace H : (if t102 = 16777216 then (single_Near.j1 kj3 x5_3 (wrap64 ((ji9) + 1)) 8388608) else (single_Near.j1 kj3 x5_3 ji9 t102)) = some r := H
      have A10 := Aside0.mk A100
      clear A100
      have HC11 := Aside0.mk H
      clear H
      go_upto_if 38 with (first | ((with_reducible refine gate_callee (f := 39) rfl ?_); refine goesL_ (some 28) rfl rfl Tryd.func39 (by kernel_rfl) rfl #[.int .u64 x6_3] rfl (by (try simp only [List.map_toArray, List.map_cons, List.map_nil]); first | done | rfl | (simp only [List.length_drop, List.length_take]; rfl)) ?_; (with_reducible refine (bits_Len64.calls x6_3 t101 _ A8.out).mono ?_); rintro e w' ⟨rfl, ⟨nd, rfl⟩⟩; refine ⟨_, rfl, ?_⟩) | ((with_reducible refine gate_callee (f := 40) rfl ?_); refine goesL_ (some 36) rfl rfl Tryd.func40 (by kernel_rfl) rfl #[.int .u64 x6_3, .int .i64 (wrap64 ((ji9) - a1))] rfl (by (try simp only [List.map_toArray, List.map_cons, List.map_nil]); first | done | (simp only [hji9]; rfl) | rfl | (simp only [List.length_drop, List.length_take]; rfl)) ?_; (with_reducible refine (single_down.calls x6_3 (wrap64 ((ji9) - a1)) t102 _ A10.out).mono ?_); rintro e w' ⟨rfl, ⟨nd, rfl⟩⟩; refine ⟨_, rfl, ?_⟩))
      (try simp only [Act.put, List.setIfInBounds_toArray, List.set_cons_zero, List.set_cons_succ])
      go_cut [7, 8] (fun v7 v8 wc => ∃ (kq : Nat) (x7_10 : Int) (x8_10 : Int), v7 = .int .i64 x7_10 ∧ v8 = .int .u64 x8_10 ∧ Aside0 (single_Near.j1 kq x5_3 x7_10 x8_10 = some r) ∧ Aside0 (kq ≤ kj3) ∧ Aside0 (Below w.heap.size w wc))
      case first =>
       have H := HC11.out
       clear HC11
       by_cases c12 : t102 = 16777216
       ·rw [if_pos c12] at H
        have c12b0 : (t102 == 16777216) = true := beq_iff_eq.mpr c12
        have c12b1 : (t102 != 16777216) = false := bne_eq_false_iff_eq.mpr c12
        clear c12
        (first | rw [c12b0] | (simp only [i64_w, i32_w]; rw [c12b0]) | skip)
        have H' := Aside0.mk H
        clear H
        go_wp2
        go_meet
        case rel => exact ⟨_, (wrap64 ((ji9) + 1)), (8388608), (by first | rfl | (simp; done) | (simp only [← hji9] <;> (first | rfl | simp)) | (simp [*]; done)), (by first | rfl | (simp; done) | (simp [*]; done) | (simp [i64_w]; done) | (simp [*, i64_w]; done)), H', ⟨by have := HJ3.out; first | omega | exact Nat.le_refl _⟩, ⟨by repeat (first | (with_reducible first | exact HB.out | apply below_alloc | apply pw_below_drewN | apply below_drew1) | exact HB.out)⟩⟩
       ·rw [if_neg c12] at H
        have c12b0 : (t102 == 16777216) = false := beq_eq_false_iff_ne.mpr c12
        have c12b1 : (t102 != 16777216) = true := bne_iff_ne.mpr c12
        (first | rw [c12b0] | (simp only [i64_w, i32_w]; rw [c12b0]) | skip)
        have H' := Aside0.mk H
        clear H
        go_wp2
        go_meet
        case rel => exact ⟨_, (ji9), (t102), (by first | rfl | (simp; done) | (simp only [← hji9] <;> (first | rfl | simp)) | (simp [*]; done)), (by first | rfl | (simp; done) | (simp [*]; done) | (simp [i64_w]; done) | (simp [*, i64_w]; done)), H', ⟨by have := HJ3.out; first | omega | exact Nat.le_refl _⟩, ⟨by repeat (first | (with_reducible first | exact HB.out | apply below_alloc | apply pw_below_drewN | apply below_drew1) | exact HB.out)⟩⟩
      case rest =>
       clear HC11
       try clear c1
       try clear p2
       try clear c3
       try clear c3b0
       try clear c3b1
       try clear c4
       try clear c5
       try clear c5b0
       try clear c6
       try clear c6b0
       try clear p6
       try clear c7
       try clear c7b0
       try clear c12
       try clear c12b0
       try clear c12b1
       try clear p2
       obtain ⟨kq, x7_10, x8_10, rfl, rfl, HA, HJ10, HB⟩ := hcut
       cases kq with
       | zero => exact absurd HA.out (by simp [single_Near.j1])
       | succ kj10 =>
        have H := HA.out
        clear HA
        simp only [single_Near.j1] at H
        by_cases c13 : x8_10 < 8388608
        ·rw [if_pos c13] at H
         have c13b0 : decide (x8_10 < 8388608) = true := decide_eq_true c13
         clear c13
         obtain rfl := Option.some.inj H
         go_wp2
         go_ret
         exact ⟨by first | rfl | (simp [errW_none, errW_some] <;> rfl) | (simp only [← hji9]; first | rfl | (simp [errW_none, errW_some] <;> rfl)) | (simp [*, errW_none, errW_some] <;> rfl), by repeat (first | (with_reducible first | exact HB.out | apply below_alloc | apply pw_below_drewN | apply below_drew1) | exact HB.out)⟩
        ·rw [if_neg c13] at H
         have c13b0 : decide (x8_10 < 8388608) = false := decide_eq_false c13
         clear c13
         by_cases c14 : (wrap64 (x7_10 + 150)) ≥ 255
         ·rw [if_pos c14] at H
          have c14b0 : decide (255 ≤ (wrap64 (x7_10 + 150))) = true := decide_eq_true c14
          clear c14
          obtain rfl := Option.some.inj H
          go_wp2
          go_ret
          exact ⟨by first | rfl | (simp [errW_none, errW_some] <;> rfl) | (simp only [← hji9]; first | rfl | (simp [errW_none, errW_some] <;> rfl)) | (simp [*, errW_none, errW_some] <;> rfl), by repeat (first | (with_reducible first | exact HB.out | apply below_alloc | apply pw_below_drewN | apply below_drew1) | exact HB.out)⟩
         ·rw [if_neg c14] at H
          have c14b0 : decide (255 ≤ (wrap64 (x7_10 + 150))) = false := decide_eq_false c14
          clear c14
          obtain rfl := Option.some.inj H
          go_wp2
          go_ret
          exact ⟨by first | rfl | (simp [errW_none, errW_some] <;> rfl) | (simp only [← hji9]; first | rfl | (simp [errW_none, errW_some] <;> rfl)) | (simp [*, errW_none, errW_some] <;> rfl), by repeat (first | (with_reducible first | exact HB.out | apply below_alloc | apply pw_below_drewN | apply below_drew1) | exact HB.out)⟩
end Go.Proofs.YteecekhfpfnepaaDoor.PAll
end

section
namespace Go.Proofs.YteecekhfpfnepaaDoor.PAll
open Go.RowKit Go.Proofs.YteecekhfpfnepaaDoorW.PrintWords Go.Proofs.YteecekhfpfnepaaDoorW.PrintLast Go.Proofs.YteecekhfpfnepaaDoorW.PrintMore
set_option linter.unusedVariables false
set_option linter.unusedSimpArgs false
theorem run39 (n : Int) (w : World) : (callFunc 83 #[.int .u32 n]).run Tryd.prog w = .ok (.value (.float .f32 n.toNat)) w := by
 rw [run_callFunc_extern Tryd.func83 (by kernel_rfl) (by kernel_rfl) (by kernel_rfl) (e := Extern.MathFloatBits.float32frombits) (by kernel_rfl)]; rfl
theorem run38 (n : Nat) (w : World) : (callFunc 82 #[.float .f32 n]).run Tryd.prog w = .ok (.value (.int .u32 n)) w := by
 rw [run_callFunc_extern Tryd.func82 (by kernel_rfl) (by kernel_rfl) (by kernel_rfl) (e := Extern.MathFloatBits.float32bits) (by kernel_rfl)]; rfl
set_option maxHeartbeats 400000 in
theorem of_calls (a : Int) (w : World) : Calls Tryd.prog 61 #[.int .u32 a] w fun e w' => e = .returned (.float .f32 a.toNat) ∧ Drawn0 w w' := by
 have h39 := run39
 go_enter Tryd.func61, Tryd.ntmps61
 go_wp2
 go_ret
 exact ⟨by first | rfl | simp, by repeat (first | exact Drawn0.refl _ | apply Drawn0.step)⟩
/-- The bits of a number, a none as the common one. -/
def backV (x : Nat) : Int := if (FloatKind.f32.format.order x x == some .eq) = true then (x : Int) else 2143289344
set_option maxHeartbeats 400000 in
theorem back_calls (x : Nat) (w : World) : Calls Tryd.prog 60 #[.float .f32 x] w fun e w' => e = .returned (.int .u32 (backV x)) ∧ Drawn0 w w' := by
 have h38 := run38
 unfold backV
 by_cases h : (FloatKind.f32.format.order x x == some .eq) = true
 ·rw [if_pos h]
  have h' : (FloatKind.f32.format.order x x != some .eq) = false := by rw [bne, h]; rfl
  go_enter Tryd.func60, Tryd.ntmps60
  go_wp2
  go_ret
  exact ⟨by first | rfl | simp, by repeat (first | exact Drawn0.refl _ | apply Drawn0.step)⟩
 ·rw [if_neg h]
  have h' : (FloatKind.f32.format.order x x != some .eq) = true := by rw [bne, Bool.eq_false_iff.mpr h]; rfl
  go_enter Tryd.func60, Tryd.ntmps60
  go_wp2
  go_ret
  exact ⟨by first | rfl | simp, by repeat (first | exact Drawn0.refl _ | apply Drawn0.step)⟩
theorem cut_nan (op : Nat) (x y : Nat) (t : Nat) : FloatKind.f32.format.order ((Question.nanBits .f32 x y).cut t) ((Question.nanBits .f32 x y).cut t) = none := by
 have e : (Question.nanBits .f32 x y).cut t = (t % 2) * 2147483648 + 2139095040 + 1 + (t / 2) % 8388607 := rfl
 rw [e]
 have h1 : t % 2 < 2 := Nat.mod_lt _ (by omega)
 have h2 : (t / 2) % 8388607 < 8388607 := Nat.mod_lt _ (by decide)
 generalize t % 2 = a at h1
 generalize (t / 2) % 8388607 = c at h2
 have hr : Ieee.single.read (a * 2147483648 + 2139095040 + 1 + c) = .nan ((a * 2147483648 + 2139095040 + 1 + c) / 2147483648 % 2 == 1) (1 + c) := by
  unfold Ieee.Format.read
  have hs : Ieee.single.signWeight = 2147483648 := by decide
  have hb : Ieee.single.binade = 8388608 := by decide
  have hi : Ieee.single.infRung = 2139095040 := by decide
  simp only [hs, hb, hi]
  have hm : (a * 2147483648 + 2139095040 + 1 + c) % 2147483648 = 2139095041 + c := by omega
  rw [hm, if_neg (by omega), if_neg (by omega), if_neg (by omega)]
  have he : a * 2147483648 + 2139095040 + 1 + c = a * 2147483648 + (2139095041 + c) := by omega
  have hx : 2139095041 + c - 2139095040 = 1 + c := by omega
  rw [hx]
 show (Ieee.single.read _).order (Ieee.single.read _) = none
 rw [hr]
 rfl
def arithV : Option Nat → Int
 | some r => backV r
 | none => 2143289344
def arithR (op : BinOp) (x y : Nat) : Option Nat :=
 match op with
 | .add => FloatKind.f32.format.add x y
 | .mul => FloatKind.f32.format.mul x y
 | .quo => FloatKind.f32.format.div x y
 | _ => none
theorem run_arith (op : BinOp) (hop : op = .add ∨ op = .mul ∨ op = .quo) (x y : Nat) (w : World) : ∃ r m, (binOp op 101 (.float .f32 x) (.float .f32 y)).run Tryd.prog w = .ok (.float .f32 r) (w.drewN m) ∧ backV r = arithV (arithR op x y) := by
 cases h : arithR op x y with
 | some r =>
  refine ⟨r, 0, ?_, rfl⟩
  have : floatBits op .f32 x y = some r := by rcases hop with rfl | rfl | rfl <;> exact h
  exact run_float_arith (P := Tryd.prog) w op 101 .f32 x y r this
 | none =>
  refine ⟨(Question.nanBits .f32 x y).cut (w.tape w.drawn (.nanBits .f32 x y)), 1, ?_, ?_⟩
  ·rcases hop with rfl | rfl | rfl <;> simp only [arithR] at h <;> simp [binOp, Op.floatArith, h, choose, Sem.run, World.drewN]
   all_goals (intro hf; exact absurd hf (by simp [Question.forced]))
  ·unfold backV
   rw [cut_nan 0]
   rfl
end Go.Proofs.YteecekhfpfnepaaDoor.PAll
end

section
namespace Go.Proofs.YteecekhfpfnepaaDoor.PAll
open Go.RowKit Go.Proofs.YteecekhfpfnepaaDoorW.PrintWords Go.Proofs.YteecekhfpfnepaaDoorW.PrintLast Go.Proofs.YteecekhfpfnepaaDoorW.PrintMore
set_option linter.unusedVariables false
set_option linter.unusedSimpArgs false
def single_Add.f (a0 a1 : Int) : Option Int := some (arithV (arithR .add a0.toNat a1.toNat))
set_option maxHeartbeats 800000 in
theorem single_Add.calls (a0 a1 : Int) (r : Int) (w : World) (h : single_Add.f a0 a1 = some r) :
  Calls Tryd.prog 38 #[.int .u32 a0, .int .u32 a1] w fun e w' => e = .returned (.int .u32 r) ∧ Drawn0 w w' := by
 obtain rfl := Option.some.inj h
 clear h
 obtain ⟨x, hx⟩ : ∃ x, a0.toNat = x := ⟨_, rfl⟩
 obtain ⟨y, hy⟩ : ∃ y, a1.toNat = y := ⟨_, rfl⟩
 rw [hx, hy]
 have H0 := Aside0.mk (fun W => of_calls a0 W)
 have H1 := Aside0.mk (fun W => of_calls a1 W)
 rw [hx] at H0
 rw [hy] at H1
 clear hx hy
 have HA := Aside0.mk (fun W => run_arith .add (by simp) x y W)
 obtain ⟨V, hV⟩ : ∃ V, arithV (arithR .add x y) = V := ⟨_, rfl⟩
 rw [hV] at HA ⊢
 clear hV
 go_enter Tryd.func38, Tryd.ntmps38
 go_wp2_with (first | (go_at_call 61; (with_reducible refine (H0.out _).mono ?_); rintro e w' ⟨rfl, ⟨m1, rfl⟩⟩) | (go_at_call 61; (with_reducible refine (H1.out _).mono ?_); rintro e w' ⟨rfl, ⟨m2, rfl⟩⟩))
 obtain ⟨r, q, hrun, hback⟩ := HA.out (w.drewN (m1 + m2))
 rw [hrun, World.drewN_drewN]
 have HBk := Aside0.mk hback
 clear HA H0 H1 hrun hback
 go_wp2_with (go_at_call 60; (with_reducible refine (back_calls r _).mono ?_); rintro e w' ⟨rfl, ⟨m3, rfl⟩⟩)
 go_ret
 exact ⟨by rw [← HBk.out]; first | rfl | simp, by repeat (first | exact Drawn0.refl _ | apply Drawn0.step | exact ⟨⟨_, rfl⟩⟩)⟩
end Go.Proofs.YteecekhfpfnepaaDoor.PAll
end

section
namespace Go.Proofs.YteecekhfpfnepaaDoor.PAll
open Go.RowKit Go.Proofs.YteecekhfpfnepaaDoorW.PrintWords Go.Proofs.YteecekhfpfnepaaDoorW.PrintLast Go.Proofs.YteecekhfpfnepaaDoorW.PrintMore
attribute [local go_sem] max2_int min2_int max_two min_two max_three min_three max_four min_four   -- for this text's walks alone
set_option linter.unusedVariables false
set_option linter.unusedSimpArgs false
def heraldlaw03_awake.f (k : Nat)  : Option (Bool) := (single_Add.f 1065353216 1065353216).bind fun t103 => (if t103 = 1073741824 then ((single_Near.f k 3 (-1)).bind fun t104 => (some (t104 == 1069547520))) else (some false))
set_option maxHeartbeats 8000000 in
set_option maxRecDepth 100000 in
theorem heraldlaw03_awake.calls (k : Nat)  (r : Bool) (w : World) (h : heraldlaw03_awake.f k  = some r) :
  Calls Tryd.prog 15 #[] w fun e w' => e = .returned (.bool r) ∧ Below w.heap.size w w' := by
 have HB := Aside0.mk (Below.refl w.heap.size w)
 have H : ((single_Add.f 1065353216 1065353216).bind fun t103 => (if t103 = 1073741824 then ((single_Near.f k 3 (-1)).bind fun t104 => (some (t104 == 1069547520))) else (some false))) = some r := h
 clear h
 replace H := Option.bind_eq_some_iff.mp H
 obtain ⟨t103, A10, H⟩ := H
 replace H : (if t103 = 1073741824 then ((single_Near.f k 3 (-1)).bind fun t104 => (some (t104 == 1069547520))) else (some false)) = some r := H
 have A1 := Aside0.mk A10
 clear A10
 by_cases c2 : t103 = 1073741824
 ·rw [if_pos c2] at H
  have c2b0 : (t103 == 1073741824) = true := beq_iff_eq.mpr c2
  have c2b1 : (t103 != 1073741824) = false := bne_eq_false_iff_eq.mpr c2
  clear c2
  replace H := Option.bind_eq_some_iff.mp H
  obtain ⟨t104, A30, H⟩ := H
  replace H : (some (t104 == 1069547520)) = some r := H
  have A3 := Aside0.mk A30
  clear A30
  obtain rfl := Option.some.inj H
  go_enter Tryd.func15, Tryd.ntmps15
  go_wp2_with (first | ((with_reducible refine gate_callee (f := 38) rfl ?_); refine goesL_ (some 1) rfl rfl Tryd.func38 (by kernel_rfl) rfl #[.int .u32 1065353216, .int .u32 1065353216] rfl (by (try simp only [List.map_toArray, List.map_cons, List.map_nil]); first | done | rfl | (simp only [List.length_drop, List.length_take]; rfl)) ?_; (with_reducible refine (single_Add.calls 1065353216 1065353216 t103 _ A1.out).mono ?_); rintro e w' ⟨rfl, ⟨nd, rfl⟩⟩; refine ⟨_, rfl, ?_⟩) | (go_at_call 16; (with_reducible refine (single_Near.calls k 3 (-1) t104 _ A3.out).mono ?_); rintro e w4 ⟨rfl, hb⟩; have n0_ := Aside0.mk (below_step (by repeat (first | (with_reducible first | exact HB.out | apply below_alloc | apply pw_below_drewN | apply below_drew1) | exact HB.out)) hb); clear HB; have HB := n0_; clear n0_; (try clear hb); (try clear hb2); (try clear hk); (try clear hi)))
  go_ret
  exact ⟨by first | rfl | (simp [errW_none, errW_some] <;> rfl) | (simp [*, errW_none, errW_some] <;> rfl), by repeat (first | (with_reducible first | exact HB.out | apply below_alloc | apply pw_below_drewN | apply below_drew1) | exact HB.out)⟩
 ·rw [if_neg c2] at H
  have c2b0 : (t103 == 1073741824) = false := beq_eq_false_iff_ne.mpr c2
  have c2b1 : (t103 != 1073741824) = true := bne_iff_ne.mpr c2
  obtain rfl := Option.some.inj H
  go_enter Tryd.func15, Tryd.ntmps15
  go_wp2_with (first | ((with_reducible refine gate_callee (f := 38) rfl ?_); refine goesL_ (some 1) rfl rfl Tryd.func38 (by kernel_rfl) rfl #[.int .u32 1065353216, .int .u32 1065353216] rfl (by (try simp only [List.map_toArray, List.map_cons, List.map_nil]); first | done | rfl | (simp only [List.length_drop, List.length_take]; rfl)) ?_; (with_reducible refine (single_Add.calls 1065353216 1065353216 t103 _ A1.out).mono ?_); rintro e w' ⟨rfl, ⟨nd, rfl⟩⟩; refine ⟨_, rfl, ?_⟩))
  go_ret
  exact ⟨by first | rfl | (simp [errW_none, errW_some] <;> rfl) | (simp [*, errW_none, errW_some] <;> rfl), by repeat (first | (with_reducible first | exact HB.out | apply below_alloc | apply pw_below_drewN | apply below_drew1) | exact HB.out)⟩
end Go.Proofs.YteecekhfpfnepaaDoor.PAll
end

section
namespace Go.Proofs.YteecekhfpfnepaaDoor.PAll
open Go.RowKit Go.Proofs.YteecekhfpfnepaaDoorW.PrintWords Go.Proofs.YteecekhfpfnepaaDoorW.PrintLast Go.Proofs.YteecekhfpfnepaaDoorW.PrintMore
attribute [local go_sem] max2_int min2_int max_two min_two max_three min_three max_four min_four   -- for this text's walks alone
set_option linter.unusedVariables false
set_option linter.unusedSimpArgs false
mutual
def heraldref03_scan.j0 : Nat → ByteArray → Int → Bool → Option (Bool × List Int × Int × Int × Int)
 | 0, _, _, _ => none
 | k + 1, x0, x7, x8 => if x8 = true then (heraldref03_scan.j1 k x0 (wrap64 (x7 + 1)) x8) else (heraldref03_scan.j1 k x0 x7 x8)
def heraldref03_scan.j1 : Nat → ByteArray → Int → Bool → Option (Bool × List Int × Int × Int × Int)
 | 0, _, _, _ => none
 | k + 1, x0, x7, x8 => heraldref03_scan.l0 k x0 x7 x8 (([] : List Int)) 0 0 x7
def heraldref03_scan.j3 : Nat → ByteArray → Int → Bool → List Int → Int → Int → Int → Option (Bool × List Int × Int × Int × Int)
 | 0, _, _, _, _, _, _, _ => none
 | k + 1, x0, x7, x8, x9, x10, x11, x12 => if x7 = x12 then (some (x8, x9, 0, 0, x7)) else (if x7 < (x0.size : Int) then (if 0 ≤ x7 then (heraldref03_scan.j4 k x0 x7 x8 x9 x10 x11 ((bt x0 x7) == 46)) else (none)) else (heraldref03_scan.j4 k x0 x7 x8 x9 x10 x11 false))
def heraldref03_scan.j4 : Nat → ByteArray → Int → Bool → List Int → Int → Int → Bool → Option (Bool × List Int × Int × Int × Int)
 | 0, _, _, _, _, _, _, _ => none
 | k + 1, x0, x7, x8, x9, x10, x11, x70 => if x70 = true then (heraldref03_scan.l1 k x0 (wrap64 (x7 + 1)) x8 x9 x11 (wrap64 (x7 + 1))) else (heraldref03_scan.j6 k x0 x7 x8 x9 x10 x11)
def heraldref03_scan.j6 : Nat → ByteArray → Int → Bool → List Int → Int → Int → Option (Bool × List Int × Int × Int × Int)
 | 0, _, _, _, _, _, _ => none
 | k + 1, x0, x7, x8, x9, x10, x11 => if x7 < (x0.size : Int) then (if 0 ≤ x7 then (if (bt x0 x7) = 101 then (heraldref03_scan.j7 k x0 x7 x8 x9 x10 x11 true) else (heraldref03_scan.j7 k x0 x7 x8 x9 x10 x11 ((bt x0 x7) == 69))) else (none)) else (heraldref03_scan.j7 k x0 x7 x8 x9 x10 x11 false)
def heraldref03_scan.j7 : Nat → ByteArray → Int → Bool → List Int → Int → Int → Bool → Option (Bool × List Int × Int × Int × Int)
 | 0, _, _, _, _, _, _, _ => none
 | k + 1, x0, x7, x8, x9, x10, x11, x124 => if x124 = true then (if (wrap64 (x7 + 1)) < (x0.size : Int) then (if 0 ≤ (wrap64 (x7 + 1)) then (heraldref03_scan.j8 k x0 (wrap64 (x7 + 1)) x8 x9 x10 x11 ((bt x0 (wrap64 (x7 + 1))) == 45)) else (none)) else (heraldref03_scan.j8 k x0 (wrap64 (x7 + 1)) x8 x9 x10 x11 false)) else (if x7 < (x0.size : Int) then (some (x8, x9, 0, 0, x7)) else (some (x8, x9, x10, x11, (-1))))
def heraldref03_scan.j8 : Nat → ByteArray → Int → Bool → List Int → Int → Int → Bool → Option (Bool × List Int × Int × Int × Int)
 | 0, _, _, _, _, _, _, _ => none
 | k + 1, x0, x7, x8, x9, x10, x11, x13 => if x7 < (x0.size : Int) then (if 0 ≤ x7 then (if (bt x0 x7) = 45 then (heraldref03_scan.j9 k x0 x7 x8 x9 x10 x11 x13 true) else (heraldref03_scan.j9 k x0 x7 x8 x9 x10 x11 x13 ((bt x0 x7) == 43))) else (none)) else (heraldref03_scan.j9 k x0 x7 x8 x9 x10 x11 x13 false)
def heraldref03_scan.j9 : Nat → ByteArray → Int → Bool → List Int → Int → Int → Bool → Bool → Option (Bool × List Int × Int × Int × Int)
 | 0, _, _, _, _, _, _, _, _ => none
 | k + 1, x0, x7, x8, x9, x10, x11, x13, x152 => if x152 = true then (heraldref03_scan.j10 k x0 (wrap64 (x7 + 1)) x8 x9 x10 x11 x13) else (heraldref03_scan.j10 k x0 x7 x8 x9 x10 x11 x13)
def heraldref03_scan.j10 : Nat → ByteArray → Int → Bool → List Int → Int → Int → Bool → Option (Bool × List Int × Int × Int × Int)
 | 0, _, _, _, _, _, _, _ => none
 | k + 1, x0, x7, x8, x9, x10, x11, x13 => heraldref03_scan.l2 k x0 x7 x8 x9 x10 x11 x7 x13
def heraldref03_scan.l2 : Nat → ByteArray → Int → Bool → List Int → Int → Int → Int → Bool → Option (Bool × List Int × Int × Int × Int)
 | 0, _, _, _, _, _, _, _, _ => none
 | k + 1, x0, x7, x8, x9, x10, x11, x12, x13 => if x7 < (x0.size : Int) then (if 0 ≤ x7 then (if (bt x0 x7) ≥ 48 then (heraldref03_scan.j12 k x0 x7 x8 x9 x10 x11 x12 x13 (decide ((bt x0 x7) ≤ 57))) else (heraldref03_scan.j12 k x0 x7 x8 x9 x10 x11 x12 x13 false)) else (none)) else (heraldref03_scan.j12 k x0 x7 x8 x9 x10 x11 x12 x13 false)
def heraldref03_scan.j12 : Nat → ByteArray → Int → Bool → List Int → Int → Int → Int → Bool → Bool → Option (Bool × List Int × Int × Int × Int)
 | 0, _, _, _, _, _, _, _, _, _ => none
 | k + 1, x0, x7, x8, x9, x10, x11, x12, x13, x171 => if x171 = true then (if x11 < 100000 then (if 0 ≤ x7 then (if x7 < (x0.size : Int) then (heraldref03_scan.l2 k x0 (wrap64 (x7 + 1)) x8 x9 x10 (wrap64 ((wrap64 (10 * x11)) + (((bt x0 x7) - 48) % 256))) x12 x13) else (none)) else (none)) else (heraldref03_scan.l2 k x0 (wrap64 (x7 + 1)) x8 x9 x10 x11 x12 x13)) else (if x7 = x12 then (some (x8, x9, 0, 0, x7)) else (if x13 = true then (if x7 < (x0.size : Int) then (some (x8, x9, 0, 0, x7)) else (some (x8, x9, x10, wrap64 (-x11), (-1)))) else (if x7 < (x0.size : Int) then (some (x8, x9, 0, 0, x7)) else (some (x8, x9, x10, x11, (-1))))))
def heraldref03_scan.l1 : Nat → ByteArray → Int → Bool → List Int → Int → Int → Option (Bool × List Int × Int × Int × Int)
 | 0, _, _, _, _, _, _ => none
 | k + 1, x0, x7, x8, x9, x11, x12 => if x7 < (x0.size : Int) then (if 0 ≤ x7 then (if (bt x0 x7) ≥ 48 then (if (bt x0 x7) ≤ 57 then (if x9.length < 17592186044416 then (heraldref03_scan.l1 k x0 (wrap64 (x7 + 1)) x8 (x9 ++ [((bt x0 x7) - 48) % 256]) x11 x12) else (none)) else (if x7 = x12 then (some (x8, x9, 0, 0, x7)) else (heraldref03_scan.j6 k x0 x7 x8 x9 (wrap64 (x7 - x12)) x11))) else (if x7 = x12 then (some (x8, x9, 0, 0, x7)) else (heraldref03_scan.j6 k x0 x7 x8 x9 (wrap64 (x7 - x12)) x11))) else (none)) else (if x7 = x12 then (some (x8, x9, 0, 0, x7)) else (heraldref03_scan.j6 k x0 x7 x8 x9 (wrap64 (x7 - x12)) x11))
def heraldref03_scan.l0 : Nat → ByteArray → Int → Bool → List Int → Int → Int → Int → Option (Bool × List Int × Int × Int × Int)
 | 0, _, _, _, _, _, _, _ => none
 | k + 1, x0, x7, x8, x9, x10, x11, x12 => if x7 < (x0.size : Int) then (if 0 ≤ x7 then (if (bt x0 x7) ≥ 48 then (if (bt x0 x7) ≤ 57 then (if x9.length < 17592186044416 then (heraldref03_scan.l0 k x0 (wrap64 (x7 + 1)) x8 (x9 ++ [((bt x0 x7) - 48) % 256]) x10 x11 x12) else (none)) else (heraldref03_scan.j3 k x0 x7 x8 x9 x10 x11 x12)) else (heraldref03_scan.j3 k x0 x7 x8 x9 x10 x11 x12)) else (none)) else (heraldref03_scan.j3 k x0 x7 x8 x9 x10 x11 x12)
end
def heraldref03_scan.f (k : Nat) (a0 : ByteArray) : Option (Bool × List Int × Int × Int × Int) := if 0 < (a0.size : Int) then (heraldref03_scan.j0 k a0 0 ((bt a0 0) == 45)) else (heraldref03_scan.j0 k a0 0 false)
set_option maxHeartbeats 8000000 in
set_option maxRecDepth 100000 in
theorem heraldref03_scan.calls (k : Nat) (a0 : ByteArray) (r1 : Bool) (r2 : List Int) (r3 : Int) (r4 : Int) (r5 : Int) (w : World) (h : heraldref03_scan.f k a0 = some (r1, r2, r3, r4, r5)) :
  Calls Tryd.prog 49 #[.string a0] w fun e w' => ∃ v1_ : Value, e = .returned (.tuple #[.bool r1, v1_, .int .i64 r3, .int .i64 r4, .int .i64 r5]) ∧ Kd.R (Kd.int .i64) 3 w' w.heap.size (fun _ => True) v1_ r2 ∧ Below w.heap.size w w' := by
 have HB := Aside0.mk (Below.refl w.heap.size w)
 have H : (if 0 < (a0.size : Int) then (heraldref03_scan.j0 k a0 0 ((bt a0 0) == 45)) else (heraldref03_scan.j0 k a0 0 false)) = some (r1, r2, r3, r4, r5) := h
 clear h
 have HC2 := Aside0.mk H
 clear H
 go_enter Tryd.func49, Tryd.ntmps49
 go_upto_region 2 with (fail)
 go_cut [8] (fun v8 wc => ∃ (kq : Nat) (x8_1 : Bool), v8 = .bool x8_1 ∧ Aside0 (heraldref03_scan.j0 kq a0 0 x8_1 = some (r1, r2, r3, r4, r5)) ∧ Aside0 (kq ≤ k) ∧ Aside0 (Below w.heap.size w wc))
 case first =>
  have H := HC2.out
  clear HC2
  by_cases c3 : 0 < (a0.size : Int)
  ·rw [if_pos c3] at H
   have c3b0 : decide (0 < (a0.size : Int)) = true := decide_eq_true c3
   have c3b1 : decide (0 < a0.size) = true := decide_eq_true (by omega)
   clear c3
   (first | rw [c3b0] | (simp only [i64_w, i32_w]; rw [c3b0]) | skip)
   as_aux_lemma =>
    have H' := Aside0.mk H
    clear H
    have p4 : 0 ≤ (0 : Int) := (by omega)
    have q4 : 0 < a0.size := (by have : (0 : Int) < (a0.size : Int) := of_decide_eq_true (by first | (with_reducible assumption) | assumption); omega)
    have hx4 : ∀ h : 0 < a0.size, ((a0[0]'h).toNat : Int) = bt a0 0 := bt_at a0 0
    clear p4
    have qi4 : (0 < (a0.size : Int)) = True := eq_true (of_decide_eq_true (by first | (with_reducible assumption) | assumption))
    replace q4 := eq_true q4
    go_wp2
    go_meet
    case rel => exact ⟨_, (((bt a0 0) == 45)), (by first | rfl | (simp; done) | (simp [*]; done) | (simp [i64_w]; done) | (simp [*, i64_w]; done) | (unfold wrap64; simp; done) | (unfold wrap64; omega)), (by first | exact H' | (rw [hji47]; exact H') | (rw [hji52]; exact H')), ⟨by first | omega | exact Nat.le_refl _⟩, ⟨by repeat (first | (with_reducible first | exact HB.out | apply below_alloc | apply pw_below_drewN | apply below_drew1) | exact HB.out)⟩⟩
  ·rw [if_neg c3] at H
   have c3b0 : decide (0 < (a0.size : Int)) = false := decide_eq_false c3
   have c3b1 : decide (0 < a0.size) = false := decide_eq_false (by omega)
   clear c3
   (first | rw [c3b0] | (simp only [i64_w, i32_w]; rw [c3b0]) | skip)
   as_aux_lemma =>
    have H' := Aside0.mk H
    clear H
    go_wp2
    go_meet
    case rel => exact ⟨_, (false), (by first | rfl | (simp; done) | (simp [*]; done) | (simp [i64_w]; done) | (simp [*, i64_w]; done) | (unfold wrap64; simp; done) | (unfold wrap64; omega)), (by first | exact H' | (rw [hji47]; exact H') | (rw [hji52]; exact H')), ⟨by first | omega | exact Nat.le_refl _⟩, ⟨by repeat (first | (with_reducible first | exact HB.out | apply below_alloc | apply pw_below_drewN | apply below_drew1) | exact HB.out)⟩⟩
 case rest =>
  clear HC2
  try clear p2
  try clear c3
  try clear c3b0
  try clear c3b1
  try clear c4
  try clear p4
  try clear q4
  try clear hx4
  try clear qi4
  try clear p4
  try clear q4
  obtain ⟨kq, x8_1, rfl, HA, HJ1, HB⟩ := hcut
  cases kq with
  | zero => exact absurd HA.out (by simp [heraldref03_scan.j0])
  | succ kj1 =>
   have H := HA.out
   clear HA
   simp only [heraldref03_scan.j0] at H
   have HC5 := Aside0.mk H
   clear H
   go_upto_if 24 with (fail)
   go_cut [7] (fun v7 wc => ∃ (kq : Nat) (x7_4 : Int), v7 = .int .i64 x7_4 ∧ Aside0 (heraldref03_scan.j1 kq a0 x7_4 x8_1 = some (r1, r2, r3, r4, r5)) ∧ Aside0 (kq ≤ kj1) ∧ Aside0 (Below w.heap.size w wc))
   case first =>
    have H := HC5.out
    clear HC5
    by_cases c6 : x8_1 = true
    ·subst c6
     have H1 : (heraldref03_scan.j1 kj1 a0 (wrap64 (0 + 1)) true) = some (r1, r2, r3, r4, r5) := by rw [if_pos rfl] at H; exact H
     clear H
     have H := H1
     clear H1
     as_aux_lemma =>
      have H' := Aside0.mk H
      clear H
      go_wp2
      go_meet
      case rel => exact ⟨_, (wrap64 (0 + 1)), (by first | rfl | (simp; done) | (simp [*]; done) | (simp [i64_w]; done) | (simp [*, i64_w]; done) | (unfold wrap64; simp; done) | (unfold wrap64; omega)), (by first | exact H' | (rw [hji47]; exact H') | (rw [hji52]; exact H')), ⟨by have := HJ1.out; first | omega | exact Nat.le_refl _⟩, ⟨by repeat (first | (with_reducible first | exact HB.out | apply below_alloc | apply pw_below_drewN | apply below_drew1) | exact HB.out)⟩⟩
    ·replace c6 := Bool.eq_false_iff.mpr c6
     subst c6
     have H1 : (heraldref03_scan.j1 kj1 a0 0 false) = some (r1, r2, r3, r4, r5) := by rw [if_neg (show ¬ (false = true) by decide)] at H; exact H
     clear H
     have H := H1
     clear H1
     as_aux_lemma =>
      have H' := Aside0.mk H
      clear H
      go_wp2
      go_meet
      case rel => exact ⟨_, (0), (by first | rfl | (simp; done) | (simp [*]; done) | (simp [i64_w]; done) | (simp [*, i64_w]; done) | (unfold wrap64; simp; done) | (unfold wrap64; omega)), (by first | exact H' | (rw [hji47]; exact H') | (rw [hji52]; exact H')), ⟨by have := HJ1.out; first | omega | exact Nat.le_refl _⟩, ⟨by repeat (first | (with_reducible first | exact HB.out | apply below_alloc | apply pw_below_drewN | apply below_drew1) | exact HB.out)⟩⟩
   case rest =>
    clear HC5
    try clear p2
    try clear c3
    try clear c3b0
    try clear c3b1
    try clear c4
    try clear p4
    try clear q4
    try clear hx4
    try clear qi4
    try clear c6
    try clear p6
    try clear p2
    try clear p4
    try clear q4
    obtain ⟨kq, x7_4, rfl, HA, HJ4, HB⟩ := hcut
    cases kq with
    | zero => exact absurd HA.out (by simp [heraldref03_scan.j1])
    | succ kj4 =>
     have H := HA.out
     clear HA
     simp only [heraldref03_scan.j1] at H
     obtain ⟨y223, hy223⟩ : ∃ y_ : List Int, y_ = (([] : List Int)) := ⟨_, rfl⟩
     replace H : (heraldref03_scan.l0 kj4 a0 x7_4 x8_1 y223 0 0 x7_4) = some (r1, r2, r3, r4, r5) := by first | (rw [hy223]; with_reducible exact H) | (have H2_ := (Option.bind_some _ _).symm.trans H; rw [hy223]; with_reducible exact H2_) | (have H2_ := (Option.bind_some _ _).symm.trans H; with_reducible exact H2_) | with_reducible exact H | (rw [hy223]; exact H) | exact H
     have Ny223 := Aside0.mk hy223
     clear hy223
     have HC7 := Aside0.mk H
     clear H
     go_upto_block 0 with (first | ((with_reducible refine gate_dst (N := 27) rfl ?_); refine Kd.R_lit (Kd.int .i64) _ 3 ?hg (N := 27) ?hd (xs := ([] : List Int)) (inner := []) (ok := fun _ => True) (okp := fun _ => True) ?hr ?hp (fun _ hk => hk) trivial (Below.refl _ _) (Nat.le_refl _) (by simp) ?_; (case hd => rfl); (case hg => rfl); (case hr => first | (go_simp; done) | (go_simp; rfl)); (case hp => exact (Reps.none _ _)); intro v224 w8 ho9 hb hg_ hnew_; clear hg_ hnew_; (first | rw [← Ny223.out] at ho9 | (simp only [Int.reduceToNat] at ho9; rw [← Ny223.out] at ho9)); have n0_ := Aside0.mk (Kd.R_lower ho9 (below_size (by repeat (first | (with_reducible first | exact HB.out | apply below_alloc | apply pw_below_drewN | apply below_drew1) | exact HB.out)))); have n1_ := Aside0.mk (below_step (by repeat (first | (with_reducible first | exact HB.out | apply below_alloc | apply pw_below_drewN | apply below_drew1) | exact HB.out)) hb); clear HB; have HO225 := n0_; have HB := n1_; clear n0_ n1_; clear hb ho9))
     (try simp only [Act.put, List.setIfInBounds_toArray, List.set_cons_zero, List.set_cons_succ])
     go_cut [7, 9] (fun v7 v9 wc => ∃ (kq : Nat) (x7_6 : Int) (x9_6 : List Int), v7 = .int .i64 x7_6 ∧ Aside0 (heraldref03_scan.j3 kq a0 x7_6 x8_1 x9_6 0 0 x7_4 = some (r1, r2, r3, r4, r5)) ∧ Aside0 (kq ≤ kj4) ∧ Aside0 (Kd.R (Kd.int .i64) 3 wc w.heap.size (fun _ => True) v9 x9_6) ∧ Aside0 (Below w.heap.size w wc))
     case first =>
      have H := HC7.out
      clear HC7
      have H' := Aside0.mk H
      clear H
      go_wp2
      go_loopg [7, 9] kj4 (fun kq v7 v9 w' => ∃ (x7_3 : Int) (x9_3 : List Int), v7 = .int .i64 x7_3 ∧ Aside0 (heraldref03_scan.l0 kq a0 x7_3 x8_1 x9_3 0 0 x7_4 = some (r1, r2, r3, r4, r5)) ∧ Aside0 (kq ≤ kj4) ∧ Aside0 (Kd.R (Kd.int .i64) 3 w' w.heap.size (fun _ => True) v9 x9_3) ∧ Aside0 (Below w.heap.size w w'))
      case atStart => exact ⟨(x7_4), (y223), (by first | rfl | (simp; done) | (simp [*]; done) | (simp [i64_w]; done) | (simp [*, i64_w]; done) | (unfold wrap64; simp; done) | (unfold wrap64; omega)), H', ⟨Nat.le_refl _⟩, ⟨by (with_reducible repeat (first | apply Kd.R_alloc | apply Kd.R_drewN | apply Kd.R_drew)); exact HO225.out⟩, ⟨by repeat (first | (with_reducible first | exact HB.out | apply below_alloc | apply pw_below_drewN | apply below_drew1) | exact HB.out)⟩⟩
      case round =>
       clear H'
       try clear p2
       try clear c3
       try clear c3b0
       try clear c3b1
       try clear c4
       try clear p4
       try clear q4
       try clear hx4
       try clear qi4
       try clear c6
       try clear p6
       try clear p2
       try clear p4
       try clear p6
       try clear q4
       obtain ⟨x7_3, x9_3, rfl, HA, HK3, HO_9, HB⟩ := hrel
       cases gk with
       | zero => exact absurd HA.out (by simp [heraldref03_scan.l0])
       | succ k3 =>
        have H := HA.out
        clear HA
        simp only [heraldref03_scan.l0] at H
        by_cases c10 : x7_3 < (a0.size : Int)
        ·rw [if_pos c10] at H
         have c10b0 : decide (x7_3 < (a0.size : Int)) = true := decide_eq_true c10
         clear c10
         (first | rw [c10b0] | (simp only [i64_w, i32_w]; rw [c10b0]) | skip)
         by_cases c11 : 0 ≤ x7_3
         ·rw [if_pos c11] at H
          have c11b0 : decide (0 ≤ x7_3) = true := decide_eq_true c11
          clear c11
          by_cases c13 : (bt a0 x7_3) ≥ 48
          ·rw [if_pos c13] at H
           have c13b0 : decide (48 ≤ (bt a0 x7_3)) = true := decide_eq_true c13
           clear c13
           by_cases c15 : (bt a0 x7_3) ≤ 57
           ·rw [if_pos c15] at H
            have c15b0 : decide ((bt a0 x7_3) ≤ 57) = true := decide_eq_true c15
            clear c15
            by_cases c17 : x9_3.length < 17592186044416
            ·rw [if_pos c17] at H
             have LMc17 := Aside0.mk c17
             clear c17
             obtain ⟨y226, hy226⟩ : ∃ y_ : List Int, y_ = (x9_3 ++ [((bt a0 x7_3) - 48) % 256]) := ⟨_, rfl⟩
             replace H : (heraldref03_scan.l0 k3 a0 (wrap64 (x7_3 + 1)) x8_1 y226 0 0 x7_4) = some (r1, r2, r3, r4, r5) := by first | (rw [hy226]; with_reducible exact H) | (have H2_ := (Option.bind_some _ _).symm.trans H; rw [hy226]; with_reducible exact H2_) | (have H2_ := (Option.bind_some _ _).symm.trans H; with_reducible exact H2_) | with_reducible exact H | (rw [hy226]; exact H) | exact H
             have Ny226 := Aside0.mk hy226
             clear hy226
             as_aux_lemma =>
              have H' := Aside0.mk H
              clear H
              have p12 : 0 ≤ (x7_3 : Int) := of_decide_eq_true (by first | (with_reducible assumption) | assumption)
              have q12 : x7_3 < (a0.size : Int) := of_decide_eq_true (by first | (with_reducible assumption) | assumption)
              have hx12 := bt_at a0 x7_3
              replace p12 := eq_true p12
              replace q12 := eq_true q12
              have p14 : 0 ≤ (x7_3 : Int) := of_decide_eq_true (by first | (with_reducible assumption) | assumption)
              have q14 : x7_3 < (a0.size : Int) := of_decide_eq_true (by first | (with_reducible assumption) | assumption)
              have hx14 := bt_at a0 x7_3
              replace p14 := eq_true p14
              replace q14 := eq_true q14
              have p16 : 0 ≤ (x7_3 : Int) := of_decide_eq_true (by first | (with_reducible assumption) | assumption)
              have q16 : x7_3 < (a0.size : Int) := of_decide_eq_true (by first | (with_reducible assumption) | assumption)
              have hx16 := bt_at a0 x7_3
              replace p16 := eq_true p16
              replace q16 := eq_true q16
              go_wp2_with (first | ((with_reducible refine gate_builtin (b := .append) (xs := #[.tmp 45, .tmp 51]) rfl ?_); at_builtin; refine Kd.R_append (Kd.int .i64) (w0 := w) w.heap.size rfl (.tmp 45) (.tmp 51) 86 3 (.int .i64 0) 8 rfl Tryd.underlying86 info3 rfl (by decide) (by omega) u9 x9_3 (((bt a0 x7_3) - 48) % 256) [.int .i64 (((bt a0 x7_3) - 48) % 256)] (fun _ => True) (fun _ => False) rfl rfl ?aP (fun _ hk => hk.elim) ?aF ?aO ?aB ?aS ?aL ?_; (case aP => exact rfl); (case aB => exact (by repeat (first | (with_reducible first | exact HB.out | apply below_alloc | apply pw_below_drewN | apply below_drew1) | exact HB.out))); (case aF => exact (fun _ _ => trivial)); (case aO => exact (by (with_reducible repeat (first | apply Kd.R_alloc | apply Kd.R_drewN | apply Kd.R_drew)); exact HO_9.out)); (case aS => exact (below_size (by repeat (first | (with_reducible first | exact HB.out | apply below_alloc | apply pw_below_drewN | apply below_drew1) | exact HB.out)))); (case aL => have := LMc17.out; omega); intro v227 w18 ho hb hg hat; rw [← Ny226.out] at ho; have n0_ := Aside0.mk (hb); have n1_ := Aside0.mk (ho); clear HB; clear HO_9; have HB := n0_; have HO228 := n1_; clear n0_ n1_; clear ho hb hg hat))
              go_roundg k3
              case measure => have := HJ1.out; have := HJ4.out; have := HK3.out; omega
              case rel => exact ⟨(wrap64 (x7_3 + 1)), (y226), (by first | rfl | (simp; done) | (simp [*]; done) | (simp [i64_w]; done) | (simp [*, i64_w]; done) | (unfold wrap64; simp; done) | (unfold wrap64; omega)), (by first | exact H' | (rw [hji47]; exact H') | (rw [hji52]; exact H')), ⟨by have := HJ1.out; have := HJ4.out; have := HK3.out; omega⟩, ⟨by (with_reducible repeat (first | apply Kd.R_alloc | apply Kd.R_drewN | apply Kd.R_drew)); exact HO228.out⟩, ⟨by repeat (first | (with_reducible first | exact HB.out | apply below_alloc | apply pw_below_drewN | apply below_drew1) | exact HB.out)⟩⟩
            ·rw [if_neg c17] at H
             exact absurd H (by simp)
           ·rw [if_neg c15] at H
            have c15b0 : decide ((bt a0 x7_3) ≤ 57) = false := decide_eq_false c15
            clear c15
            as_aux_lemma =>
             have H' := Aside0.mk H
             clear H
             have p12 : 0 ≤ (x7_3 : Int) := of_decide_eq_true (by first | (with_reducible assumption) | assumption)
             have q12 : x7_3 < (a0.size : Int) := of_decide_eq_true (by first | (with_reducible assumption) | assumption)
             have hx12 := bt_at a0 x7_3
             replace p12 := eq_true p12
             replace q12 := eq_true q12
             have p14 : 0 ≤ (x7_3 : Int) := of_decide_eq_true (by first | (with_reducible assumption) | assumption)
             have q14 : x7_3 < (a0.size : Int) := of_decide_eq_true (by first | (with_reducible assumption) | assumption)
             have hx14 := bt_at a0 x7_3
             replace p14 := eq_true p14
             replace q14 := eq_true q14
             go_wp2
             go_meet
             case rel => exact ⟨_, (x7_3), (x9_3), (by first | rfl | (simp; done) | (simp [*]; done) | (simp [i64_w]; done) | (simp [*, i64_w]; done) | (unfold wrap64; simp; done) | (unfold wrap64; omega)), (by first | exact H' | (rw [hji47]; exact H') | (rw [hji52]; exact H')), ⟨by have := HJ1.out; have := HJ4.out; have := HK3.out; first | omega | exact Nat.le_refl _⟩, ⟨by (with_reducible repeat (first | apply Kd.R_alloc | apply Kd.R_drewN | apply Kd.R_drew)); exact HO_9.out⟩, ⟨by repeat (first | (with_reducible first | exact HB.out | apply below_alloc | apply pw_below_drewN | apply below_drew1) | exact HB.out)⟩⟩
          ·rw [if_neg c13] at H
           have c13b0 : decide (48 ≤ (bt a0 x7_3)) = false := decide_eq_false c13
           clear c13
           as_aux_lemma =>
            have H' := Aside0.mk H
            clear H
            have p12 : 0 ≤ (x7_3 : Int) := of_decide_eq_true (by first | (with_reducible assumption) | assumption)
            have q12 : x7_3 < (a0.size : Int) := of_decide_eq_true (by first | (with_reducible assumption) | assumption)
            have hx12 := bt_at a0 x7_3
            replace p12 := eq_true p12
            replace q12 := eq_true q12
            go_wp2
            go_meet
            case rel => exact ⟨_, (x7_3), (x9_3), (by first | rfl | (simp; done) | (simp [*]; done) | (simp [i64_w]; done) | (simp [*, i64_w]; done) | (unfold wrap64; simp; done) | (unfold wrap64; omega)), (by first | exact H' | (rw [hji47]; exact H') | (rw [hji52]; exact H')), ⟨by have := HJ1.out; have := HJ4.out; have := HK3.out; first | omega | exact Nat.le_refl _⟩, ⟨by (with_reducible repeat (first | apply Kd.R_alloc | apply Kd.R_drewN | apply Kd.R_drew)); exact HO_9.out⟩, ⟨by repeat (first | (with_reducible first | exact HB.out | apply below_alloc | apply pw_below_drewN | apply below_drew1) | exact HB.out)⟩⟩
         ·rw [if_neg c11] at H
          exact absurd H (by simp)
        ·rw [if_neg c10] at H
         have c10b0 : decide (x7_3 < (a0.size : Int)) = false := decide_eq_false c10
         clear c10
         (first | rw [c10b0] | (simp only [i64_w, i32_w]; rw [c10b0]) | skip)
         as_aux_lemma =>
          have H' := Aside0.mk H
          clear H
          go_wp2
          go_meet
          case rel => exact ⟨_, (x7_3), (x9_3), (by first | rfl | (simp; done) | (simp [*]; done) | (simp [i64_w]; done) | (simp [*, i64_w]; done) | (unfold wrap64; simp; done) | (unfold wrap64; omega)), (by first | exact H' | (rw [hji47]; exact H') | (rw [hji52]; exact H')), ⟨by have := HJ1.out; have := HJ4.out; have := HK3.out; first | omega | exact Nat.le_refl _⟩, ⟨by (with_reducible repeat (first | apply Kd.R_alloc | apply Kd.R_drewN | apply Kd.R_drew)); exact HO_9.out⟩, ⟨by repeat (first | (with_reducible first | exact HB.out | apply below_alloc | apply pw_below_drewN | apply below_drew1) | exact HB.out)⟩⟩
     case rest =>
      clear HC7
      try clear c1
      try clear p1
      try clear q1
      try clear hx1
      try clear p2
      try clear c3
      try clear c3b0
      try clear c3b1
      try clear c4
      try clear p4
      try clear q4
      try clear hx4
      try clear qi4
      try clear c6
      try clear p6
      try clear c10
      try clear c10b0
      try clear c11
      try clear c11b0
      try clear p12
      try clear q12
      try clear hx12
      try clear c13
      try clear c13b0
      try clear p14
      try clear q14
      try clear hx14
      try clear c15
      try clear c15b0
      try clear p16
      try clear q16
      try clear hx16
      try clear c17
      try clear p12
      try clear p14
      try clear p16
      try clear p2
      try clear p4
      try clear p6
      try clear q12
      try clear q14
      try clear q16
      try clear q4
      obtain ⟨kq, x7_6, x9_6, rfl, HA, HJ6, HO_9, HB⟩ := hcut
      cases kq with
      | zero => exact absurd HA.out (by simp [heraldref03_scan.j3])
      | succ kj6 =>
       have H := HA.out
       clear HA
       simp only [heraldref03_scan.j3] at H
       by_cases c19 : x7_6 = x7_4
       ·rw [if_pos c19] at H
        have c19b0 : (x7_6 == x7_4) = true := beq_iff_eq.mpr c19
        have c19b1 : (x7_6 != x7_4) = false := bne_eq_false_iff_eq.mpr c19
        clear c19
        as_aux_lemma =>
         simp only [Option.some.injEq, Prod.mk.injEq] at H
         obtain ⟨rfl, rfl, rfl, rfl, rfl⟩ := H
         go_wp2
         refine bodyPost_ret (results_list (rs := [.tmp 2, .tmp 3, .tmp 4, .tmp 5, .tmp 6]) rfl (by simp) (.tmp (.tmp (.tmp (.tmp (.tmp .nil)))))) rfl ?_
         exact ⟨_, by first | rfl | (simp [errW_none, errW_some] <;> rfl) | (simp [*, errW_none, errW_some] <;> rfl), by (with_reducible repeat (first | apply Kd.R_alloc | apply Kd.R_drewN | apply Kd.R_drew)); exact HO_9.out, by repeat (first | (with_reducible first | exact HB.out | apply below_alloc | apply pw_below_drewN | apply below_drew1) | exact HB.out)⟩
       ·rw [if_neg c19] at H
        have c19b0 : (x7_6 == x7_4) = false := beq_eq_false_iff_ne.mpr c19
        have c19b1 : (x7_6 != x7_4) = true := bne_iff_ne.mpr c19
        have HC20 := Aside0.mk H
        clear H
        go_upto_region 12 with (fail)
        go_cut [70] (fun v70 wc => ∃ (kq : Nat) (x70_19 : Bool), v70 = .bool x70_19 ∧ Aside0 (heraldref03_scan.j4 kq a0 x7_6 x8_1 x9_6 0 0 x70_19 = some (r1, r2, r3, r4, r5)) ∧ Aside0 (kq ≤ kj6) ∧ Aside0 (Kd.R (Kd.int .i64) 3 wc w.heap.size (fun _ => True) u9 x9_6) ∧ Aside0 (Below w.heap.size w wc))
        case first =>
         have H := HC20.out
         clear HC20
         by_cases c21 : x7_6 < (a0.size : Int)
         ·rw [if_pos c21] at H
          have c21b0 : decide (x7_6 < (a0.size : Int)) = true := decide_eq_true c21
          clear c21
          (first | rw [c21b0] | (simp only [i64_w, i32_w]; rw [c21b0]) | skip)
          by_cases c22 : 0 ≤ x7_6
          ·rw [if_pos c22] at H
           have c22b0 : decide (0 ≤ x7_6) = true := decide_eq_true c22
           clear c22
           as_aux_lemma =>
            have H' := Aside0.mk H
            clear H
            have p23 : 0 ≤ (x7_6 : Int) := of_decide_eq_true (by first | (with_reducible assumption) | assumption)
            have q23 : x7_6 < (a0.size : Int) := of_decide_eq_true (by first | (with_reducible assumption) | assumption)
            have hx23 := bt_at a0 x7_6
            replace p23 := eq_true p23
            replace q23 := eq_true q23
            go_wp2
            go_meet
            case rel => exact ⟨_, (((bt a0 x7_6) == 46)), (by first | rfl | (simp; done) | (simp [*]; done) | (simp [i64_w]; done) | (simp [*, i64_w]; done) | (unfold wrap64; simp; done) | (unfold wrap64; omega)), (by first | exact H' | (rw [hji47]; exact H') | (rw [hji52]; exact H')), ⟨by have := HJ1.out; have := HJ4.out; have := HJ6.out; first | omega | exact Nat.le_refl _⟩, ⟨by (with_reducible repeat (first | apply Kd.R_alloc | apply Kd.R_drewN | apply Kd.R_drew)); exact HO_9.out⟩, ⟨by repeat (first | (with_reducible first | exact HB.out | apply below_alloc | apply pw_below_drewN | apply below_drew1) | exact HB.out)⟩⟩
          ·rw [if_neg c22] at H
           exact absurd H (by simp)
         ·rw [if_neg c21] at H
          have c21b0 : decide (x7_6 < (a0.size : Int)) = false := decide_eq_false c21
          clear c21
          (first | rw [c21b0] | (simp only [i64_w, i32_w]; rw [c21b0]) | skip)
          as_aux_lemma =>
           have H' := Aside0.mk H
           clear H
           go_wp2
           go_meet
           case rel => exact ⟨_, (false), (by first | rfl | (simp; done) | (simp [*]; done) | (simp [i64_w]; done) | (simp [*, i64_w]; done) | (unfold wrap64; simp; done) | (unfold wrap64; omega)), (by first | exact H' | (rw [hji47]; exact H') | (rw [hji52]; exact H')), ⟨by have := HJ1.out; have := HJ4.out; have := HJ6.out; first | omega | exact Nat.le_refl _⟩, ⟨by (with_reducible repeat (first | apply Kd.R_alloc | apply Kd.R_drewN | apply Kd.R_drew)); exact HO_9.out⟩, ⟨by repeat (first | (with_reducible first | exact HB.out | apply below_alloc | apply pw_below_drewN | apply below_drew1) | exact HB.out)⟩⟩
        case rest =>
         clear HC20
         try clear c1
         try clear p1
         try clear q1
         try clear hx1
         try clear c2
         try clear p2
         try clear q2
         try clear hx2
         try clear c3
         try clear c3b0
         try clear c3b1
         try clear c4
         try clear p4
         try clear q4
         try clear hx4
         try clear qi4
         try clear c6
         try clear p6
         try clear c10
         try clear c10b0
         try clear c11
         try clear c11b0
         try clear p12
         try clear q12
         try clear hx12
         try clear c13
         try clear c13b0
         try clear p14
         try clear q14
         try clear hx14
         try clear c15
         try clear c15b0
         try clear p16
         try clear q16
         try clear hx16
         try clear c17
         try clear c19
         try clear c19b0
         try clear c19b1
         try clear c21
         try clear c21b0
         try clear c22
         try clear c22b0
         try clear p23
         try clear q23
         try clear hx23
         try clear p1
         try clear p12
         try clear p14
         try clear p16
         try clear p2
         try clear p23
         try clear p4
         try clear p6
         try clear q1
         try clear q12
         try clear q14
         try clear q16
         try clear q23
         try clear q4
         obtain ⟨kq, x70_19, rfl, HA, HJ19, HO_9, HB⟩ := hcut
         cases kq with
         | zero => exact absurd HA.out (by simp [heraldref03_scan.j4])
         | succ kj19 =>
          have H := HA.out
          clear HA
          simp only [heraldref03_scan.j4] at H
          have HC24 := Aside0.mk H
          clear H
          go_upto_if 70 with (fail)
          go_cut [7, 9, 10] (fun v7 v9 v10 wc => ∃ (kq : Nat) (x7_23 : Int) (x9_23 : List Int) (x10_23 : Int), v7 = .int .i64 x7_23 ∧ v10 = .int .i64 x10_23 ∧ Aside0 (heraldref03_scan.j6 kq a0 x7_23 x8_1 x9_23 x10_23 0 = some (r1, r2, r3, r4, r5)) ∧ Aside0 (kq ≤ kj19) ∧ Aside0 (Kd.R (Kd.int .i64) 3 wc w.heap.size (fun _ => True) v9 x9_23) ∧ Aside0 (Below w.heap.size w wc))
          case first =>
           have H := HC24.out
           clear HC24
           by_cases c25 : x70_19 = true
           ·subst c25
            have H1 : (heraldref03_scan.l1 kj19 a0 (wrap64 (x7_6 + 1)) x8_1 x9_6 0 (wrap64 (x7_6 + 1))) = some (r1, r2, r3, r4, r5) := by rw [if_pos rfl] at H; exact H
            clear H
            have H := H1
            clear H1
            have H' := Aside0.mk H
            clear H
            go_wp2
            go_loopg [7, 9] kj19 (fun kq v7 v9 w' => ∃ (x7_5 : Int) (x9_5 : List Int), v7 = .int .i64 x7_5 ∧ Aside0 (heraldref03_scan.l1 kq a0 x7_5 x8_1 x9_5 0 (wrap64 (x7_6 + 1)) = some (r1, r2, r3, r4, r5)) ∧ Aside0 (kq ≤ kj19) ∧ Aside0 (Kd.R (Kd.int .i64) 3 w' w.heap.size (fun _ => True) v9 x9_5) ∧ Aside0 (Below w.heap.size w w'))
            case atStart => exact ⟨(wrap64 (x7_6 + 1)), (x9_6), (by first | rfl | (simp; done) | (simp [*]; done) | (simp [i64_w]; done) | (simp [*, i64_w]; done) | (unfold wrap64; simp; done) | (unfold wrap64; omega)), H', ⟨Nat.le_refl _⟩, ⟨by (with_reducible repeat (first | apply Kd.R_alloc | apply Kd.R_drewN | apply Kd.R_drew)); exact HO_9.out⟩, ⟨by repeat (first | (with_reducible first | exact HB.out | apply below_alloc | apply pw_below_drewN | apply below_drew1) | exact HB.out)⟩⟩
            case round =>
             clear H'
             try clear c1
             try clear p1
             try clear q1
             try clear hx1
             try clear c2
             try clear p2
             try clear q2
             try clear hx2
             try clear c3
             try clear c3b0
             try clear c3b1
             try clear c4
             try clear p4
             try clear q4
             try clear hx4
             try clear qi4
             try clear c6
             try clear p6
             try clear c10
             try clear c10b0
             try clear c11
             try clear c11b0
             try clear p12
             try clear q12
             try clear hx12
             try clear c13
             try clear c13b0
             try clear p14
             try clear q14
             try clear hx14
             try clear c15
             try clear c15b0
             try clear p16
             try clear q16
             try clear hx16
             try clear c17
             try clear c19
             try clear c19b0
             try clear c19b1
             try clear c21
             try clear c21b0
             try clear c22
             try clear c22b0
             try clear p23
             try clear q23
             try clear hx23
             try clear c25
             try clear p1
             try clear p12
             try clear p14
             try clear p16
             try clear p2
             try clear p23
             try clear p4
             try clear p6
             try clear q1
             try clear q12
             try clear q14
             try clear q16
             try clear q2
             try clear q23
             try clear q4
             obtain ⟨x7_5, x9_5, rfl, HA, HK5, HO_9, HB⟩ := hrel
             cases gk with
             | zero => exact absurd HA.out (by simp [heraldref03_scan.l1])
             | succ k5 =>
              have H := HA.out
              clear HA
              simp only [heraldref03_scan.l1] at H
              by_cases c26 : x7_5 < (a0.size : Int)
              ·rw [if_pos c26] at H
               have c26b0 : decide (x7_5 < (a0.size : Int)) = true := decide_eq_true c26
               clear c26
               (first | rw [c26b0] | (simp only [i64_w, i32_w]; rw [c26b0]) | skip)
               by_cases c27 : 0 ≤ x7_5
               ·rw [if_pos c27] at H
                have c27b0 : decide (0 ≤ x7_5) = true := decide_eq_true c27
                clear c27
                by_cases c29 : (bt a0 x7_5) ≥ 48
                ·rw [if_pos c29] at H
                 have c29b0 : decide (48 ≤ (bt a0 x7_5)) = true := decide_eq_true c29
                 clear c29
                 by_cases c31 : (bt a0 x7_5) ≤ 57
                 ·rw [if_pos c31] at H
                  have c31b0 : decide ((bt a0 x7_5) ≤ 57) = true := decide_eq_true c31
                  clear c31
                  by_cases c33 : x9_5.length < 17592186044416
                  ·rw [if_pos c33] at H
                   have LMc33 := Aside0.mk c33
                   clear c33
                   obtain ⟨y229, hy229⟩ : ∃ y_ : List Int, y_ = (x9_5 ++ [((bt a0 x7_5) - 48) % 256]) := ⟨_, rfl⟩
                   replace H : (heraldref03_scan.l1 k5 a0 (wrap64 (x7_5 + 1)) x8_1 y229 0 (wrap64 (x7_6 + 1))) = some (r1, r2, r3, r4, r5) := by first | (rw [hy229]; with_reducible exact H) | (have H2_ := (Option.bind_some _ _).symm.trans H; rw [hy229]; with_reducible exact H2_) | (have H2_ := (Option.bind_some _ _).symm.trans H; with_reducible exact H2_) | with_reducible exact H | (rw [hy229]; exact H) | exact H
                   have Ny229 := Aside0.mk hy229
                   clear hy229
                   as_aux_lemma =>
                    have H' := Aside0.mk H
                    clear H
                    have p28 : 0 ≤ (x7_5 : Int) := of_decide_eq_true (by first | (with_reducible assumption) | assumption)
                    have q28 : x7_5 < (a0.size : Int) := of_decide_eq_true (by first | (with_reducible assumption) | assumption)
                    have hx28 := bt_at a0 x7_5
                    replace p28 := eq_true p28
                    replace q28 := eq_true q28
                    have p30 : 0 ≤ (x7_5 : Int) := of_decide_eq_true (by first | (with_reducible assumption) | assumption)
                    have q30 : x7_5 < (a0.size : Int) := of_decide_eq_true (by first | (with_reducible assumption) | assumption)
                    have hx30 := bt_at a0 x7_5
                    replace p30 := eq_true p30
                    replace q30 := eq_true q30
                    have p32 : 0 ≤ (x7_5 : Int) := of_decide_eq_true (by first | (with_reducible assumption) | assumption)
                    have q32 : x7_5 < (a0.size : Int) := of_decide_eq_true (by first | (with_reducible assumption) | assumption)
                    have hx32 := bt_at a0 x7_5
                    replace p32 := eq_true p32
                    replace q32 := eq_true q32
                    go_wp2_with (first | ((with_reducible refine gate_builtin (b := .append) (xs := #[.tmp 90, .tmp 96]) rfl ?_); at_builtin; refine Kd.R_append (Kd.int .i64) (w0 := w) w.heap.size rfl (.tmp 90) (.tmp 96) 86 3 (.int .i64 0) 8 rfl Tryd.underlying86 info3 rfl (by decide) (by omega) u9 x9_5 (((bt a0 x7_5) - 48) % 256) [.int .i64 (((bt a0 x7_5) - 48) % 256)] (fun _ => True) (fun _ => False) rfl rfl ?aP (fun _ hk => hk.elim) ?aF ?aO ?aB ?aS ?aL ?_; (case aP => exact rfl); (case aB => exact (by repeat (first | (with_reducible first | exact HB.out | apply below_alloc | apply pw_below_drewN | apply below_drew1) | exact HB.out))); (case aF => exact (fun _ _ => trivial)); (case aO => exact (by (with_reducible repeat (first | apply Kd.R_alloc | apply Kd.R_drewN | apply Kd.R_drew)); exact HO_9.out)); (case aS => exact (below_size (by repeat (first | (with_reducible first | exact HB.out | apply below_alloc | apply pw_below_drewN | apply below_drew1) | exact HB.out)))); (case aL => have := LMc33.out; omega); intro v230 w34 ho hb hg hat; rw [← Ny229.out] at ho; have n0_ := Aside0.mk (hb); have n1_ := Aside0.mk (ho); clear HB; clear HO_9; have HB := n0_; have HO231 := n1_; clear n0_ n1_; clear ho hb hg hat))
                    go_roundg k5
                    case measure => have := HJ1.out; have := HJ4.out; have := HJ6.out; have := HJ19.out; have := HK5.out; omega
                    case rel => exact ⟨(wrap64 (x7_5 + 1)), (y229), (by first | rfl | (simp; done) | (simp [*]; done) | (simp [i64_w]; done) | (simp [*, i64_w]; done) | (unfold wrap64; simp; done) | (unfold wrap64; omega)), (by first | exact H' | (rw [hji47]; exact H') | (rw [hji52]; exact H')), ⟨by have := HJ1.out; have := HJ4.out; have := HJ6.out; have := HJ19.out; have := HK5.out; omega⟩, ⟨by (with_reducible repeat (first | apply Kd.R_alloc | apply Kd.R_drewN | apply Kd.R_drew)); exact HO231.out⟩, ⟨by repeat (first | (with_reducible first | exact HB.out | apply below_alloc | apply pw_below_drewN | apply below_drew1) | exact HB.out)⟩⟩
                  ·rw [if_neg c33] at H
                   exact absurd H (by simp)
                 ·rw [if_neg c31] at H
                  have c31b0 : decide ((bt a0 x7_5) ≤ 57) = false := decide_eq_false c31
                  clear c31
                  by_cases c35 : x7_5 = (wrap64 (x7_6 + 1))
                  ·rw [if_pos c35] at H
                   have c35b0 : (x7_5 == (wrap64 (x7_6 + 1))) = true := beq_iff_eq.mpr c35
                   have c35b1 : (x7_5 != (wrap64 (x7_6 + 1))) = false := bne_eq_false_iff_eq.mpr c35
                   clear c35
                   as_aux_lemma =>
                    simp only [Option.some.injEq, Prod.mk.injEq] at H
                    obtain ⟨rfl, rfl, rfl, rfl, rfl⟩ := H
                    have p28 : 0 ≤ (x7_5 : Int) := of_decide_eq_true (by first | (with_reducible assumption) | assumption)
                    have q28 : x7_5 < (a0.size : Int) := of_decide_eq_true (by first | (with_reducible assumption) | assumption)
                    have hx28 := bt_at a0 x7_5
                    replace p28 := eq_true p28
                    replace q28 := eq_true q28
                    have p30 : 0 ≤ (x7_5 : Int) := of_decide_eq_true (by first | (with_reducible assumption) | assumption)
                    have q30 : x7_5 < (a0.size : Int) := of_decide_eq_true (by first | (with_reducible assumption) | assumption)
                    have hx30 := bt_at a0 x7_5
                    replace p30 := eq_true p30
                    replace q30 := eq_true q30
                    go_wp2
                    refine bodyPost_ret (results_list (rs := [.tmp 2, .tmp 3, .tmp 4, .tmp 5, .tmp 6]) rfl (by simp) (.tmp (.tmp (.tmp (.tmp (.tmp .nil)))))) rfl ?_
                    exact ⟨_, by first | rfl | (simp [errW_none, errW_some] <;> rfl) | (simp [*, errW_none, errW_some] <;> rfl), by (with_reducible repeat (first | apply Kd.R_alloc | apply Kd.R_drewN | apply Kd.R_drew)); exact HO_9.out, by repeat (first | (with_reducible first | exact HB.out | apply below_alloc | apply pw_below_drewN | apply below_drew1) | exact HB.out)⟩
                  ·rw [if_neg c35] at H
                   have c35b0 : (x7_5 == (wrap64 (x7_6 + 1))) = false := beq_eq_false_iff_ne.mpr c35
                   have c35b1 : (x7_5 != (wrap64 (x7_6 + 1))) = true := bne_iff_ne.mpr c35
                   as_aux_lemma =>
                    have H' := Aside0.mk H
                    clear H
                    have p28 : 0 ≤ (x7_5 : Int) := of_decide_eq_true (by first | (with_reducible assumption) | assumption)
                    have q28 : x7_5 < (a0.size : Int) := of_decide_eq_true (by first | (with_reducible assumption) | assumption)
                    have hx28 := bt_at a0 x7_5
                    replace p28 := eq_true p28
                    replace q28 := eq_true q28
                    have p30 : 0 ≤ (x7_5 : Int) := of_decide_eq_true (by first | (with_reducible assumption) | assumption)
                    have q30 : x7_5 < (a0.size : Int) := of_decide_eq_true (by first | (with_reducible assumption) | assumption)
                    have hx30 := bt_at a0 x7_5
                    replace p30 := eq_true p30
                    replace q30 := eq_true q30
                    go_wp2
                    go_meet
                    case rel => exact ⟨_, (x7_5), (x9_5), (wrap64 (x7_5 - (wrap64 (x7_6 + 1)))), (by first | rfl | (simp; done) | (simp [*]; done) | (simp [i64_w]; done) | (simp [*, i64_w]; done) | (unfold wrap64; simp; done) | (unfold wrap64; omega)), (by first | rfl | (simp; done) | (simp [*]; done) | (simp [i64_w]; done) | (simp [*, i64_w]; done) | (unfold wrap64; simp; done) | (unfold wrap64; omega)), (by first | exact H' | (rw [hji47]; exact H') | (rw [hji52]; exact H')), ⟨by have := HJ1.out; have := HJ4.out; have := HJ6.out; have := HJ19.out; have := HK5.out; first | omega | exact Nat.le_refl _⟩, ⟨by (with_reducible repeat (first | apply Kd.R_alloc | apply Kd.R_drewN | apply Kd.R_drew)); exact HO_9.out⟩, ⟨by repeat (first | (with_reducible first | exact HB.out | apply below_alloc | apply pw_below_drewN | apply below_drew1) | exact HB.out)⟩⟩
                ·rw [if_neg c29] at H
                 have c29b0 : decide (48 ≤ (bt a0 x7_5)) = false := decide_eq_false c29
                 clear c29
                 by_cases c36 : x7_5 = (wrap64 (x7_6 + 1))
                 ·rw [if_pos c36] at H
                  have c36b0 : (x7_5 == (wrap64 (x7_6 + 1))) = true := beq_iff_eq.mpr c36
                  have c36b1 : (x7_5 != (wrap64 (x7_6 + 1))) = false := bne_eq_false_iff_eq.mpr c36
                  clear c36
                  as_aux_lemma =>
                   simp only [Option.some.injEq, Prod.mk.injEq] at H
                   obtain ⟨rfl, rfl, rfl, rfl, rfl⟩ := H
                   have p28 : 0 ≤ (x7_5 : Int) := of_decide_eq_true (by first | (with_reducible assumption) | assumption)
                   have q28 : x7_5 < (a0.size : Int) := of_decide_eq_true (by first | (with_reducible assumption) | assumption)
                   have hx28 := bt_at a0 x7_5
                   replace p28 := eq_true p28
                   replace q28 := eq_true q28
                   go_wp2
                   refine bodyPost_ret (results_list (rs := [.tmp 2, .tmp 3, .tmp 4, .tmp 5, .tmp 6]) rfl (by simp) (.tmp (.tmp (.tmp (.tmp (.tmp .nil)))))) rfl ?_
                   exact ⟨_, by first | rfl | (simp [errW_none, errW_some] <;> rfl) | (simp [*, errW_none, errW_some] <;> rfl), by (with_reducible repeat (first | apply Kd.R_alloc | apply Kd.R_drewN | apply Kd.R_drew)); exact HO_9.out, by repeat (first | (with_reducible first | exact HB.out | apply below_alloc | apply pw_below_drewN | apply below_drew1) | exact HB.out)⟩
                 ·rw [if_neg c36] at H
                  have c36b0 : (x7_5 == (wrap64 (x7_6 + 1))) = false := beq_eq_false_iff_ne.mpr c36
                  have c36b1 : (x7_5 != (wrap64 (x7_6 + 1))) = true := bne_iff_ne.mpr c36
                  as_aux_lemma =>
                   have H' := Aside0.mk H
                   clear H
                   have p28 : 0 ≤ (x7_5 : Int) := of_decide_eq_true (by first | (with_reducible assumption) | assumption)
                   have q28 : x7_5 < (a0.size : Int) := of_decide_eq_true (by first | (with_reducible assumption) | assumption)
                   have hx28 := bt_at a0 x7_5
                   replace p28 := eq_true p28
                   replace q28 := eq_true q28
                   go_wp2
                   go_meet
                   case rel => exact ⟨_, (x7_5), (x9_5), (wrap64 (x7_5 - (wrap64 (x7_6 + 1)))), (by first | rfl | (simp; done) | (simp [*]; done) | (simp [i64_w]; done) | (simp [*, i64_w]; done) | (unfold wrap64; simp; done) | (unfold wrap64; omega)), (by first | rfl | (simp; done) | (simp [*]; done) | (simp [i64_w]; done) | (simp [*, i64_w]; done) | (unfold wrap64; simp; done) | (unfold wrap64; omega)), (by first | exact H' | (rw [hji47]; exact H') | (rw [hji52]; exact H')), ⟨by have := HJ1.out; have := HJ4.out; have := HJ6.out; have := HJ19.out; have := HK5.out; first | omega | exact Nat.le_refl _⟩, ⟨by (with_reducible repeat (first | apply Kd.R_alloc | apply Kd.R_drewN | apply Kd.R_drew)); exact HO_9.out⟩, ⟨by repeat (first | (with_reducible first | exact HB.out | apply below_alloc | apply pw_below_drewN | apply below_drew1) | exact HB.out)⟩⟩
               ·rw [if_neg c27] at H
                exact absurd H (by simp)
              ·rw [if_neg c26] at H
               have c26b0 : decide (x7_5 < (a0.size : Int)) = false := decide_eq_false c26
               clear c26
               (first | rw [c26b0] | (simp only [i64_w, i32_w]; rw [c26b0]) | skip)
               by_cases c37 : x7_5 = (wrap64 (x7_6 + 1))
               ·rw [if_pos c37] at H
                have c37b0 : (x7_5 == (wrap64 (x7_6 + 1))) = true := beq_iff_eq.mpr c37
                have c37b1 : (x7_5 != (wrap64 (x7_6 + 1))) = false := bne_eq_false_iff_eq.mpr c37
                clear c37
                as_aux_lemma =>
                 simp only [Option.some.injEq, Prod.mk.injEq] at H
                 obtain ⟨rfl, rfl, rfl, rfl, rfl⟩ := H
                 go_wp2
                 refine bodyPost_ret (results_list (rs := [.tmp 2, .tmp 3, .tmp 4, .tmp 5, .tmp 6]) rfl (by simp) (.tmp (.tmp (.tmp (.tmp (.tmp .nil)))))) rfl ?_
                 exact ⟨_, by first | rfl | (simp [errW_none, errW_some] <;> rfl) | (simp [*, errW_none, errW_some] <;> rfl), by (with_reducible repeat (first | apply Kd.R_alloc | apply Kd.R_drewN | apply Kd.R_drew)); exact HO_9.out, by repeat (first | (with_reducible first | exact HB.out | apply below_alloc | apply pw_below_drewN | apply below_drew1) | exact HB.out)⟩
               ·rw [if_neg c37] at H
                have c37b0 : (x7_5 == (wrap64 (x7_6 + 1))) = false := beq_eq_false_iff_ne.mpr c37
                have c37b1 : (x7_5 != (wrap64 (x7_6 + 1))) = true := bne_iff_ne.mpr c37
                as_aux_lemma =>
                 have H' := Aside0.mk H
                 clear H
                 go_wp2
                 go_meet
                 case rel => exact ⟨_, (x7_5), (x9_5), (wrap64 (x7_5 - (wrap64 (x7_6 + 1)))), (by first | rfl | (simp; done) | (simp [*]; done) | (simp [i64_w]; done) | (simp [*, i64_w]; done) | (unfold wrap64; simp; done) | (unfold wrap64; omega)), (by first | rfl | (simp; done) | (simp [*]; done) | (simp [i64_w]; done) | (simp [*, i64_w]; done) | (unfold wrap64; simp; done) | (unfold wrap64; omega)), (by first | exact H' | (rw [hji47]; exact H') | (rw [hji52]; exact H')), ⟨by have := HJ1.out; have := HJ4.out; have := HJ6.out; have := HJ19.out; have := HK5.out; first | omega | exact Nat.le_refl _⟩, ⟨by (with_reducible repeat (first | apply Kd.R_alloc | apply Kd.R_drewN | apply Kd.R_drew)); exact HO_9.out⟩, ⟨by repeat (first | (with_reducible first | exact HB.out | apply below_alloc | apply pw_below_drewN | apply below_drew1) | exact HB.out)⟩⟩
           ·replace c25 := Bool.eq_false_iff.mpr c25
            subst c25
            have H1 : (heraldref03_scan.j6 kj19 a0 x7_6 x8_1 x9_6 0 0) = some (r1, r2, r3, r4, r5) := by rw [if_neg (show ¬ (false = true) by decide)] at H; exact H
            clear H
            have H := H1
            clear H1
            as_aux_lemma =>
             have H' := Aside0.mk H
             clear H
             go_wp2
             go_meet
             case rel => exact ⟨_, (x7_6), (x9_6), (0), (by first | rfl | (simp; done) | (simp [*]; done) | (simp [i64_w]; done) | (simp [*, i64_w]; done) | (unfold wrap64; simp; done) | (unfold wrap64; omega)), (by first | rfl | (simp; done) | (simp [*]; done) | (simp [i64_w]; done) | (simp [*, i64_w]; done) | (unfold wrap64; simp; done) | (unfold wrap64; omega)), (by first | exact H' | (rw [hji47]; exact H') | (rw [hji52]; exact H')), ⟨by have := HJ1.out; have := HJ4.out; have := HJ6.out; have := HJ19.out; first | omega | exact Nat.le_refl _⟩, ⟨by (with_reducible repeat (first | apply Kd.R_alloc | apply Kd.R_drewN | apply Kd.R_drew)); exact HO_9.out⟩, ⟨by repeat (first | (with_reducible first | exact HB.out | apply below_alloc | apply pw_below_drewN | apply below_drew1) | exact HB.out)⟩⟩
          case rest =>
           clear HC24
           try clear c1
           try clear p1
           try clear q1
           try clear hx1
           try clear c2
           try clear p2
           try clear q2
           try clear hx2
           try clear c3
           try clear c3b0
           try clear c3b1
           try clear p3
           try clear q3
           try clear hx3
           try clear c4
           try clear p4
           try clear q4
           try clear hx4
           try clear qi4
           try clear c6
           try clear p6
           try clear c10
           try clear c10b0
           try clear c11
           try clear c11b0
           try clear p12
           try clear q12
           try clear hx12
           try clear c13
           try clear c13b0
           try clear p14
           try clear q14
           try clear hx14
           try clear c15
           try clear c15b0
           try clear p16
           try clear q16
           try clear hx16
           try clear c17
           try clear c19
           try clear c19b0
           try clear c19b1
           try clear c21
           try clear c21b0
           try clear c22
           try clear c22b0
           try clear p23
           try clear q23
           try clear hx23
           try clear c25
           try clear c26
           try clear c26b0
           try clear c27
           try clear c27b0
           try clear p28
           try clear q28
           try clear hx28
           try clear c29
           try clear c29b0
           try clear p30
           try clear q30
           try clear hx30
           try clear c31
           try clear c31b0
           try clear p32
           try clear q32
           try clear hx32
           try clear c33
           try clear c35
           try clear c35b0
           try clear c35b1
           try clear c36
           try clear c36b0
           try clear c36b1
           try clear c37
           try clear c37b0
           try clear c37b1
           try clear p1
           try clear p12
           try clear p14
           try clear p16
           try clear p2
           try clear p23
           try clear p28
           try clear p30
           try clear p32
           try clear p4
           try clear p6
           try clear q1
           try clear q12
           try clear q14
           try clear q16
           try clear q2
           try clear q23
           try clear q28
           try clear q30
           try clear q32
           try clear q4
           obtain ⟨kq, x7_23, x9_23, x10_23, rfl, rfl, HA, HJ23, HO_9, HB⟩ := hcut
           cases kq with
           | zero => exact absurd HA.out (by simp [heraldref03_scan.j6])
           | succ kj23 =>
            have H := HA.out
            clear HA
            simp only [heraldref03_scan.j6] at H
            have HC38 := Aside0.mk H
            clear H
            go_upto_region 21 with (fail)
            go_cut [124] (fun v124 wc => ∃ (kq : Nat) (x124_37 : Bool), v124 = .bool x124_37 ∧ Aside0 (heraldref03_scan.j7 kq a0 x7_23 x8_1 x9_23 x10_23 0 x124_37 = some (r1, r2, r3, r4, r5)) ∧ Aside0 (kq ≤ kj23) ∧ Aside0 (Kd.R (Kd.int .i64) 3 wc w.heap.size (fun _ => True) u9 x9_23) ∧ Aside0 (Below w.heap.size w wc))
            case first =>
             have H := HC38.out
             clear HC38
             by_cases c39 : x7_23 < (a0.size : Int)
             ·rw [if_pos c39] at H
              have c39b0 : decide (x7_23 < (a0.size : Int)) = true := decide_eq_true c39
              clear c39
              (first | rw [c39b0] | (simp only [i64_w, i32_w]; rw [c39b0]) | skip)
              by_cases c40 : 0 ≤ x7_23
              ·rw [if_pos c40] at H
               have c40b0 : decide (0 ≤ x7_23) = true := decide_eq_true c40
               clear c40
               by_cases c42 : (bt a0 x7_23) = 101
               ·rw [if_pos c42] at H
                have c42b0 : ((bt a0 x7_23) == 101) = true := beq_iff_eq.mpr c42
                have c42b1 : ((bt a0 x7_23) != 101) = false := bne_eq_false_iff_eq.mpr c42
                clear c42
                as_aux_lemma =>
                 have H' := Aside0.mk H
                 clear H
                 have p41 : 0 ≤ (x7_23 : Int) := of_decide_eq_true (by first | (with_reducible assumption) | assumption)
                 have q41 : x7_23 < (a0.size : Int) := of_decide_eq_true (by first | (with_reducible assumption) | assumption)
                 have hx41 := bt_at a0 x7_23
                 replace p41 := eq_true p41
                 replace q41 := eq_true q41
                 go_wp2
                 go_meet
                 case rel => exact ⟨_, (true), (by first | rfl | (simp; done) | (simp [*]; done) | (simp [i64_w]; done) | (simp [*, i64_w]; done) | (unfold wrap64; simp; done) | (unfold wrap64; omega)), (by first | exact H' | (rw [hji47]; exact H') | (rw [hji52]; exact H')), ⟨by have := HJ1.out; have := HJ4.out; have := HJ6.out; have := HJ19.out; have := HJ23.out; first | omega | exact Nat.le_refl _⟩, ⟨by (with_reducible repeat (first | apply Kd.R_alloc | apply Kd.R_drewN | apply Kd.R_drew)); exact HO_9.out⟩, ⟨by repeat (first | (with_reducible first | exact HB.out | apply below_alloc | apply pw_below_drewN | apply below_drew1) | exact HB.out)⟩⟩
               ·rw [if_neg c42] at H
                have c42b0 : ((bt a0 x7_23) == 101) = false := beq_eq_false_iff_ne.mpr c42
                have c42b1 : ((bt a0 x7_23) != 101) = true := bne_iff_ne.mpr c42
                as_aux_lemma =>
                 have H' := Aside0.mk H
                 clear H
                 have p41 : 0 ≤ (x7_23 : Int) := of_decide_eq_true (by first | (with_reducible assumption) | assumption)
                 have q41 : x7_23 < (a0.size : Int) := of_decide_eq_true (by first | (with_reducible assumption) | assumption)
                 have hx41 := bt_at a0 x7_23
                 replace p41 := eq_true p41
                 replace q41 := eq_true q41
                 have p43 : 0 ≤ (x7_23 : Int) := of_decide_eq_true (by first | (with_reducible assumption) | assumption)
                 have q43 : x7_23 < (a0.size : Int) := of_decide_eq_true (by first | (with_reducible assumption) | assumption)
                 have hx43 := bt_at a0 x7_23
                 replace p43 := eq_true p43
                 replace q43 := eq_true q43
                 go_wp2
                 go_meet
                 case rel => exact ⟨_, (((bt a0 x7_23) == 69)), (by first | rfl | (simp; done) | (simp [*]; done) | (simp [i64_w]; done) | (simp [*, i64_w]; done) | (unfold wrap64; simp; done) | (unfold wrap64; omega)), (by first | exact H' | (rw [hji47]; exact H') | (rw [hji52]; exact H')), ⟨by have := HJ1.out; have := HJ4.out; have := HJ6.out; have := HJ19.out; have := HJ23.out; first | omega | exact Nat.le_refl _⟩, ⟨by (with_reducible repeat (first | apply Kd.R_alloc | apply Kd.R_drewN | apply Kd.R_drew)); exact HO_9.out⟩, ⟨by repeat (first | (with_reducible first | exact HB.out | apply below_alloc | apply pw_below_drewN | apply below_drew1) | exact HB.out)⟩⟩
              ·rw [if_neg c40] at H
               exact absurd H (by simp)
             ·rw [if_neg c39] at H
              have c39b0 : decide (x7_23 < (a0.size : Int)) = false := decide_eq_false c39
              clear c39
              (first | rw [c39b0] | (simp only [i64_w, i32_w]; rw [c39b0]) | skip)
              as_aux_lemma =>
               have H' := Aside0.mk H
               clear H
               go_wp2
               go_meet
               case rel => exact ⟨_, (false), (by first | rfl | (simp; done) | (simp [*]; done) | (simp [i64_w]; done) | (simp [*, i64_w]; done) | (unfold wrap64; simp; done) | (unfold wrap64; omega)), (by first | exact H' | (rw [hji47]; exact H') | (rw [hji52]; exact H')), ⟨by have := HJ1.out; have := HJ4.out; have := HJ6.out; have := HJ19.out; have := HJ23.out; first | omega | exact Nat.le_refl _⟩, ⟨by (with_reducible repeat (first | apply Kd.R_alloc | apply Kd.R_drewN | apply Kd.R_drew)); exact HO_9.out⟩, ⟨by repeat (first | (with_reducible first | exact HB.out | apply below_alloc | apply pw_below_drewN | apply below_drew1) | exact HB.out)⟩⟩
            case rest =>
             clear HC38
             try clear c1
             try clear p1
             try clear q1
             try clear hx1
             try clear c2
             try clear p2
             try clear q2
             try clear hx2
             try clear c3
             try clear c3b0
             try clear c3b1
             try clear p3
             try clear q3
             try clear hx3
             try clear c4
             try clear p4
             try clear q4
             try clear hx4
             try clear qi4
             try clear c6
             try clear p6
             try clear c10
             try clear c10b0
             try clear c11
             try clear c11b0
             try clear p12
             try clear q12
             try clear hx12
             try clear c13
             try clear c13b0
             try clear p14
             try clear q14
             try clear hx14
             try clear c15
             try clear c15b0
             try clear p16
             try clear q16
             try clear hx16
             try clear c17
             try clear c19
             try clear c19b0
             try clear c19b1
             try clear c21
             try clear c21b0
             try clear c22
             try clear c22b0
             try clear p23
             try clear q23
             try clear hx23
             try clear c25
             try clear c26
             try clear c26b0
             try clear c27
             try clear c27b0
             try clear p28
             try clear q28
             try clear hx28
             try clear c29
             try clear c29b0
             try clear p30
             try clear q30
             try clear hx30
             try clear c31
             try clear c31b0
             try clear p32
             try clear q32
             try clear hx32
             try clear c33
             try clear c35
             try clear c35b0
             try clear c35b1
             try clear c36
             try clear c36b0
             try clear c36b1
             try clear c37
             try clear c37b0
             try clear c37b1
             try clear c39
             try clear c39b0
             try clear c40
             try clear c40b0
             try clear p41
             try clear q41
             try clear hx41
             try clear c42
             try clear c42b0
             try clear c42b1
             try clear p43
             try clear q43
             try clear hx43
             try clear p1
             try clear p12
             try clear p14
             try clear p16
             try clear p2
             try clear p23
             try clear p28
             try clear p3
             try clear p30
             try clear p32
             try clear p4
             try clear p41
             try clear p43
             try clear p6
             try clear q1
             try clear q12
             try clear q14
             try clear q16
             try clear q2
             try clear q23
             try clear q28
             try clear q3
             try clear q30
             try clear q32
             try clear q4
             try clear q41
             try clear q43
             obtain ⟨kq, x124_37, rfl, HA, HJ37, HO_9, HB⟩ := hcut
             cases kq with
             | zero => exact absurd HA.out (by simp [heraldref03_scan.j7])
             | succ kj37 =>
              have H := HA.out
              clear HA
              simp only [heraldref03_scan.j7] at H
              by_cases c44 : x124_37 = true
              ·subst c44
               have H1 : (if (wrap64 (x7_23 + 1)) < (a0.size : Int) then (if 0 ≤ (wrap64 (x7_23 + 1)) then (heraldref03_scan.j8 kj37 a0 (wrap64 (x7_23 + 1)) x8_1 x9_23 x10_23 0 ((bt a0 (wrap64 (x7_23 + 1))) == 45)) else (none)) else (heraldref03_scan.j8 kj37 a0 (wrap64 (x7_23 + 1)) x8_1 x9_23 x10_23 0 false)) = some (r1, r2, r3, r4, r5) := by rw [if_pos rfl] at H; exact H
               clear H
               have H := H1
               clear H1
               have HC45 := Aside0.mk H
               clear H
               go_upto_region 23 with (fail)
               go_cut [13] (fun v13 wc => ∃ (kq : Nat) (x13_44 : Bool), v13 = .bool x13_44 ∧ Aside0 (heraldref03_scan.j8 kq a0 (wrap64 (x7_23 + 1)) x8_1 x9_23 x10_23 0 x13_44 = some (r1, r2, r3, r4, r5)) ∧ Aside0 (kq ≤ kj37) ∧ Aside0 (Kd.R (Kd.int .i64) 3 wc w.heap.size (fun _ => True) u9 x9_23) ∧ Aside0 (Below w.heap.size w wc))
               case first =>
                have H := HC45.out
                clear HC45
                by_cases c46 : (wrap64 (x7_23 + 1)) < (a0.size : Int)
                ·rw [if_pos c46] at H
                 have c46b0 : decide ((wrap64 (x7_23 + 1)) < (a0.size : Int)) = true := decide_eq_true c46
                 clear c46
                 (first | rw [c46b0] | (simp only [i64_w, i32_w]; rw [c46b0]) | skip)
                 obtain ⟨ji47, hji47⟩ : ∃ j_ : Int, (wrap64 (x7_23 + 1)) = j_ := ⟨_, rfl⟩
                 replace H : (if 0 ≤ (ji47) then (heraldref03_scan.j8 kj37 a0 ji47 x8_1 x9_23 x10_23 0 ((bt a0 (ji47)) == 45)) else (none)) = some (r1, r2, r3, r4, r5) := by first | (rw [hji47] at H; exact H) | (simp only [hji47] at H ⊢; exact H)
                 (try rw [hji47] at c46b0)
                 have hji47w : (IntKind.i64.wrap (x7_23 + 1)) = ji47 := (i64_w _).trans hji47
                 by_cases c48 : 0 ≤ (ji47)
                 ·rw [if_pos c48] at H
                  have c48b0 : decide (0 ≤ (ji47)) = true := decide_eq_true c48
                  clear c48
                  as_aux_lemma =>
                   have H' := Aside0.mk H
                   clear H
                   have p49 : 0 ≤ ((ji47) : Int) := of_decide_eq_true (by first | (with_reducible assumption) | assumption)
                   have q49 : (ji47) < (a0.size : Int) := of_decide_eq_true (by first | (with_reducible assumption) | assumption)
                   have hx49 := bt_at a0 (ji47)
                   replace p49 := eq_true p49
                   replace q49 := eq_true q49
                   go_wp2
                   go_meet
                   case rel => exact ⟨_, (((bt a0 (ji47)) == 45)), (by first | rfl | (simp; done) | (simp only [← hji47] <;> (first | rfl | simp)) | (simp [*]; done) | (simp [i64_w]; done) | (simp [*, i64_w]; done) | (unfold wrap64; simp; done) | (unfold wrap64; omega)), (by first | exact H' | (rw [hji47]; exact H') | (rw [hji52]; exact H')), ⟨by have := HJ1.out; have := HJ4.out; have := HJ6.out; have := HJ19.out; have := HJ23.out; have := HJ37.out; first | omega | exact Nat.le_refl _⟩, ⟨by (with_reducible repeat (first | apply Kd.R_alloc | apply Kd.R_drewN | apply Kd.R_drew)); exact HO_9.out⟩, ⟨by repeat (first | (with_reducible first | exact HB.out | apply below_alloc | apply pw_below_drewN | apply below_drew1) | exact HB.out)⟩⟩
                 ·rw [if_neg c48] at H
                  exact absurd H (by simp)
                ·rw [if_neg c46] at H
                 have c46b0 : decide ((wrap64 (x7_23 + 1)) < (a0.size : Int)) = false := decide_eq_false c46
                 clear c46
                 (first | rw [c46b0] | (simp only [i64_w, i32_w]; rw [c46b0]) | skip)
                 as_aux_lemma =>
                  have H' := Aside0.mk H
                  clear H
                  go_wp2
                  go_meet
                  case rel => exact ⟨_, (false), (by first | rfl | (simp; done) | (simp [*]; done) | (simp [i64_w]; done) | (simp [*, i64_w]; done) | (unfold wrap64; simp; done) | (unfold wrap64; omega)), (by first | exact H' | (rw [hji47]; exact H') | (rw [hji52]; exact H')), ⟨by have := HJ1.out; have := HJ4.out; have := HJ6.out; have := HJ19.out; have := HJ23.out; have := HJ37.out; first | omega | exact Nat.le_refl _⟩, ⟨by (with_reducible repeat (first | apply Kd.R_alloc | apply Kd.R_drewN | apply Kd.R_drew)); exact HO_9.out⟩, ⟨by repeat (first | (with_reducible first | exact HB.out | apply below_alloc | apply pw_below_drewN | apply below_drew1) | exact HB.out)⟩⟩
               case rest =>
                clear HC45
                try clear c1
                try clear p1
                try clear q1
                try clear hx1
                try clear c2
                try clear p2
                try clear q2
                try clear hx2
                try clear c3
                try clear c3b0
                try clear c3b1
                try clear p3
                try clear q3
                try clear hx3
                try clear c4
                try clear p4
                try clear q4
                try clear hx4
                try clear qi4
                try clear c6
                try clear p6
                try clear c10
                try clear c10b0
                try clear c11
                try clear c11b0
                try clear p12
                try clear q12
                try clear hx12
                try clear c13
                try clear c13b0
                try clear p14
                try clear q14
                try clear hx14
                try clear c15
                try clear c15b0
                try clear p16
                try clear q16
                try clear hx16
                try clear c17
                try clear c19
                try clear c19b0
                try clear c19b1
                try clear c21
                try clear c21b0
                try clear c22
                try clear c22b0
                try clear p23
                try clear q23
                try clear hx23
                try clear c25
                try clear c26
                try clear c26b0
                try clear c27
                try clear c27b0
                try clear p28
                try clear q28
                try clear hx28
                try clear c29
                try clear c29b0
                try clear p30
                try clear q30
                try clear hx30
                try clear c31
                try clear c31b0
                try clear p32
                try clear q32
                try clear hx32
                try clear c33
                try clear c35
                try clear c35b0
                try clear c35b1
                try clear c36
                try clear c36b0
                try clear c36b1
                try clear c37
                try clear c37b0
                try clear c37b1
                try clear c39
                try clear c39b0
                try clear c40
                try clear c40b0
                try clear p41
                try clear q41
                try clear hx41
                try clear c42
                try clear c42b0
                try clear c42b1
                try clear p43
                try clear q43
                try clear hx43
                try clear c44
                try clear c46
                try clear c46b0
                try clear c48
                try clear c48b0
                try clear p49
                try clear q49
                try clear hx49
                try clear p1
                try clear p12
                try clear p14
                try clear p16
                try clear p2
                try clear p23
                try clear p28
                try clear p3
                try clear p30
                try clear p32
                try clear p4
                try clear p41
                try clear p43
                try clear p49
                try clear p6
                try clear q1
                try clear q12
                try clear q14
                try clear q16
                try clear q2
                try clear q23
                try clear q28
                try clear q3
                try clear q30
                try clear q32
                try clear q4
                try clear q41
                try clear q43
                try clear q49
                obtain ⟨kq, x13_44, rfl, HA, HJ44, HO_9, HB⟩ := hcut
                cases kq with
                | zero => exact absurd HA.out (by simp [heraldref03_scan.j8])
                | succ kj44 =>
                 have H := HA.out
                 clear HA
                 simp only [heraldref03_scan.j8] at H
                 have HC50 := Aside0.mk H
                 clear H
                 go_upto_region 24 with (fail)
                 go_cut [152] (fun v152 wc => ∃ (kq : Nat) (x152_49 : Bool), v152 = .bool x152_49 ∧ Aside0 (heraldref03_scan.j9 kq a0 (wrap64 (x7_23 + 1)) x8_1 x9_23 x10_23 0 x13_44 x152_49 = some (r1, r2, r3, r4, r5)) ∧ Aside0 (kq ≤ kj44) ∧ Aside0 (Kd.R (Kd.int .i64) 3 wc w.heap.size (fun _ => True) u9 x9_23) ∧ Aside0 (Below w.heap.size w wc))
                 case first =>
                  have H := HC50.out
                  clear HC50
                  by_cases c51 : (wrap64 (x7_23 + 1)) < (a0.size : Int)
                  ·rw [if_pos c51] at H
                   have c51b0 : decide ((wrap64 (x7_23 + 1)) < (a0.size : Int)) = true := decide_eq_true c51
                   clear c51
                   (first | rw [c51b0] | (simp only [i64_w, i32_w]; rw [c51b0]) | skip)
                   obtain ⟨ji52, hji52⟩ : ∃ j_ : Int, (wrap64 (x7_23 + 1)) = j_ := ⟨_, rfl⟩
                   replace H : (if 0 ≤ (ji52) then (if (bt a0 (ji52)) = 45 then (heraldref03_scan.j9 kj44 a0 (ji52) x8_1 x9_23 x10_23 0 x13_44 true) else (heraldref03_scan.j9 kj44 a0 (ji52) x8_1 x9_23 x10_23 0 x13_44 ((bt a0 (ji52)) == 43))) else (none)) = some (r1, r2, r3, r4, r5) := by first | (rw [hji52] at H; exact H) | (simp only [hji52] at H ⊢; exact H)
                   (try rw [hji52] at c51b0)
                   have hji52w : (IntKind.i64.wrap (x7_23 + 1)) = ji52 := (i64_w _).trans hji52
                   by_cases c53 : 0 ≤ (ji52)
                   ·rw [if_pos c53] at H
                    have c53b0 : decide (0 ≤ (ji52)) = true := decide_eq_true c53
                    clear c53
                    by_cases c55 : (bt a0 (ji52)) = 45
                    ·rw [if_pos c55] at H
                     have c55b0 : ((bt a0 (ji52)) == 45) = true := beq_iff_eq.mpr c55
                     have c55b1 : ((bt a0 (ji52)) != 45) = false := bne_eq_false_iff_eq.mpr c55
                     clear c55
                     as_aux_lemma =>
                      have H' := Aside0.mk H
                      clear H
                      have p54 : 0 ≤ ((ji52) : Int) := of_decide_eq_true (by first | (with_reducible assumption) | assumption)
                      have q54 : (ji52) < (a0.size : Int) := of_decide_eq_true (by first | (with_reducible assumption) | assumption)
                      have hx54 := bt_at a0 (ji52)
                      replace p54 := eq_true p54
                      replace q54 := eq_true q54
                      go_wp2
                      go_meet
                      case rel => exact ⟨_, (true), (by first | rfl | (simp; done) | (simp [*]; done) | (simp [i64_w]; done) | (simp [*, i64_w]; done) | (unfold wrap64; simp; done) | (unfold wrap64; omega)), (by first | exact H' | (rw [hji47]; exact H') | (rw [hji52]; exact H')), ⟨by have := HJ1.out; have := HJ4.out; have := HJ6.out; have := HJ19.out; have := HJ23.out; have := HJ37.out; have := HJ44.out; first | omega | exact Nat.le_refl _⟩, ⟨by (with_reducible repeat (first | apply Kd.R_alloc | apply Kd.R_drewN | apply Kd.R_drew)); exact HO_9.out⟩, ⟨by repeat (first | (with_reducible first | exact HB.out | apply below_alloc | apply pw_below_drewN | apply below_drew1) | exact HB.out)⟩⟩
                    ·rw [if_neg c55] at H
                     have c55b0 : ((bt a0 (ji52)) == 45) = false := beq_eq_false_iff_ne.mpr c55
                     have c55b1 : ((bt a0 (ji52)) != 45) = true := bne_iff_ne.mpr c55
                     as_aux_lemma =>
                      have H' := Aside0.mk H
                      clear H
                      have p54 : 0 ≤ ((ji52) : Int) := of_decide_eq_true (by first | (with_reducible assumption) | assumption)
                      have q54 : (ji52) < (a0.size : Int) := of_decide_eq_true (by first | (with_reducible assumption) | assumption)
                      have hx54 := bt_at a0 (ji52)
                      replace p54 := eq_true p54
                      replace q54 := eq_true q54
                      have p56 : 0 ≤ ((ji52) : Int) := of_decide_eq_true (by first | (with_reducible assumption) | assumption)
                      have q56 : (ji52) < (a0.size : Int) := of_decide_eq_true (by first | (with_reducible assumption) | assumption)
                      have hx56 := bt_at a0 (ji52)
                      replace p56 := eq_true p56
                      replace q56 := eq_true q56
                      go_wp2
                      go_meet
                      case rel => exact ⟨_, (((bt a0 (ji52)) == 43)), (by first | rfl | (simp; done) | (simp only [← hji52] <;> (first | rfl | simp)) | (simp [*]; done) | (simp [i64_w]; done) | (simp [*, i64_w]; done) | (unfold wrap64; simp; done) | (unfold wrap64; omega)), (by first | exact H' | (rw [hji47]; exact H') | (rw [hji52]; exact H')), ⟨by have := HJ1.out; have := HJ4.out; have := HJ6.out; have := HJ19.out; have := HJ23.out; have := HJ37.out; have := HJ44.out; first | omega | exact Nat.le_refl _⟩, ⟨by (with_reducible repeat (first | apply Kd.R_alloc | apply Kd.R_drewN | apply Kd.R_drew)); exact HO_9.out⟩, ⟨by repeat (first | (with_reducible first | exact HB.out | apply below_alloc | apply pw_below_drewN | apply below_drew1) | exact HB.out)⟩⟩
                   ·rw [if_neg c53] at H
                    exact absurd H (by simp)
                  ·rw [if_neg c51] at H
                   have c51b0 : decide ((wrap64 (x7_23 + 1)) < (a0.size : Int)) = false := decide_eq_false c51
                   clear c51
                   (first | rw [c51b0] | (simp only [i64_w, i32_w]; rw [c51b0]) | skip)
                   as_aux_lemma =>
                    have H' := Aside0.mk H
                    clear H
                    go_wp2
                    go_meet
                    case rel => exact ⟨_, (false), (by first | rfl | (simp; done) | (simp [*]; done) | (simp [i64_w]; done) | (simp [*, i64_w]; done) | (unfold wrap64; simp; done) | (unfold wrap64; omega)), (by first | exact H' | (rw [hji47]; exact H') | (rw [hji52]; exact H')), ⟨by have := HJ1.out; have := HJ4.out; have := HJ6.out; have := HJ19.out; have := HJ23.out; have := HJ37.out; have := HJ44.out; first | omega | exact Nat.le_refl _⟩, ⟨by (with_reducible repeat (first | apply Kd.R_alloc | apply Kd.R_drewN | apply Kd.R_drew)); exact HO_9.out⟩, ⟨by repeat (first | (with_reducible first | exact HB.out | apply below_alloc | apply pw_below_drewN | apply below_drew1) | exact HB.out)⟩⟩
                 case rest =>
                  clear HC50
                  try clear c1
                  try clear p1
                  try clear q1
                  try clear hx1
                  try clear c2
                  try clear p2
                  try clear q2
                  try clear hx2
                  try clear c3
                  try clear c3b0
                  try clear c3b1
                  try clear p3
                  try clear q3
                  try clear hx3
                  try clear c4
                  try clear p4
                  try clear q4
                  try clear hx4
                  try clear qi4
                  try clear c5
                  try clear p5
                  try clear q5
                  try clear hx5
                  try clear c6
                  try clear p6
                  try clear c10
                  try clear c10b0
                  try clear c11
                  try clear c11b0
                  try clear p12
                  try clear q12
                  try clear hx12
                  try clear c13
                  try clear c13b0
                  try clear p14
                  try clear q14
                  try clear hx14
                  try clear c15
                  try clear c15b0
                  try clear p16
                  try clear q16
                  try clear hx16
                  try clear c17
                  try clear c19
                  try clear c19b0
                  try clear c19b1
                  try clear c21
                  try clear c21b0
                  try clear c22
                  try clear c22b0
                  try clear p23
                  try clear q23
                  try clear hx23
                  try clear c25
                  try clear c26
                  try clear c26b0
                  try clear c27
                  try clear c27b0
                  try clear p28
                  try clear q28
                  try clear hx28
                  try clear c29
                  try clear c29b0
                  try clear p30
                  try clear q30
                  try clear hx30
                  try clear c31
                  try clear c31b0
                  try clear p32
                  try clear q32
                  try clear hx32
                  try clear c33
                  try clear c35
                  try clear c35b0
                  try clear c35b1
                  try clear c36
                  try clear c36b0
                  try clear c36b1
                  try clear c37
                  try clear c37b0
                  try clear c37b1
                  try clear c39
                  try clear c39b0
                  try clear c40
                  try clear c40b0
                  try clear p41
                  try clear q41
                  try clear hx41
                  try clear c42
                  try clear c42b0
                  try clear c42b1
                  try clear p43
                  try clear q43
                  try clear hx43
                  try clear c44
                  try clear c46
                  try clear c46b0
                  try clear c48
                  try clear c48b0
                  try clear p49
                  try clear q49
                  try clear hx49
                  try clear c51
                  try clear c51b0
                  try clear c53
                  try clear c53b0
                  try clear p54
                  try clear q54
                  try clear hx54
                  try clear c55
                  try clear c55b0
                  try clear c55b1
                  try clear p56
                  try clear q56
                  try clear hx56
                  try clear p1
                  try clear p12
                  try clear p14
                  try clear p16
                  try clear p2
                  try clear p23
                  try clear p28
                  try clear p3
                  try clear p30
                  try clear p32
                  try clear p4
                  try clear p41
                  try clear p43
                  try clear p49
                  try clear p54
                  try clear p56
                  try clear p6
                  try clear q1
                  try clear q12
                  try clear q14
                  try clear q16
                  try clear q2
                  try clear q23
                  try clear q28
                  try clear q3
                  try clear q30
                  try clear q32
                  try clear q4
                  try clear q41
                  try clear q43
                  try clear q49
                  try clear q54
                  try clear q56
                  obtain ⟨kq, x152_49, rfl, HA, HJ49, HO_9, HB⟩ := hcut
                  cases kq with
                  | zero => exact absurd HA.out (by simp [heraldref03_scan.j9])
                  | succ kj49 =>
                   have H := HA.out
                   clear HA
                   simp only [heraldref03_scan.j9] at H
                   have HC57 := Aside0.mk H
                   clear H
                   go_upto_if 152 with (fail)
                   go_cut [7] (fun v7 wc => ∃ (kq : Nat) (x7_56 : Int), v7 = .int .i64 x7_56 ∧ Aside0 (heraldref03_scan.j10 kq a0 x7_56 x8_1 x9_23 x10_23 0 x13_44 = some (r1, r2, r3, r4, r5)) ∧ Aside0 (kq ≤ kj49) ∧ Aside0 (Kd.R (Kd.int .i64) 3 wc w.heap.size (fun _ => True) u9 x9_23) ∧ Aside0 (Below w.heap.size w wc))
                   case first =>
                    have H := HC57.out
                    clear HC57
                    by_cases c58 : x152_49 = true
                    ·subst c58
                     have H1 : (heraldref03_scan.j10 kj49 a0 (wrap64 ((wrap64 (x7_23 + 1)) + 1)) x8_1 x9_23 x10_23 0 x13_44) = some (r1, r2, r3, r4, r5) := by rw [if_pos rfl] at H; exact H
                     clear H
                     have H := H1
                     clear H1
                     as_aux_lemma =>
                      have H' := Aside0.mk H
                      clear H
                      go_wp2
                      go_meet
                      case rel => exact ⟨_, (wrap64 ((wrap64 (x7_23 + 1)) + 1)), (by first | rfl | (simp; done) | (simp [*]; done) | (simp [i64_w]; done) | (simp [*, i64_w]; done) | (unfold wrap64; simp; done) | (unfold wrap64; omega)), (by first | exact H' | (rw [hji47]; exact H') | (rw [hji52]; exact H')), ⟨by have := HJ1.out; have := HJ4.out; have := HJ6.out; have := HJ19.out; have := HJ23.out; have := HJ37.out; have := HJ44.out; have := HJ49.out; first | omega | exact Nat.le_refl _⟩, ⟨by (with_reducible repeat (first | apply Kd.R_alloc | apply Kd.R_drewN | apply Kd.R_drew)); exact HO_9.out⟩, ⟨by repeat (first | (with_reducible first | exact HB.out | apply below_alloc | apply pw_below_drewN | apply below_drew1) | exact HB.out)⟩⟩
                    ·replace c58 := Bool.eq_false_iff.mpr c58
                     subst c58
                     have H1 : (heraldref03_scan.j10 kj49 a0 (wrap64 (x7_23 + 1)) x8_1 x9_23 x10_23 0 x13_44) = some (r1, r2, r3, r4, r5) := by rw [if_neg (show ¬ (false = true) by decide)] at H; exact H
                     clear H
                     have H := H1
                     clear H1
                     as_aux_lemma =>
                      have H' := Aside0.mk H
                      clear H
                      go_wp2
                      go_meet
                      case rel => exact ⟨_, ((wrap64 (x7_23 + 1))), (by first | rfl | (simp; done) | (simp [*]; done) | (simp [i64_w]; done) | (simp [*, i64_w]; done) | (unfold wrap64; simp; done) | (unfold wrap64; omega)), (by first | exact H' | (rw [hji47]; exact H') | (rw [hji52]; exact H')), ⟨by have := HJ1.out; have := HJ4.out; have := HJ6.out; have := HJ19.out; have := HJ23.out; have := HJ37.out; have := HJ44.out; have := HJ49.out; first | omega | exact Nat.le_refl _⟩, ⟨by (with_reducible repeat (first | apply Kd.R_alloc | apply Kd.R_drewN | apply Kd.R_drew)); exact HO_9.out⟩, ⟨by repeat (first | (with_reducible first | exact HB.out | apply below_alloc | apply pw_below_drewN | apply below_drew1) | exact HB.out)⟩⟩
                   case rest =>
                    clear HC57
                    try clear c1
                    try clear p1
                    try clear q1
                    try clear hx1
                    try clear c2
                    try clear p2
                    try clear q2
                    try clear hx2
                    try clear c3
                    try clear c3b0
                    try clear c3b1
                    try clear p3
                    try clear q3
                    try clear hx3
                    try clear c4
                    try clear p4
                    try clear q4
                    try clear hx4
                    try clear qi4
                    try clear c5
                    try clear p5
                    try clear q5
                    try clear hx5
                    try clear c6
                    try clear p6
                    try clear c10
                    try clear c10b0
                    try clear c11
                    try clear c11b0
                    try clear p12
                    try clear q12
                    try clear hx12
                    try clear c13
                    try clear c13b0
                    try clear p14
                    try clear q14
                    try clear hx14
                    try clear c15
                    try clear c15b0
                    try clear p16
                    try clear q16
                    try clear hx16
                    try clear c17
                    try clear c19
                    try clear c19b0
                    try clear c19b1
                    try clear c21
                    try clear c21b0
                    try clear c22
                    try clear c22b0
                    try clear p23
                    try clear q23
                    try clear hx23
                    try clear c25
                    try clear c26
                    try clear c26b0
                    try clear c27
                    try clear c27b0
                    try clear p28
                    try clear q28
                    try clear hx28
                    try clear c29
                    try clear c29b0
                    try clear p30
                    try clear q30
                    try clear hx30
                    try clear c31
                    try clear c31b0
                    try clear p32
                    try clear q32
                    try clear hx32
                    try clear c33
                    try clear c35
                    try clear c35b0
                    try clear c35b1
                    try clear c36
                    try clear c36b0
                    try clear c36b1
                    try clear c37
                    try clear c37b0
                    try clear c37b1
                    try clear c39
                    try clear c39b0
                    try clear c40
                    try clear c40b0
                    try clear p41
                    try clear q41
                    try clear hx41
                    try clear c42
                    try clear c42b0
                    try clear c42b1
                    try clear p43
                    try clear q43
                    try clear hx43
                    try clear c44
                    try clear c46
                    try clear c46b0
                    try clear c48
                    try clear c48b0
                    try clear p49
                    try clear q49
                    try clear hx49
                    try clear c51
                    try clear c51b0
                    try clear c53
                    try clear c53b0
                    try clear p54
                    try clear q54
                    try clear hx54
                    try clear c55
                    try clear c55b0
                    try clear c55b1
                    try clear p56
                    try clear q56
                    try clear hx56
                    try clear c58
                    try clear p1
                    try clear p12
                    try clear p14
                    try clear p16
                    try clear p2
                    try clear p23
                    try clear p28
                    try clear p3
                    try clear p30
                    try clear p32
                    try clear p4
                    try clear p41
                    try clear p43
                    try clear p49
                    try clear p5
                    try clear p54
                    try clear p56
                    try clear p6
                    try clear q1
                    try clear q12
                    try clear q14
                    try clear q16
                    try clear q2
                    try clear q23
                    try clear q28
                    try clear q3
                    try clear q30
                    try clear q32
                    try clear q4
                    try clear q41
                    try clear q43
                    try clear q49
                    try clear q5
                    try clear q54
                    try clear q56
                    obtain ⟨kq, x7_56, rfl, HA, HJ56, HO_9, HB⟩ := hcut
                    cases kq with
                    | zero => exact absurd HA.out (by simp [heraldref03_scan.j10])
                    | succ kj56 =>
                     have H := HA.out
                     clear HA
                     simp only [heraldref03_scan.j10] at H
                     have H' := Aside0.mk H
                     clear H
                     go_wp2
                     go_loopg [7, 11] kj56 (fun kq v7 v11 w' => ∃ (x7_10 : Int) (x11_10 : Int), v7 = .int .i64 x7_10 ∧ v11 = .int .i64 x11_10 ∧ Aside0 (heraldref03_scan.l2 kq a0 x7_10 x8_1 x9_23 x10_23 x11_10 x7_56 x13_44 = some (r1, r2, r3, r4, r5)) ∧ Aside0 (kq ≤ kj56) ∧ Aside0 (Kd.R (Kd.int .i64) 3 w' w.heap.size (fun _ => True) u9 x9_23) ∧ Aside0 (Below w.heap.size w w'))
                     case atStart => exact ⟨(x7_56), (0), (by first | rfl | (simp; done) | (simp [*]; done) | (simp [i64_w]; done) | (simp [*, i64_w]; done) | (unfold wrap64; simp; done) | (unfold wrap64; omega)), (by first | rfl | (simp; done) | (simp [*]; done) | (simp [i64_w]; done) | (simp [*, i64_w]; done) | (unfold wrap64; simp; done) | (unfold wrap64; omega)), H', ⟨Nat.le_refl _⟩, ⟨by (with_reducible repeat (first | apply Kd.R_alloc | apply Kd.R_drewN | apply Kd.R_drew)); exact HO_9.out⟩, ⟨by repeat (first | (with_reducible first | exact HB.out | apply below_alloc | apply pw_below_drewN | apply below_drew1) | exact HB.out)⟩⟩
                     case round =>
                      clear H'
                      try clear c1
                      try clear p1
                      try clear q1
                      try clear hx1
                      try clear c2
                      try clear p2
                      try clear q2
                      try clear hx2
                      try clear c3
                      try clear c3b0
                      try clear c3b1
                      try clear p3
                      try clear q3
                      try clear hx3
                      try clear c4
                      try clear p4
                      try clear q4
                      try clear hx4
                      try clear qi4
                      try clear c5
                      try clear p5
                      try clear q5
                      try clear hx5
                      try clear c6
                      try clear p6
                      try clear c10
                      try clear c10b0
                      try clear c11
                      try clear c11b0
                      try clear p12
                      try clear q12
                      try clear hx12
                      try clear c13
                      try clear c13b0
                      try clear p14
                      try clear q14
                      try clear hx14
                      try clear c15
                      try clear c15b0
                      try clear p16
                      try clear q16
                      try clear hx16
                      try clear c17
                      try clear c19
                      try clear c19b0
                      try clear c19b1
                      try clear c21
                      try clear c21b0
                      try clear c22
                      try clear c22b0
                      try clear p23
                      try clear q23
                      try clear hx23
                      try clear c25
                      try clear c26
                      try clear c26b0
                      try clear c27
                      try clear c27b0
                      try clear p28
                      try clear q28
                      try clear hx28
                      try clear c29
                      try clear c29b0
                      try clear p30
                      try clear q30
                      try clear hx30
                      try clear c31
                      try clear c31b0
                      try clear p32
                      try clear q32
                      try clear hx32
                      try clear c33
                      try clear c35
                      try clear c35b0
                      try clear c35b1
                      try clear c36
                      try clear c36b0
                      try clear c36b1
                      try clear c37
                      try clear c37b0
                      try clear c37b1
                      try clear c39
                      try clear c39b0
                      try clear c40
                      try clear c40b0
                      try clear p41
                      try clear q41
                      try clear hx41
                      try clear c42
                      try clear c42b0
                      try clear c42b1
                      try clear p43
                      try clear q43
                      try clear hx43
                      try clear c44
                      try clear c46
                      try clear c46b0
                      try clear c48
                      try clear c48b0
                      try clear p49
                      try clear q49
                      try clear hx49
                      try clear c51
                      try clear c51b0
                      try clear c53
                      try clear c53b0
                      try clear p54
                      try clear q54
                      try clear hx54
                      try clear c55
                      try clear c55b0
                      try clear c55b1
                      try clear p56
                      try clear q56
                      try clear hx56
                      try clear c58
                      try clear p1
                      try clear p12
                      try clear p14
                      try clear p16
                      try clear p2
                      try clear p23
                      try clear p28
                      try clear p3
                      try clear p30
                      try clear p32
                      try clear p4
                      try clear p41
                      try clear p43
                      try clear p49
                      try clear p5
                      try clear p54
                      try clear p56
                      try clear p6
                      try clear q1
                      try clear q12
                      try clear q14
                      try clear q16
                      try clear q2
                      try clear q23
                      try clear q28
                      try clear q3
                      try clear q30
                      try clear q32
                      try clear q4
                      try clear q41
                      try clear q43
                      try clear q49
                      try clear q5
                      try clear q54
                      try clear q56
                      obtain ⟨x7_10, x11_10, rfl, rfl, HA, HK10, HO_9, HB⟩ := hrel
                      cases gk with
                      | zero => exact absurd HA.out (by simp [heraldref03_scan.l2])
                      | succ k10 =>
                       have H := HA.out
                       clear HA
                       simp only [heraldref03_scan.l2] at H
                       have HC59 := Aside0.mk H
                       clear H
                       go_upto_region 27 with (fail)
                       go_cut [171] (fun v171 wc => ∃ (kq : Nat) (x171_58 : Bool), v171 = .bool x171_58 ∧ Aside0 (heraldref03_scan.j12 kq a0 x7_10 x8_1 x9_23 x10_23 x11_10 x7_56 x13_44 x171_58 = some (r1, r2, r3, r4, r5)) ∧ Aside0 (kq ≤ k10) ∧ Aside0 (Kd.R (Kd.int .i64) 3 wc w.heap.size (fun _ => True) u9 x9_23) ∧ Aside0 (Below w.heap.size w wc))
                       case first =>
                        have H := HC59.out
                        clear HC59
                        by_cases c60 : x7_10 < (a0.size : Int)
                        ·rw [if_pos c60] at H
                         have c60b0 : decide (x7_10 < (a0.size : Int)) = true := decide_eq_true c60
                         clear c60
                         (first | rw [c60b0] | (simp only [i64_w, i32_w]; rw [c60b0]) | skip)
                         by_cases c61 : 0 ≤ x7_10
                         ·rw [if_pos c61] at H
                          have c61b0 : decide (0 ≤ x7_10) = true := decide_eq_true c61
                          clear c61
                          by_cases c63 : (bt a0 x7_10) ≥ 48
                          ·rw [if_pos c63] at H
                           have c63b0 : decide (48 ≤ (bt a0 x7_10)) = true := decide_eq_true c63
                           clear c63
                           as_aux_lemma =>
                            have H' := Aside0.mk H
                            clear H
                            have p62 : 0 ≤ (x7_10 : Int) := of_decide_eq_true (by first | (with_reducible assumption) | assumption)
                            have q62 : x7_10 < (a0.size : Int) := of_decide_eq_true (by first | (with_reducible assumption) | assumption)
                            have hx62 := bt_at a0 x7_10
                            replace p62 := eq_true p62
                            replace q62 := eq_true q62
                            have p64 : 0 ≤ (x7_10 : Int) := of_decide_eq_true (by first | (with_reducible assumption) | assumption)
                            have q64 : x7_10 < (a0.size : Int) := of_decide_eq_true (by first | (with_reducible assumption) | assumption)
                            have hx64 := bt_at a0 x7_10
                            replace p64 := eq_true p64
                            replace q64 := eq_true q64
                            go_wp2
                            go_meet
                            case rel => exact ⟨_, (decide ((bt a0 x7_10) ≤ 57)), (by first | rfl | (simp; done) | (simp [*]; done) | (simp [i64_w]; done) | (simp [*, i64_w]; done) | (unfold wrap64; simp; done) | (unfold wrap64; omega)), (by first | exact H' | (rw [hji47]; exact H') | (rw [hji52]; exact H')), ⟨by have := HJ1.out; have := HJ4.out; have := HJ6.out; have := HJ19.out; have := HJ23.out; have := HJ37.out; have := HJ44.out; have := HJ49.out; have := HJ56.out; have := HK10.out; first | omega | exact Nat.le_refl _⟩, ⟨by (with_reducible repeat (first | apply Kd.R_alloc | apply Kd.R_drewN | apply Kd.R_drew)); exact HO_9.out⟩, ⟨by repeat (first | (with_reducible first | exact HB.out | apply below_alloc | apply pw_below_drewN | apply below_drew1) | exact HB.out)⟩⟩
                          ·rw [if_neg c63] at H
                           have c63b0 : decide (48 ≤ (bt a0 x7_10)) = false := decide_eq_false c63
                           clear c63
                           as_aux_lemma =>
                            have H' := Aside0.mk H
                            clear H
                            have p62 : 0 ≤ (x7_10 : Int) := of_decide_eq_true (by first | (with_reducible assumption) | assumption)
                            have q62 : x7_10 < (a0.size : Int) := of_decide_eq_true (by first | (with_reducible assumption) | assumption)
                            have hx62 := bt_at a0 x7_10
                            replace p62 := eq_true p62
                            replace q62 := eq_true q62
                            go_wp2
                            go_meet
                            case rel => exact ⟨_, (false), (by first | rfl | (simp; done) | (simp [*]; done) | (simp [i64_w]; done) | (simp [*, i64_w]; done) | (unfold wrap64; simp; done) | (unfold wrap64; omega)), (by first | exact H' | (rw [hji47]; exact H') | (rw [hji52]; exact H')), ⟨by have := HJ1.out; have := HJ4.out; have := HJ6.out; have := HJ19.out; have := HJ23.out; have := HJ37.out; have := HJ44.out; have := HJ49.out; have := HJ56.out; have := HK10.out; first | omega | exact Nat.le_refl _⟩, ⟨by (with_reducible repeat (first | apply Kd.R_alloc | apply Kd.R_drewN | apply Kd.R_drew)); exact HO_9.out⟩, ⟨by repeat (first | (with_reducible first | exact HB.out | apply below_alloc | apply pw_below_drewN | apply below_drew1) | exact HB.out)⟩⟩
                         ·rw [if_neg c61] at H
                          exact absurd H (by simp)
                        ·rw [if_neg c60] at H
                         have c60b0 : decide (x7_10 < (a0.size : Int)) = false := decide_eq_false c60
                         clear c60
                         (first | rw [c60b0] | (simp only [i64_w, i32_w]; rw [c60b0]) | skip)
                         as_aux_lemma =>
                          have H' := Aside0.mk H
                          clear H
                          go_wp2
                          go_meet
                          case rel => exact ⟨_, (false), (by first | rfl | (simp; done) | (simp [*]; done) | (simp [i64_w]; done) | (simp [*, i64_w]; done) | (unfold wrap64; simp; done) | (unfold wrap64; omega)), (by first | exact H' | (rw [hji47]; exact H') | (rw [hji52]; exact H')), ⟨by have := HJ1.out; have := HJ4.out; have := HJ6.out; have := HJ19.out; have := HJ23.out; have := HJ37.out; have := HJ44.out; have := HJ49.out; have := HJ56.out; have := HK10.out; first | omega | exact Nat.le_refl _⟩, ⟨by (with_reducible repeat (first | apply Kd.R_alloc | apply Kd.R_drewN | apply Kd.R_drew)); exact HO_9.out⟩, ⟨by repeat (first | (with_reducible first | exact HB.out | apply below_alloc | apply pw_below_drewN | apply below_drew1) | exact HB.out)⟩⟩
                       case rest =>
                        clear HC59
                        try clear c1
                        try clear p1
                        try clear q1
                        try clear hx1
                        try clear c2
                        try clear p2
                        try clear q2
                        try clear hx2
                        try clear c3
                        try clear c3b0
                        try clear c3b1
                        try clear p3
                        try clear q3
                        try clear hx3
                        try clear c4
                        try clear p4
                        try clear q4
                        try clear hx4
                        try clear qi4
                        try clear c5
                        try clear p5
                        try clear q5
                        try clear hx5
                        try clear c6
                        try clear p6
                        try clear q6
                        try clear hx6
                        try clear c10
                        try clear c10b0
                        try clear c11
                        try clear c11b0
                        try clear p12
                        try clear q12
                        try clear hx12
                        try clear c13
                        try clear c13b0
                        try clear p14
                        try clear q14
                        try clear hx14
                        try clear c15
                        try clear c15b0
                        try clear p16
                        try clear q16
                        try clear hx16
                        try clear c17
                        try clear c19
                        try clear c19b0
                        try clear c19b1
                        try clear c21
                        try clear c21b0
                        try clear c22
                        try clear c22b0
                        try clear p23
                        try clear q23
                        try clear hx23
                        try clear c25
                        try clear c26
                        try clear c26b0
                        try clear c27
                        try clear c27b0
                        try clear p28
                        try clear q28
                        try clear hx28
                        try clear c29
                        try clear c29b0
                        try clear p30
                        try clear q30
                        try clear hx30
                        try clear c31
                        try clear c31b0
                        try clear p32
                        try clear q32
                        try clear hx32
                        try clear c33
                        try clear c35
                        try clear c35b0
                        try clear c35b1
                        try clear c36
                        try clear c36b0
                        try clear c36b1
                        try clear c37
                        try clear c37b0
                        try clear c37b1
                        try clear c39
                        try clear c39b0
                        try clear c40
                        try clear c40b0
                        try clear p41
                        try clear q41
                        try clear hx41
                        try clear c42
                        try clear c42b0
                        try clear c42b1
                        try clear p43
                        try clear q43
                        try clear hx43
                        try clear c44
                        try clear c46
                        try clear c46b0
                        try clear c48
                        try clear c48b0
                        try clear p49
                        try clear q49
                        try clear hx49
                        try clear c51
                        try clear c51b0
                        try clear c53
                        try clear c53b0
                        try clear p54
                        try clear q54
                        try clear hx54
                        try clear c55
                        try clear c55b0
                        try clear c55b1
                        try clear p56
                        try clear q56
                        try clear hx56
                        try clear c58
                        try clear c60
                        try clear c60b0
                        try clear c61
                        try clear c61b0
                        try clear p62
                        try clear q62
                        try clear hx62
                        try clear c63
                        try clear c63b0
                        try clear p64
                        try clear q64
                        try clear hx64
                        try clear p1
                        try clear p12
                        try clear p14
                        try clear p16
                        try clear p2
                        try clear p23
                        try clear p28
                        try clear p3
                        try clear p30
                        try clear p32
                        try clear p4
                        try clear p41
                        try clear p43
                        try clear p49
                        try clear p5
                        try clear p54
                        try clear p56
                        try clear p6
                        try clear p62
                        try clear p64
                        try clear q1
                        try clear q12
                        try clear q14
                        try clear q16
                        try clear q2
                        try clear q23
                        try clear q28
                        try clear q3
                        try clear q30
                        try clear q32
                        try clear q4
                        try clear q41
                        try clear q43
                        try clear q49
                        try clear q5
                        try clear q54
                        try clear q56
                        try clear q62
                        try clear q64
                        obtain ⟨kq, x171_58, rfl, HA, HJ58, HO_9, HB⟩ := hcut
                        cases kq with
                        | zero => exact absurd HA.out (by simp [heraldref03_scan.j12])
                        | succ kj58 =>
                         have H := HA.out
                         clear HA
                         simp only [heraldref03_scan.j12] at H
                         by_cases c65 : x171_58 = true
                         ·subst c65
                          have H1 : (if x11_10 < 100000 then (if 0 ≤ x7_10 then (if x7_10 < (a0.size : Int) then (heraldref03_scan.l2 kj58 a0 (wrap64 (x7_10 + 1)) x8_1 x9_23 x10_23 (wrap64 ((wrap64 (10 * x11_10)) + (((bt a0 x7_10) - 48) % 256))) x7_56 x13_44) else (none)) else (none)) else (heraldref03_scan.l2 kj58 a0 (wrap64 (x7_10 + 1)) x8_1 x9_23 x10_23 x11_10 x7_56 x13_44)) = some (r1, r2, r3, r4, r5) := by rw [if_pos rfl] at H; exact H
                          clear H
                          have H := H1
                          clear H1
                          by_cases c66 : x11_10 < 100000
                          ·rw [if_pos c66] at H
                           have c66b0 : decide (x11_10 < 100000) = true := decide_eq_true c66
                           clear c66
                           by_cases c67 : 0 ≤ x7_10
                           ·rw [if_pos c67] at H
                            have c67b0 : decide (0 ≤ x7_10) = true := decide_eq_true c67
                            clear c67
                            by_cases c68 : x7_10 < (a0.size : Int)
                            ·rw [if_pos c68] at H
                             have c68b0 : decide (x7_10 < (a0.size : Int)) = true := decide_eq_true c68
                             clear c68
                             as_aux_lemma =>
                              have H' := Aside0.mk H
                              clear H
                              have p69 : 0 ≤ (x7_10 : Int) := of_decide_eq_true (by first | (with_reducible assumption) | assumption)
                              have q69 : x7_10 < (a0.size : Int) := of_decide_eq_true (by first | (with_reducible assumption) | assumption)
                              have hx69 := bt_at a0 x7_10
                              replace p69 := eq_true p69
                              replace q69 := eq_true q69
                              go_wp2
                              go_roundg kj58
                              case measure => have := HJ1.out; have := HJ4.out; have := HJ6.out; have := HJ19.out; have := HJ23.out; have := HJ37.out; have := HJ44.out; have := HJ49.out; have := HJ56.out; have := HK10.out; have := HJ58.out; omega
                              case rel => exact ⟨(wrap64 (x7_10 + 1)), (wrap64 ((wrap64 (10 * x11_10)) + (((bt a0 x7_10) - 48) % 256))), (by first | rfl | (simp; done) | (simp [*]; done) | (simp [i64_w]; done) | (simp [*, i64_w]; done) | (unfold wrap64; simp; done) | (unfold wrap64; omega)), (by first | rfl | (simp; done) | (simp [*]; done) | (simp [i64_w]; done) | (simp [*, i64_w]; done) | (unfold wrap64; simp; done) | (unfold wrap64; omega)), (by first | exact H' | (rw [hji47]; exact H') | (rw [hji52]; exact H')), ⟨by have := HJ1.out; have := HJ4.out; have := HJ6.out; have := HJ19.out; have := HJ23.out; have := HJ37.out; have := HJ44.out; have := HJ49.out; have := HJ56.out; have := HK10.out; have := HJ58.out; omega⟩, ⟨by (with_reducible repeat (first | apply Kd.R_alloc | apply Kd.R_drewN | apply Kd.R_drew)); exact HO_9.out⟩, ⟨by repeat (first | (with_reducible first | exact HB.out | apply below_alloc | apply pw_below_drewN | apply below_drew1) | exact HB.out)⟩⟩
                            ·rw [if_neg c68] at H
                             exact absurd H (by simp)
                           ·rw [if_neg c67] at H
                            exact absurd H (by simp)
                          ·rw [if_neg c66] at H
                           have c66b0 : decide (x11_10 < 100000) = false := decide_eq_false c66
                           clear c66
                           as_aux_lemma =>
                            have H' := Aside0.mk H
                            clear H
                            go_wp2
                            go_roundg kj58
                            case measure => have := HJ1.out; have := HJ4.out; have := HJ6.out; have := HJ19.out; have := HJ23.out; have := HJ37.out; have := HJ44.out; have := HJ49.out; have := HJ56.out; have := HK10.out; have := HJ58.out; omega
                            case rel => exact ⟨(wrap64 (x7_10 + 1)), (x11_10), (by first | rfl | (simp; done) | (simp [*]; done) | (simp [i64_w]; done) | (simp [*, i64_w]; done) | (unfold wrap64; simp; done) | (unfold wrap64; omega)), (by first | rfl | (simp; done) | (simp [*]; done) | (simp [i64_w]; done) | (simp [*, i64_w]; done) | (unfold wrap64; simp; done) | (unfold wrap64; omega)), (by first | exact H' | (rw [hji47]; exact H') | (rw [hji52]; exact H')), ⟨by have := HJ1.out; have := HJ4.out; have := HJ6.out; have := HJ19.out; have := HJ23.out; have := HJ37.out; have := HJ44.out; have := HJ49.out; have := HJ56.out; have := HK10.out; have := HJ58.out; omega⟩, ⟨by (with_reducible repeat (first | apply Kd.R_alloc | apply Kd.R_drewN | apply Kd.R_drew)); exact HO_9.out⟩, ⟨by repeat (first | (with_reducible first | exact HB.out | apply below_alloc | apply pw_below_drewN | apply below_drew1) | exact HB.out)⟩⟩
                         ·replace c65 := Bool.eq_false_iff.mpr c65
                          subst c65
                          have H1 : (if x7_10 = x7_56 then (some (x8_1, x9_23, 0, 0, x7_10)) else (if x13_44 = true then (if x7_10 < (a0.size : Int) then (some (x8_1, x9_23, 0, 0, x7_10)) else (some (x8_1, x9_23, x10_23, wrap64 (-x11_10), (-1)))) else (if x7_10 < (a0.size : Int) then (some (x8_1, x9_23, 0, 0, x7_10)) else (some (x8_1, x9_23, x10_23, x11_10, (-1)))))) = some (r1, r2, r3, r4, r5) := by rw [if_neg (show ¬ (false = true) by decide)] at H; exact H
                          clear H
                          have H := H1
                          clear H1
                          by_cases c70 : x7_10 = x7_56
                          ·rw [if_pos c70] at H
                           have c70b0 : (x7_10 == x7_56) = true := beq_iff_eq.mpr c70
                           have c70b1 : (x7_10 != x7_56) = false := bne_eq_false_iff_eq.mpr c70
                           clear c70
                           as_aux_lemma =>
                            simp only [Option.some.injEq, Prod.mk.injEq] at H
                            obtain ⟨rfl, rfl, rfl, rfl, rfl⟩ := H
                            go_wp2
                            refine bodyPost_ret (results_list (rs := [.tmp 2, .tmp 3, .tmp 4, .tmp 5, .tmp 6]) rfl (by simp) (.tmp (.tmp (.tmp (.tmp (.tmp .nil)))))) rfl ?_
                            exact ⟨_, by first | rfl | (simp [errW_none, errW_some] <;> rfl) | (simp [*, errW_none, errW_some] <;> rfl), by (with_reducible repeat (first | apply Kd.R_alloc | apply Kd.R_drewN | apply Kd.R_drew)); exact HO_9.out, by repeat (first | (with_reducible first | exact HB.out | apply below_alloc | apply pw_below_drewN | apply below_drew1) | exact HB.out)⟩
                          ·rw [if_neg c70] at H
                           have c70b0 : (x7_10 == x7_56) = false := beq_eq_false_iff_ne.mpr c70
                           have c70b1 : (x7_10 != x7_56) = true := bne_iff_ne.mpr c70
                           by_cases c71 : x13_44 = true
                           ·subst c71
                            have H1 : (if x7_10 < (a0.size : Int) then (some (x8_1, x9_23, 0, 0, x7_10)) else (some (x8_1, x9_23, x10_23, wrap64 (-x11_10), (-1)))) = some (r1, r2, r3, r4, r5) := by rw [if_pos rfl] at H; exact H
                            clear H
                            have H := H1
                            clear H1
                            by_cases c72 : x7_10 < (a0.size : Int)
                            ·rw [if_pos c72] at H
                             have c72b0 : decide (x7_10 < (a0.size : Int)) = true := decide_eq_true c72
                             clear c72
                             as_aux_lemma =>
                              simp only [Option.some.injEq, Prod.mk.injEq] at H
                              obtain ⟨rfl, rfl, rfl, rfl, rfl⟩ := H
                              go_wp2
                              refine bodyPost_ret (results_list (rs := [.tmp 2, .tmp 3, .tmp 4, .tmp 5, .tmp 6]) rfl (by simp) (.tmp (.tmp (.tmp (.tmp (.tmp .nil)))))) rfl ?_
                              exact ⟨_, by first | rfl | (simp [errW_none, errW_some] <;> rfl) | (simp [*, errW_none, errW_some] <;> rfl), by (with_reducible repeat (first | apply Kd.R_alloc | apply Kd.R_drewN | apply Kd.R_drew)); exact HO_9.out, by repeat (first | (with_reducible first | exact HB.out | apply below_alloc | apply pw_below_drewN | apply below_drew1) | exact HB.out)⟩
                            ·rw [if_neg c72] at H
                             have c72b0 : decide (x7_10 < (a0.size : Int)) = false := decide_eq_false c72
                             clear c72
                             as_aux_lemma =>
                              simp only [Option.some.injEq, Prod.mk.injEq] at H
                              obtain ⟨rfl, rfl, rfl, rfl, rfl⟩ := H
                              go_wp2
                              refine bodyPost_ret (results_list (rs := [.tmp 2, .tmp 3, .tmp 4, .tmp 5, .tmp 6]) rfl (by simp) (.tmp (.tmp (.tmp (.tmp (.tmp .nil)))))) rfl ?_
                              exact ⟨_, by first | rfl | (simp [errW_none, errW_some] <;> rfl) | (simp [*, errW_none, errW_some] <;> rfl), by (with_reducible repeat (first | apply Kd.R_alloc | apply Kd.R_drewN | apply Kd.R_drew)); exact HO_9.out, by repeat (first | (with_reducible first | exact HB.out | apply below_alloc | apply pw_below_drewN | apply below_drew1) | exact HB.out)⟩
                           ·replace c71 := Bool.eq_false_iff.mpr c71
                            subst c71
                            have H1 : (if x7_10 < (a0.size : Int) then (some (x8_1, x9_23, 0, 0, x7_10)) else (some (x8_1, x9_23, x10_23, x11_10, (-1)))) = some (r1, r2, r3, r4, r5) := by rw [if_neg (show ¬ (false = true) by decide)] at H; exact H
                            clear H
                            have H := H1
                            clear H1
                            by_cases c73 : x7_10 < (a0.size : Int)
                            ·rw [if_pos c73] at H
                             have c73b0 : decide (x7_10 < (a0.size : Int)) = true := decide_eq_true c73
                             clear c73
                             as_aux_lemma =>
                              simp only [Option.some.injEq, Prod.mk.injEq] at H
                              obtain ⟨rfl, rfl, rfl, rfl, rfl⟩ := H
                              go_wp2
                              refine bodyPost_ret (results_list (rs := [.tmp 2, .tmp 3, .tmp 4, .tmp 5, .tmp 6]) rfl (by simp) (.tmp (.tmp (.tmp (.tmp (.tmp .nil)))))) rfl ?_
                              exact ⟨_, by first | rfl | (simp [errW_none, errW_some] <;> rfl) | (simp [*, errW_none, errW_some] <;> rfl), by (with_reducible repeat (first | apply Kd.R_alloc | apply Kd.R_drewN | apply Kd.R_drew)); exact HO_9.out, by repeat (first | (with_reducible first | exact HB.out | apply below_alloc | apply pw_below_drewN | apply below_drew1) | exact HB.out)⟩
                            ·rw [if_neg c73] at H
                             have c73b0 : decide (x7_10 < (a0.size : Int)) = false := decide_eq_false c73
                             clear c73
                             as_aux_lemma =>
                              simp only [Option.some.injEq, Prod.mk.injEq] at H
                              obtain ⟨rfl, rfl, rfl, rfl, rfl⟩ := H
                              go_wp2
                              refine bodyPost_ret (results_list (rs := [.tmp 2, .tmp 3, .tmp 4, .tmp 5, .tmp 6]) rfl (by simp) (.tmp (.tmp (.tmp (.tmp (.tmp .nil)))))) rfl ?_
                              exact ⟨_, by first | rfl | (simp [errW_none, errW_some] <;> rfl) | (simp [*, errW_none, errW_some] <;> rfl), by (with_reducible repeat (first | apply Kd.R_alloc | apply Kd.R_drewN | apply Kd.R_drew)); exact HO_9.out, by repeat (first | (with_reducible first | exact HB.out | apply below_alloc | apply pw_below_drewN | apply below_drew1) | exact HB.out)⟩
              ·replace c44 := Bool.eq_false_iff.mpr c44
               subst c44
               have H1 : (if x7_23 < (a0.size : Int) then (some (x8_1, x9_23, 0, 0, x7_23)) else (some (x8_1, x9_23, x10_23, 0, (-1)))) = some (r1, r2, r3, r4, r5) := by rw [if_neg (show ¬ (false = true) by decide)] at H; exact H
               clear H
               have H := H1
               clear H1
               by_cases c74 : x7_23 < (a0.size : Int)
               ·rw [if_pos c74] at H
                have c74b0 : decide (x7_23 < (a0.size : Int)) = true := decide_eq_true c74
                clear c74
                as_aux_lemma =>
                 simp only [Option.some.injEq, Prod.mk.injEq] at H
                 obtain ⟨rfl, rfl, rfl, rfl, rfl⟩ := H
                 go_wp2
                 refine bodyPost_ret (results_list (rs := [.tmp 2, .tmp 3, .tmp 4, .tmp 5, .tmp 6]) rfl (by simp) (.tmp (.tmp (.tmp (.tmp (.tmp .nil)))))) rfl ?_
                 exact ⟨_, by first | rfl | (simp [errW_none, errW_some] <;> rfl) | (simp [*, errW_none, errW_some] <;> rfl), by (with_reducible repeat (first | apply Kd.R_alloc | apply Kd.R_drewN | apply Kd.R_drew)); exact HO_9.out, by repeat (first | (with_reducible first | exact HB.out | apply below_alloc | apply pw_below_drewN | apply below_drew1) | exact HB.out)⟩
               ·rw [if_neg c74] at H
                have c74b0 : decide (x7_23 < (a0.size : Int)) = false := decide_eq_false c74
                clear c74
                as_aux_lemma =>
                 simp only [Option.some.injEq, Prod.mk.injEq] at H
                 obtain ⟨rfl, rfl, rfl, rfl, rfl⟩ := H
                 go_wp2
                 refine bodyPost_ret (results_list (rs := [.tmp 2, .tmp 3, .tmp 4, .tmp 5, .tmp 6]) rfl (by simp) (.tmp (.tmp (.tmp (.tmp (.tmp .nil)))))) rfl ?_
                 exact ⟨_, by first | rfl | (simp [errW_none, errW_some] <;> rfl) | (simp [*, errW_none, errW_some] <;> rfl), by (with_reducible repeat (first | apply Kd.R_alloc | apply Kd.R_drewN | apply Kd.R_drew)); exact HO_9.out, by repeat (first | (with_reducible first | exact HB.out | apply below_alloc | apply pw_below_drewN | apply below_drew1) | exact HB.out)⟩
end Go.Proofs.YteecekhfpfnepaaDoor.PAll
end

section
namespace Go.Proofs.YteecekhfpfnepaaDoor.PAll
open Go.RowKit Go.Proofs.YteecekhfpfnepaaDoorW.PrintWords Go.Proofs.YteecekhfpfnepaaDoorW.PrintLast Go.Proofs.YteecekhfpfnepaaDoorW.PrintMore
attribute [local go_sem] max2_int min2_int max_two min_two max_three min_three max_four min_four   -- for this text's walks alone
set_option linter.unusedVariables false
set_option linter.unusedSimpArgs false
def heraldref03_word.l0 : Nat → ByteArray → ByteArray → Int → Option (Int)
 | 0, _, _, _ => none
 | k + 1, x0, x1, x5 => if x5 < (x0.size : Int) then (if x5 < (x1.size : Int) then (if 0 ≤ x5 then (if (bt x0 x5) = (bt x1 x5) then (heraldref03_word.l0 k x0 x1 (wrap64 (x5 + 1))) else (some x5)) else (none)) else (some x5)) else (some x5)
def heraldref03_word.f (k : Nat) (a0 : ByteArray) (a1 : ByteArray) : Option (Int) := heraldref03_word.l0 k a0 a1 0
set_option maxHeartbeats 8000000 in
set_option maxRecDepth 100000 in
theorem heraldref03_word.calls (k : Nat) (a0 : ByteArray) (a1 : ByteArray) (r : Int) (w : World) (h : heraldref03_word.f k a0 a1 = some r) :
  Calls Tryd.prog 50 #[.string a0, .string a1] w fun e w' => e = .returned (.int .i64 r) ∧ Drawn0 w w' := by
 have H : (heraldref03_word.l0 k a0 a1 0) = some r := h
 clear h
 have H' := Aside0.mk H
 clear H
 go_enter Tryd.func50, Tryd.ntmps50
 go_wp2
 repeat (go_quiet (fail); try go_wp2)
 go_loopg [5] k (fun kq v5 w' => ∃ (x5_1 : Int), v5 = .int .i64 x5_1 ∧ Aside0 (heraldref03_word.l0 kq a0 a1 x5_1 = some r) ∧ Aside0 (kq ≤ k) ∧ Drawn0 w w')
 case atStart => exact ⟨(0), (by first | rfl | (simp; done) | (simp [*]; done) | (simp [i64_w]; done) | (simp [*, i64_w]; done)), H', ⟨Nat.le_refl _⟩, by repeat (first | exact Drawn0.refl _ | apply Drawn0.step)⟩
 case round =>
  clear H'
  try clear p2
  obtain ⟨x5_1, rfl, HA, HK1, ⟨m1, rfl⟩⟩ := hrel
  cases gk with
  | zero => exact absurd HA.out (by simp [heraldref03_word.l0])
  | succ k1 =>
   have H := HA.out
   clear HA
   simp only [heraldref03_word.l0] at H
   by_cases c3 : x5_1 < (a0.size : Int)
   ·rw [if_pos c3] at H
    have c3b0 : decide (x5_1 < (a0.size : Int)) = true := decide_eq_true c3
    clear c3
    by_cases c4 : x5_1 < (a1.size : Int)
    ·rw [if_pos c4] at H
     have c4b0 : decide (x5_1 < (a1.size : Int)) = true := decide_eq_true c4
     clear c4
     by_cases c5 : 0 ≤ x5_1
     ·rw [if_pos c5] at H
      have c5b0 : decide (0 ≤ x5_1) = true := decide_eq_true c5
      clear c5
      by_cases c8 : (bt a0 x5_1) = (bt a1 x5_1)
      ·rw [if_pos c8] at H
       have c8b0 : ((bt a0 x5_1) == (bt a1 x5_1)) = true := beq_iff_eq.mpr c8
       have c8b1 : ((bt a0 x5_1) != (bt a1 x5_1)) = false := bne_eq_false_iff_eq.mpr c8
       clear c8
       have H' := Aside0.mk H
       clear H
       have p6 : 0 ≤ (x5_1 : Int) := of_decide_eq_true (by first | (with_reducible assumption) | assumption)
       have q6 : x5_1 < (a0.size : Int) := of_decide_eq_true (by first | (with_reducible assumption) | assumption)
       have hx6 := bt_at a0 x5_1
       replace p6 := eq_true p6
       replace q6 := eq_true q6
       have p7 : 0 ≤ (x5_1 : Int) := of_decide_eq_true (by first | (with_reducible assumption) | assumption)
       have q7 : x5_1 < (a1.size : Int) := of_decide_eq_true (by first | (with_reducible assumption) | assumption)
       have hx7 := bt_at a1 x5_1
       replace p7 := eq_true p7
       replace q7 := eq_true q7
       go_wp2
       repeat (go_quiet (fail); try go_wp2)
       go_roundg k1
       case measure => have := HK1.out; omega
       case rel => exact ⟨(wrap64 (x5_1 + 1)), (by first | rfl | (simp; done) | (simp [*]; done) | (simp [i64_w]; done) | (simp [*, i64_w]; done)), H', ⟨by have := HK1.out; omega⟩, by repeat (first | exact Drawn0.refl _ | apply Drawn0.step)⟩
      ·rw [if_neg c8] at H
       have c8b0 : ((bt a0 x5_1) == (bt a1 x5_1)) = false := beq_eq_false_iff_ne.mpr c8
       have c8b1 : ((bt a0 x5_1) != (bt a1 x5_1)) = true := bne_iff_ne.mpr c8
       obtain rfl := Option.some.inj H
       have p6 : 0 ≤ (x5_1 : Int) := of_decide_eq_true (by first | (with_reducible assumption) | assumption)
       have q6 : x5_1 < (a0.size : Int) := of_decide_eq_true (by first | (with_reducible assumption) | assumption)
       have hx6 := bt_at a0 x5_1
       replace p6 := eq_true p6
       replace q6 := eq_true q6
       have p7 : 0 ≤ (x5_1 : Int) := of_decide_eq_true (by first | (with_reducible assumption) | assumption)
       have q7 : x5_1 < (a1.size : Int) := of_decide_eq_true (by first | (with_reducible assumption) | assumption)
       have hx7 := bt_at a1 x5_1
       replace p7 := eq_true p7
       replace q7 := eq_true q7
       go_wp2
       repeat (go_quiet (fail); try go_wp2)
       go_ret
       exact ⟨by first | rfl | (simp; done) | (simp [*]; done), by repeat (first | exact Drawn0.refl _ | apply Drawn0.step)⟩
     ·rw [if_neg c5] at H
      exact absurd H (by simp)
    ·rw [if_neg c4] at H
     have c4b0 : decide (x5_1 < (a1.size : Int)) = false := decide_eq_false c4
     clear c4
     obtain rfl := Option.some.inj H
     go_wp2
     repeat (go_quiet (fail); try go_wp2)
     go_ret
     exact ⟨by first | rfl | (simp; done) | (simp [*]; done), by repeat (first | exact Drawn0.refl _ | apply Drawn0.step)⟩
   ·rw [if_neg c3] at H
    have c3b0 : decide (x5_1 < (a0.size : Int)) = false := decide_eq_false c3
    clear c3
    obtain rfl := Option.some.inj H
    go_wp2
    repeat (go_quiet (fail); try go_wp2)
    go_ret
    exact ⟨by first | rfl | (simp; done) | (simp [*]; done), by repeat (first | exact Drawn0.refl _ | apply Drawn0.step)⟩
def heraldref03_length.l0 : Nat → Int → Int → Option (Int)
 | 0, _, _ => none
 | k + 1, x0, x3 => if x0 > 0 then (heraldref03_length.l0 k (IntKind.u64.wrap (Int.tdiv x0 2)) (wrap64 (x3 + 1))) else (some x3)
def heraldref03_length.f (k : Nat) (a0 : Int) : Option (Int) := heraldref03_length.l0 k a0 0
set_option maxHeartbeats 8000000 in
set_option maxRecDepth 100000 in
theorem heraldref03_length.calls (k : Nat) (a0 : Int) (r : Int) (w : World) (h : heraldref03_length.f k a0 = some r) :
  Calls Tryd.prog 64 #[.int .u64 a0] w fun e w' => e = .returned (.int .i64 r) ∧ Drawn0 w w' := by
 have H : (heraldref03_length.l0 k a0 0) = some r := h
 clear h
 have H' := Aside0.mk H
 clear H
 go_enter Tryd.func64, Tryd.ntmps64
 go_wp2
 go_loopg [0, 3] k (fun kq v0 v3 w' => ∃ (x0_1 : Int) (x3_1 : Int), v0 = .int .u64 x0_1 ∧ v3 = .int .i64 x3_1 ∧ Aside0 (heraldref03_length.l0 kq x0_1 x3_1 = some r) ∧ Aside0 (kq ≤ k) ∧ Drawn0 w w')
 case atStart => exact ⟨(a0), (0), (by first | rfl | (simp; done) | (simp [*]; done) | (simp [i64_w]; done) | (simp [*, i64_w]; done)), (by first | rfl | (simp; done) | (simp [*]; done) | (simp [i64_w]; done) | (simp [*, i64_w]; done)), H', ⟨Nat.le_refl _⟩, by repeat (first | exact Drawn0.refl _ | apply Drawn0.step)⟩
 case round =>
  clear H'
  obtain ⟨x0_1, x3_1, rfl, rfl, HA, HK1, ⟨m1, rfl⟩⟩ := hrel
  cases gk with
  | zero => exact absurd HA.out (by simp [heraldref03_length.l0])
  | succ k1 =>
   have H := HA.out
   clear HA
   simp only [heraldref03_length.l0] at H
   by_cases c2 : x0_1 > 0
   ·rw [if_pos c2] at H
    have c2b0 : decide (0 < x0_1) = true := decide_eq_true c2
    clear c2
    have H' := Aside0.mk H
    clear H
    go_wp2
    go_roundg k1
    case measure => have := HK1.out; omega
    case rel => exact ⟨(IntKind.u64.wrap (Int.tdiv x0_1 2)), (wrap64 (x3_1 + 1)), (by first | rfl | (simp; done) | (simp [*]; done) | (simp [i64_w]; done) | (simp [*, i64_w]; done)), (by first | rfl | (simp; done) | (simp [*]; done) | (simp [i64_w]; done) | (simp [*, i64_w]; done)), H', ⟨by have := HK1.out; omega⟩, by repeat (first | exact Drawn0.refl _ | apply Drawn0.step)⟩
   ·rw [if_neg c2] at H
    have c2b0 : decide (0 < x0_1) = false := decide_eq_false c2
    clear c2
    obtain rfl := Option.some.inj H
    go_wp2
    go_ret
    exact ⟨by first | rfl | (simp; done) | (simp [*]; done), by repeat (first | exact Drawn0.refl _ | apply Drawn0.step)⟩
end Go.Proofs.YteecekhfpfnepaaDoor.PAll
end
