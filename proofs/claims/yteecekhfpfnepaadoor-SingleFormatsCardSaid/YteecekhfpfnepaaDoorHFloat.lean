/- By hand: the functions on Go's numbers of 32 bits: what each computes, in the model's own words. -/
import Derived.Test.YteecekhfpfnepaaDoorPAllx0
import Derived.Laws.Externs
import Derived.Laws.ComplexArith
import Derived.WalkLawsBesides
namespace Go.Proofs.YteecekhfpfnepaaDoor.PAll
open Go.RowKit Go.Proofs.YteecekhfpfnepaaDoorW.PrintWords Go.Proofs.YteecekhfpfnepaaDoorW.PrintLast Go.Proofs.YteecekhfpfnepaaDoorW.PrintMore
set_option linter.unusedVariables false
set_option linter.unusedSimpArgs false

theorem run39 (n : Int) (w : World) : (callFunc 83 #[.int .u32 n]).run Tryd.prog w = .ok (.value (.float .f32 n.toNat)) w := by
  rw [run_callFunc_extern Tryd.func83 (by kernel_rfl) (by kernel_rfl) (by kernel_rfl) (e := Extern.MathFloatBits.float32frombits) (by kernel_rfl)]; rfl
theorem run38 (n : Nat) (w : World) : (callFunc 82 #[.float .f32 n]).run Tryd.prog w = .ok (.value (.int .u32 n)) w := by
  rw [run_callFunc_extern Tryd.func82 (by kernel_rfl) (by kernel_rfl) (by kernel_rfl) (e := Extern.MathFloatBits.float32bits) (by kernel_rfl)]; rfl
set_option maxHeartbeats 400000 in
theorem of_calls (a : Int) (w : World) : Calls Tryd.prog 61 #[.int .u32 a] w fun e w' => e = .returned (.float .f32 a.toNat) ∧ Drawn0 w w' := by
  have h39 := run39
  go_enter Tryd.func61, Tryd.ntmps61
  go_wp2
  go_ret
  exact ⟨by first | rfl | simp, by repeat (first | exact Drawn0.refl _ | apply Drawn0.step)⟩
/-- The bits of a number, a none as the common one. -/
def backV (x : Nat) : Int := if (FloatKind.f32.format.order x x == some .eq) = true then (x : Int) else 2143289344
set_option maxHeartbeats 400000 in
theorem back_calls (x : Nat) (w : World) : Calls Tryd.prog 60 #[.float .f32 x] w fun e w' => e = .returned (.int .u32 (backV x)) ∧ Drawn0 w w' := by
  have h38 := run38
  unfold backV
  by_cases h : (FloatKind.f32.format.order x x == some .eq) = true
  · rw [if_pos h]
    have h' : (FloatKind.f32.format.order x x != some .eq) = false := by rw [bne, h]; rfl
    go_enter Tryd.func60, Tryd.ntmps60
    go_wp2
    go_ret
    exact ⟨by first | rfl | simp, by repeat (first | exact Drawn0.refl _ | apply Drawn0.step)⟩
  · rw [if_neg h]
    have h' : (FloatKind.f32.format.order x x != some .eq) = true := by rw [bne, Bool.eq_false_iff.mpr h]; rfl
    go_enter Tryd.func60, Tryd.ntmps60
    go_wp2
    go_ret
    exact ⟨by first | rfl | simp, by repeat (first | exact Drawn0.refl _ | apply Drawn0.step)⟩
theorem cut_nan (op : Nat) (x y : Nat) (t : Nat) : FloatKind.f32.format.order ((Question.nanBits .f32 x y).cut t) ((Question.nanBits .f32 x y).cut t) = none := by
  have e : (Question.nanBits .f32 x y).cut t = (t % 2) * 2147483648 + 2139095040 + 1 + (t / 2) % 8388607 := rfl
  rw [e]
  have h1 : t % 2 < 2 := Nat.mod_lt _ (by omega)
  have h2 : (t / 2) % 8388607 < 8388607 := Nat.mod_lt _ (by decide)
  generalize t % 2 = a at h1
  generalize (t / 2) % 8388607 = c at h2
  have hr : Ieee.single.read (a * 2147483648 + 2139095040 + 1 + c) = .nan ((a * 2147483648 + 2139095040 + 1 + c) / 2147483648 % 2 == 1) (1 + c) := by
    unfold Ieee.Format.read
    have hs : Ieee.single.signWeight = 2147483648 := by decide
    have hb : Ieee.single.binade = 8388608 := by decide
    have hi : Ieee.single.infRung = 2139095040 := by decide
    simp only [hs, hb, hi]
    have hm : (a * 2147483648 + 2139095040 + 1 + c) % 2147483648 = 2139095041 + c := by omega
    rw [hm, if_neg (by omega), if_neg (by omega), if_neg (by omega)]
    have he : a * 2147483648 + 2139095040 + 1 + c = a * 2147483648 + (2139095041 + c) := by omega
    have hx : 2139095041 + c - 2139095040 = 1 + c := by omega
    rw [hx]
  show (Ieee.single.read _).order (Ieee.single.read _) = none
  rw [hr]
  rfl
def arithV : Option Nat → Int
  | some r => backV r
  | none => 2143289344
def arithR (op : BinOp) (x y : Nat) : Option Nat :=
  match op with
  | .add => FloatKind.f32.format.add x y
  | .mul => FloatKind.f32.format.mul x y
  | .quo => FloatKind.f32.format.div x y
  | _ => none
theorem run_arith (op : BinOp) (hop : op = .add ∨ op = .mul ∨ op = .quo) (x y : Nat) (w : World) : ∃ r m, (binOp op 101 (.float .f32 x) (.float .f32 y)).run Tryd.prog w = .ok (.float .f32 r) (w.drewN m) ∧ backV r = arithV (arithR op x y) := by
  cases h : arithR op x y with
  | some r =>
    refine ⟨r, 0, ?_, rfl⟩
    have : floatBits op .f32 x y = some r := by rcases hop with rfl | rfl | rfl <;> exact h
    exact run_float_arith (P := Tryd.prog) w op 101 .f32 x y r this
  | none =>
    refine ⟨(Question.nanBits .f32 x y).cut (w.tape w.drawn (.nanBits .f32 x y)), 1, ?_, ?_⟩
    · rcases hop with rfl | rfl | rfl <;> simp only [arithR] at h <;> simp [binOp, Op.floatArith, h, choose, Sem.run, World.drewN]
      all_goals (intro hf; exact absurd hf (by simp [Question.forced]))
    · unfold backV
      rw [cut_nan 0]
      rfl
end Go.Proofs.YteecekhfpfnepaaDoor.PAll
