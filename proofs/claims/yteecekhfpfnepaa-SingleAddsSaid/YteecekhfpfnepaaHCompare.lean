/- By hand: which of two is greater. -/
import Derived.Test.YteecekhfpfnepaaHFloat
namespace Go.Proofs.Yteecekhfpfnepaa.PAll
open Go.RowKit Go.Proofs.YteecekhfpfnepaaW.PrintWords Go.Proofs.YteecekhfpfnepaaW.PrintLast Go.Proofs.YteecekhfpfnepaaW.PrintMore
set_option linter.unusedVariables false
set_option linter.unusedSimpArgs false

def cmpV : Option Ordering → Int × Bool
  | some .lt => (-1, true)
  | some .gt => (1, true)
  | some .eq => (0, true)
  | none => (0, false)
def single_Compare.f (a0 a1 : Int) : Option (Int × Bool) := some (cmpV (FloatKind.f32.format.order a0.toNat a1.toNat))
set_option maxHeartbeats 800000 in
theorem single_Compare.calls (a0 a1 : Int) (r1 : Int) (r2 : Bool) (w : World) (h : single_Compare.f a0 a1 = some (r1, r2)) :
    Calls Try.prog 19 #[.int .u32 a0, .int .u32 a1] w fun e w' => e = .returned (.tuple #[.int .i64 r1, .bool r2]) ∧ Drawn0 w w' := by
  have h' := Option.some.inj h
  clear h
  obtain ⟨x, hx⟩ : ∃ x, a0.toNat = x := ⟨_, rfl⟩
  obtain ⟨y, hy⟩ : ∃ y, a1.toNat = y := ⟨_, rfl⟩
  rw [hx, hy] at h'
  have H0 := Aside0.mk (fun W => of_calls a0 W)
  have H1 := Aside0.mk (fun W => of_calls a1 W)
  rw [hx] at H0
  rw [hy] at H1
  clear hx hy
  cases hc : FloatKind.f32.format.order x y with
  | none =>
    rw [hc] at h'
    simp only [cmpV, Prod.mk.injEq] at h'
    obtain ⟨rfl, rfl⟩ := h'
    go_enter Try.func19, Try.ntmps19
    go_wp2_with (first | (go_at_call 31; (with_reducible refine (H0.out _).mono ?_); rintro e w' ⟨rfl, ⟨m1, rfl⟩⟩) | (go_at_call 31; (with_reducible refine (H1.out _).mono ?_); rintro e w' ⟨rfl, ⟨m2, rfl⟩⟩))
    go_ret2
    exact ⟨by first | rfl | simp, by repeat (first | exact Drawn0.refl _ | apply Drawn0.step | exact ⟨⟨_, rfl⟩⟩)⟩
  | some o =>
    cases o
    all_goals
      rw [hc] at h'
      simp only [cmpV, Prod.mk.injEq] at h'
      obtain ⟨rfl, rfl⟩ := h'
      go_enter Try.func19, Try.ntmps19
      go_wp2_with (first | (go_at_call 31; (with_reducible refine (H0.out _).mono ?_); rintro e w' ⟨rfl, ⟨m1, rfl⟩⟩) | (go_at_call 31; (with_reducible refine (H1.out _).mono ?_); rintro e w' ⟨rfl, ⟨m2, rfl⟩⟩))
      go_ret2
      exact ⟨by first | rfl | simp, by repeat (first | exact Drawn0.refl _ | apply Drawn0.step | exact ⟨⟨_, rfl⟩⟩)⟩
end Go.Proofs.Yteecekhfpfnepaa.PAll
