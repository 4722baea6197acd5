/- By hand: a sum. -/
import Derived.Test.YteecekhfpfnepaaDoorHFloat
namespace Go.Proofs.YteecekhfpfnepaaDoor.PAll
open Go.RowKit Go.Proofs.YteecekhfpfnepaaDoorW.PrintWords Go.Proofs.YteecekhfpfnepaaDoorW.PrintLast Go.Proofs.YteecekhfpfnepaaDoorW.PrintMore
set_option linter.unusedVariables false
set_option linter.unusedSimpArgs false

def single_Add.f (a0 a1 : Int) : Option Int := some (arithV (arithR .add a0.toNat a1.toNat))
set_option maxHeartbeats 800000 in
theorem single_Add.calls (a0 a1 : Int) (r : Int) (w : World) (h : single_Add.f a0 a1 = some r) :
    Calls Tryd.prog 38 #[.int .u32 a0, .int .u32 a1] w fun e w' => e = .returned (.int .u32 r) ∧ Drawn0 w w' := by
  obtain rfl := Option.some.inj h
  clear h
  obtain ⟨x, hx⟩ : ∃ x, a0.toNat = x := ⟨_, rfl⟩
  obtain ⟨y, hy⟩ : ∃ y, a1.toNat = y := ⟨_, rfl⟩
  rw [hx, hy]
  have H0 := Aside0.mk (fun W => of_calls a0 W)
  have H1 := Aside0.mk (fun W => of_calls a1 W)
  rw [hx] at H0
  rw [hy] at H1
  clear hx hy
  have HA := Aside0.mk (fun W => run_arith .add (by simp) x y W)
  obtain ⟨V, hV⟩ : ∃ V, arithV (arithR .add x y) = V := ⟨_, rfl⟩
  rw [hV] at HA ⊢
  clear hV
  go_enter Tryd.func38, Tryd.ntmps38
  go_wp2_with (first | (go_at_call 61; (with_reducible refine (H0.out _).mono ?_); rintro e w' ⟨rfl, ⟨m1, rfl⟩⟩) | (go_at_call 61; (with_reducible refine (H1.out _).mono ?_); rintro e w' ⟨rfl, ⟨m2, rfl⟩⟩))
  obtain ⟨r, q, hrun, hback⟩ := HA.out (w.drewN (m1 + m2))
  rw [hrun, World.drewN_drewN]
  have HBk := Aside0.mk hback
  clear HA H0 H1 hrun hback
  go_wp2_with (go_at_call 60; (with_reducible refine (back_calls r _).mono ?_); rintro e w' ⟨rfl, ⟨m3, rfl⟩⟩)
  go_ret
  exact ⟨by rw [← HBk.out]; first | rfl | simp, by repeat (first | exact Drawn0.refl _ | apply Drawn0.step | exact ⟨⟨_, rfl⟩⟩)⟩
end Go.Proofs.YteecekhfpfnepaaDoor.PAll
