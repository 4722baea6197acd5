/- By hand: the law of a nil tape. -/
import Derived.Test.YtljlpkadjngpoaaTpAwake
namespace Go.Proofs.Ytljlpkadjngpoaa.PAll
open Go.RowKit Go.Proofs.YtljlpkadjngpoaaW.PrintWords Go.Proofs.YtljlpkadjngpoaaW.PrintLast Go.Proofs.YtljlpkadjngpoaaW.PrintMore
set_option linter.unusedVariables false
set_option linter.unusedSimpArgs false
set_option maxHeartbeats 800000 in
theorem nil_walk (n : Int) (w : World) : Calls Try.prog 5 #[.int .i64 n] w fun e w' => e = .returned (.bool true) ∧ Below w.heap.size w w' := by
  go_enter Try.func5, Try.ntmps5
  go_wp2_with (first | (go_at_call 16; refine (draw_nil _).mono ?_; rintro e w' ⟨rfl, ⟨m, rfl⟩⟩) | (go_at_call 13; refine (heraldlaw23_awake.calls true _ rfl).mono ?_; rintro e w1 ⟨rfl, hb⟩) | (go_at_call 14; refine (used_nil _).mono ?_; rintro e w' ⟨rfl, ⟨m2, rfl⟩⟩) | (go_at_call 15; refine (left_nil _).mono ?_; rintro e w' ⟨rfl, ⟨m3, rfl⟩⟩))
  go_ret
  refine ⟨by first | rfl | simp, ?_⟩
  refine pw_below_drewN ?_ _
  exact below_then (pw_below_drewN (Below.refl _ _) _) (by simp) hb
end Go.Proofs.Ytljlpkadjngpoaa.PAll
