/- By hand: a draw is read. -/
import Derived.Test.YtljlpkadjngpoaaTpHigh
namespace Go.Proofs.Ytljlpkadjngpoaa.PAll
open Go.RowKit Go.Proofs.YtljlpkadjngpoaaW.PrintWords Go.Proofs.YtljlpkadjngpoaaW.PrintLast Go.Proofs.YtljlpkadjngpoaaW.PrintMore
set_option linter.unusedVariables false
set_option linter.unusedSimpArgs false

def heraldlaw23_awake.f : Option Bool := some true
set_option maxHeartbeats 800000 in
theorem heraldlaw23_awake.calls (r : Bool) (w : World) (h : heraldlaw23_awake.f = some r) :
    Calls Try.prog 13 #[] w fun e w' => e = .returned (.bool r) ∧ Below w.heap.size w w' := by
  obtain rfl : true = r := Option.some.inj h
  clear h
  have hnew := new_ok 2 ⟨#[201]⟩ w (by decide) (by decide)
  rw [show 8 * (((⟨#[201]⟩ : ByteArray).size : Nat) : Int) / 2 = 4 from by decide] at hnew
  have HNew := Aside0.mk hnew
  clear hnew
  have hT0 : ∀ n, IsTape ((w.alloc (.cells #[.int .i64 2, .int .i64 0, .int .i64 4, .string ⟨#[201]⟩] 66)).drewN n) w.heap.size 2 0 4 ⟨#[201]⟩ := fun n => isTape_new w 2 4 _ n
  have hdraw : ∀ n, Calls Try.prog 16 #[.pointer (some ⟨w.heap.size, 0, none⟩)] ((w.alloc (.cells #[.int .i64 2, .int .i64 0, .int .i64 4, .string ⟨#[201]⟩] 66)).drewN n) fun e w' => e = .returned (.tuple #[.int .i64 3, .int .i64 0]) ∧
      ∃ m, w' = (w.alloc (.cells #[.int .i64 2, .int .i64 1, .int .i64 4, .string ⟨#[201]⟩] 66)).drewN m := by
    intro n
    refine (draw_calls w.heap.size 2 0 4 ⟨#[201]⟩ _ (by decide) (hT0 n) (by decide) (by decide) (by decide) (by decide)).mono ?_
    rintro e w' ⟨rfl, ⟨m, rfl⟩⟩
    refine ⟨?_, n + m, ?_⟩
    · rw [show drawV 2 ⟨#[201]⟩ 0 = 3 from by decide +kernel]
    · rw [setCell_drewN, World.drewN_drewN, World.setCell_alloc_at _ _ _ _ _ rfl]
      rfl
  have HDraw := Aside0.mk hdraw
  have hT1 : ∀ m, IsTape ((w.alloc (.cells #[.int .i64 2, .int .i64 1, .int .i64 4, .string ⟨#[201]⟩] 66)).drewN m) w.heap.size 2 1 4 ⟨#[201]⟩ := fun m => heap_alloc_new w _
  have HT1 := Aside0.mk hT1
  have HB := Aside0.mk (below_alloc (Below.refl w.heap.size w) (.cells #[.int .i64 2, .int .i64 1, .int .i64 4, .string ⟨#[201]⟩] 66))
  clear hT0 hdraw hT1
  go_enter Try.func13, Try.ntmps13
  go_wp2_with (first | (go_at_call 11; refine HNew.out.mono ?_; rintro e w' ⟨n, rfl, rfl⟩) | (go_at_call 16; refine (HDraw.out _).mono ?_; rintro e w' ⟨rfl, ⟨m, rfl⟩⟩) | (go_at_call 14; refine (used_calls _ _ _ _ _ _ (HT1.out _)).mono ?_; rintro e w' ⟨rfl, ⟨m2, rfl⟩⟩) | (go_at_call 15; refine (left_calls _ _ _ _ _ _ (HT1.out _)).mono ?_; rintro e w' ⟨rfl, ⟨m3, rfl⟩⟩))
  go_ret
  exact ⟨by simp [wrap64], pw_below_drewN HB.out _⟩
end Go.Proofs.Ytljlpkadjngpoaa.PAll
