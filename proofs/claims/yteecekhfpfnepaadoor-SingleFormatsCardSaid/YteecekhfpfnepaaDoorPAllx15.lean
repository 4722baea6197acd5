-- Written by a program of this session out of the translation. Lean checks it.
import Derived.Test.YteecekhfpfnepaaDoorPAllx0
import Derived.Test.YteecekhfpfnepaaDoorHRaw
namespace Go.Proofs.YteecekhfpfnepaaDoor.PAll
open Go.RowKit Go.Proofs.YteecekhfpfnepaaDoorW.PrintWords Go.Proofs.YteecekhfpfnepaaDoorW.PrintLast Go.Proofs.YteecekhfpfnepaaDoorW.PrintMore
attribute [local go_sem] max2_int min2_int max_two min_two max_three min_three max_four min_four   -- for this text's walks alone
set_option linter.unusedVariables false
set_option linter.unusedSimpArgs false

/-! ### heraldref03_FromBrain: function 30 -/
def heraldref03_FromBrain.f (a0 : Int) : Option (Int) := (heraldref03_raw.f ((((a0) % 4294967296) * 65536) % 4294967296)).bind fun bt165 => (if bt165.1 = 2 then (some 2143289344) else (some ((((a0) % 4294967296) * 65536) % 4294967296)))
set_option maxHeartbeats 8000000 in
set_option maxRecDepth 100000 in
theorem heraldref03_FromBrain.calls (a0 : Int) (r : Int) (w : World) (h : heraldref03_FromBrain.f a0 = some r) :
    Calls Tryd.prog 30 #[.int .u16 a0] w fun e w' => e = .returned (.int .u32 r) ∧ Drawn0 w w' := by
  have H : ((heraldref03_raw.f ((((a0) % 4294967296) * 65536) % 4294967296)).bind fun bt165 => (if bt165.1 = 2 then (some 2143289344) else (some ((((a0) % 4294967296) * 65536) % 4294967296)))) = some r := h
  clear h
  replace H := Option.bind_eq_some_iff.mp H
  obtain ⟨⟨t165, t166, t167, t168⟩, A20, H⟩ := H
  replace H : (if t165 = 2 then (some 2143289344) else (some ((((a0) % 4294967296) * 65536) % 4294967296))) = some r := H
  have A2 := Aside0.mk A20
  clear A20
  by_cases c3 : t165 = 2
  · rw [if_pos c3] at H
    have c3b0 : (t165 == 2) = true := beq_iff_eq.mpr c3
    have c3b1 : (t165 != 2) = false := bne_eq_false_iff_eq.mpr c3
    clear c3
    obtain rfl := Option.some.inj H
    go_enter Tryd.func30, Tryd.ntmps30
    go_wp2_with (first | ((with_reducible refine gate_callee (f := 37) rfl ?_); refine goesL_ (some 13) rfl rfl Tryd.func37 (by kernel_rfl) rfl #[.int .u32 ((((a0) % 4294967296) * 65536) % 4294967296)] rfl (by (try simp only [List.map_toArray, List.map_cons, List.map_nil]); first | done | rfl | (simp only [List.length_drop, List.length_take]; rfl)) ?_; (with_reducible refine (heraldref03_raw.calls ((((a0) % 4294967296) * 65536) % 4294967296) t165 t166 t167 t168 _ A2.out).mono ?_); rintro e w' ⟨rfl, ⟨nd, rfl⟩⟩; refine ⟨_, rfl, ?_⟩))
    go_ret
    exact ⟨by first | rfl | (simp; done) | (simp [*]; done), by repeat (first | exact Drawn0.refl _ | apply Drawn0.step)⟩
  · rw [if_neg c3] at H
    have c3b0 : (t165 == 2) = false := beq_eq_false_iff_ne.mpr c3
    have c3b1 : (t165 != 2) = true := bne_iff_ne.mpr c3
    obtain rfl := Option.some.inj H
    go_enter Tryd.func30, Tryd.ntmps30
    go_wp2_with (first | ((with_reducible refine gate_callee (f := 37) rfl ?_); refine goesL_ (some 13) rfl rfl Tryd.func37 (by kernel_rfl) rfl #[.int .u32 ((((a0) % 4294967296) * 65536) % 4294967296)] rfl (by (try simp only [List.map_toArray, List.map_cons, List.map_nil]); first | done | rfl | (simp only [List.length_drop, List.length_take]; rfl)) ?_; (with_reducible refine (heraldref03_raw.calls ((((a0) % 4294967296) * 65536) % 4294967296) t165 t166 t167 t168 _ A2.out).mono ?_); rintro e w' ⟨rfl, ⟨nd, rfl⟩⟩; refine ⟨_, rfl, ?_⟩))
    go_ret
    exact ⟨by first | rfl | (simp; done) | (simp [*]; done), by repeat (first | exact Drawn0.refl _ | apply Drawn0.step)⟩

end Go.Proofs.YteecekhfpfnepaaDoor.PAll
