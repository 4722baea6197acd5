-- Written by a program of this session out of the translation. Lean checks it.
import Derived.Test.YteecekhfpfnepaaDoorPAllx0
import Derived.Test.YteecekhfpfnepaaDoorHRaw
namespace Go.Proofs.YteecekhfpfnepaaDoor.PAll
open Go.RowKit Go.Proofs.YteecekhfpfnepaaDoorW.PrintWords Go.Proofs.YteecekhfpfnepaaDoorW.PrintLast Go.Proofs.YteecekhfpfnepaaDoorW.PrintMore
attribute [local go_sem] max2_int min2_int max_two min_two max_three min_three max_four min_four   -- for this text's walks alone
set_option linter.unusedVariables false
set_option linter.unusedSimpArgs false

/-! ### heraldref03_Brain: function 28 -/
def heraldref03_Brain.f (a0 : Int) : Option (Int) := (heraldref03_raw.f a0).bind fun bt157 => (if bt157.1 = 2 then (some 32704) else (if (Int.tmod a0 65536) > 32768 then (some (IntKind.u16.wrap ((((Int.tdiv a0 65536) % 4294967296) + 1) % 4294967296))) else (if (Int.tmod a0 65536) = 32768 then (if (((Int.tdiv a0 65536) % 4294967296) % 2) = 1 then (some (IntKind.u16.wrap ((((Int.tdiv a0 65536) % 4294967296) + 1) % 4294967296))) else (some (IntKind.u16.wrap ((Int.tdiv a0 65536) % 4294967296)))) else (some (IntKind.u16.wrap ((Int.tdiv a0 65536) % 4294967296))))))
set_option maxHeartbeats 8000000 in
set_option maxRecDepth 100000 in
theorem heraldref03_Brain.calls (a0 : Int) (r : Int) (w : World) (h : heraldref03_Brain.f a0 = some r) :
    Calls Tryd.prog 28 #[.int .u32 a0] w fun e w' => e = .returned (.int .u16 r) ∧ Drawn0 w w' := by
  have H : ((heraldref03_raw.f a0).bind fun bt157 => (if bt157.1 = 2 then (some 32704) else (if (Int.tmod a0 65536) > 32768 then (some (IntKind.u16.wrap ((((Int.tdiv a0 65536) % 4294967296) + 1) % 4294967296))) else (if (Int.tmod a0 65536) = 32768 then (if (((Int.tdiv a0 65536) % 4294967296) % 2) = 1 then (some (IntKind.u16.wrap ((((Int.tdiv a0 65536) % 4294967296) + 1) % 4294967296))) else (some (IntKind.u16.wrap ((Int.tdiv a0 65536) % 4294967296)))) else (some (IntKind.u16.wrap ((Int.tdiv a0 65536) % 4294967296))))))) = some r := h
  clear h
  replace H := Option.bind_eq_some_iff.mp H
  obtain ⟨⟨t157, t158, t159, t160⟩, A20, H⟩ := H
  replace H : (if t157 = 2 then (some 32704) else (if (Int.tmod a0 65536) > 32768 then (some (IntKind.u16.wrap ((((Int.tdiv a0 65536) % 4294967296) + 1) % 4294967296))) else (if (Int.tmod a0 65536) = 32768 then (if (((Int.tdiv a0 65536) % 4294967296) % 2) = 1 then (some (IntKind.u16.wrap ((((Int.tdiv a0 65536) % 4294967296) + 1) % 4294967296))) else (some (IntKind.u16.wrap ((Int.tdiv a0 65536) % 4294967296)))) else (some (IntKind.u16.wrap ((Int.tdiv a0 65536) % 4294967296)))))) = some r := H
  have A2 := Aside0.mk A20
  clear A20
  by_cases c3 : t157 = 2
  · rw [if_pos c3] at H
    have c3b0 : (t157 == 2) = true := beq_iff_eq.mpr c3
    have c3b1 : (t157 != 2) = false := bne_eq_false_iff_eq.mpr c3
    clear c3
    obtain rfl := Option.some.inj H
    go_enter Tryd.func28, Tryd.ntmps28
    go_wp2_with (first | ((with_reducible refine gate_callee (f := 37) rfl ?_); refine goesL_ (some 11) rfl rfl Tryd.func37 (by kernel_rfl) rfl #[.int .u32 a0] rfl (by (try simp only [List.map_toArray, List.map_cons, List.map_nil]); first | done | rfl | (simp only [List.length_drop, List.length_take]; rfl)) ?_; (with_reducible refine (heraldref03_raw.calls a0 t157 t158 t159 t160 _ A2.out).mono ?_); rintro e w' ⟨rfl, ⟨nd, rfl⟩⟩; refine ⟨_, rfl, ?_⟩))
    go_ret
    exact ⟨by first | rfl | (simp; done) | (simp [*]; done), by repeat (first | exact Drawn0.refl _ | apply Drawn0.step)⟩
  · rw [if_neg c3] at H
    have c3b0 : (t157 == 2) = false := beq_eq_false_iff_ne.mpr c3
    have c3b1 : (t157 != 2) = true := bne_iff_ne.mpr c3
    by_cases c4 : (Int.tmod a0 65536) > 32768
    · rw [if_pos c4] at H
      have c4b0 : decide (32768 < (Int.tmod a0 65536)) = true := decide_eq_true c4
      clear c4
      obtain rfl := Option.some.inj H
      go_enter Tryd.func28, Tryd.ntmps28
      go_wp2_with (first | ((with_reducible refine gate_callee (f := 37) rfl ?_); refine goesL_ (some 11) rfl rfl Tryd.func37 (by kernel_rfl) rfl #[.int .u32 a0] rfl (by (try simp only [List.map_toArray, List.map_cons, List.map_nil]); first | done | rfl | (simp only [List.length_drop, List.length_take]; rfl)) ?_; (with_reducible refine (heraldref03_raw.calls a0 t157 t158 t159 t160 _ A2.out).mono ?_); rintro e w' ⟨rfl, ⟨nd, rfl⟩⟩; refine ⟨_, rfl, ?_⟩))
      go_ret
      exact ⟨by first | rfl | (simp; done) | (simp [*]; done), by repeat (first | exact Drawn0.refl _ | apply Drawn0.step)⟩
    · rw [if_neg c4] at H
      have c4b0 : decide (32768 < (Int.tmod a0 65536)) = false := decide_eq_false c4
      clear c4
      by_cases c5 : (Int.tmod a0 65536) = 32768
      · rw [if_pos c5] at H
        have c5b0 : ((Int.tmod a0 65536) == 32768) = true := beq_iff_eq.mpr c5
        have c5b1 : ((Int.tmod a0 65536) != 32768) = false := bne_eq_false_iff_eq.mpr c5
        clear c5
        by_cases c6 : (((Int.tdiv a0 65536) % 4294967296) % 2) = 1
        · rw [if_pos c6] at H
          have c6b0 : ((((Int.tdiv a0 65536) % 4294967296) % 2) == 1) = true := beq_iff_eq.mpr c6
          have c6b1 : ((((Int.tdiv a0 65536) % 4294967296) % 2) != 1) = false := bne_eq_false_iff_eq.mpr c6
          clear c6
          obtain rfl := Option.some.inj H
          go_enter Tryd.func28, Tryd.ntmps28
          go_wp2_with (first | ((with_reducible refine gate_callee (f := 37) rfl ?_); refine goesL_ (some 11) rfl rfl Tryd.func37 (by kernel_rfl) rfl #[.int .u32 a0] rfl (by (try simp only [List.map_toArray, List.map_cons, List.map_nil]); first | done | rfl | (simp only [List.length_drop, List.length_take]; rfl)) ?_; (with_reducible refine (heraldref03_raw.calls a0 t157 t158 t159 t160 _ A2.out).mono ?_); rintro e w' ⟨rfl, ⟨nd, rfl⟩⟩; refine ⟨_, rfl, ?_⟩))
          go_ret
          exact ⟨by first | rfl | (simp; done) | (simp [*]; done), by repeat (first | exact Drawn0.refl _ | apply Drawn0.step)⟩
        · rw [if_neg c6] at H
          have c6b0 : ((((Int.tdiv a0 65536) % 4294967296) % 2) == 1) = false := beq_eq_false_iff_ne.mpr c6
          have c6b1 : ((((Int.tdiv a0 65536) % 4294967296) % 2) != 1) = true := bne_iff_ne.mpr c6
          obtain rfl := Option.some.inj H
          go_enter Tryd.func28, Tryd.ntmps28
          go_wp2_with (first | ((with_reducible refine gate_callee (f := 37) rfl ?_); refine goesL_ (some 11) rfl rfl Tryd.func37 (by kernel_rfl) rfl #[.int .u32 a0] rfl (by (try simp only [List.map_toArray, List.map_cons, List.map_nil]); first | done | rfl | (simp only [List.length_drop, List.length_take]; rfl)) ?_; (with_reducible refine (heraldref03_raw.calls a0 t157 t158 t159 t160 _ A2.out).mono ?_); rintro e w' ⟨rfl, ⟨nd, rfl⟩⟩; refine ⟨_, rfl, ?_⟩))
          go_ret
          exact ⟨by first | rfl | (simp; done) | (simp [*]; done), by repeat (first | exact Drawn0.refl _ | apply Drawn0.step)⟩
      · rw [if_neg c5] at H
        have c5b0 : ((Int.tmod a0 65536) == 32768) = false := beq_eq_false_iff_ne.mpr c5
        have c5b1 : ((Int.tmod a0 65536) != 32768) = true := bne_iff_ne.mpr c5
        obtain rfl := Option.some.inj H
        go_enter Tryd.func28, Tryd.ntmps28
        go_wp2_with (first | ((with_reducible refine gate_callee (f := 37) rfl ?_); refine goesL_ (some 11) rfl rfl Tryd.func37 (by kernel_rfl) rfl #[.int .u32 a0] rfl (by (try simp only [List.map_toArray, List.map_cons, List.map_nil]); first | done | rfl | (simp only [List.length_drop, List.length_take]; rfl)) ?_; (with_reducible refine (heraldref03_raw.calls a0 t157 t158 t159 t160 _ A2.out).mono ?_); rintro e w' ⟨rfl, ⟨nd, rfl⟩⟩; refine ⟨_, rfl, ?_⟩))
        go_ret
        exact ⟨by first | rfl | (simp; done) | (simp [*]; done), by repeat (first | exact Drawn0.refl _ | apply Drawn0.step)⟩

end Go.Proofs.YteecekhfpfnepaaDoor.PAll
