-- Written by a program of this session out of the translation. Lean checks it.
import Derived.Test.YteecekhfpfnepaaDoorPAllx0
import Derived.Test.YteecekhfpfnepaaDoorHParts
namespace Go.Proofs.YteecekhfpfnepaaDoor.PAll
open Go.RowKit Go.Proofs.YteecekhfpfnepaaDoorW.PrintWords Go.Proofs.YteecekhfpfnepaaDoorW.PrintLast Go.Proofs.YteecekhfpfnepaaDoorW.PrintMore
attribute [local go_sem] max2_int min2_int max_two min_two max_three min_three max_four min_four   -- for this text's walks alone
set_option linter.unusedVariables false
set_option linter.unusedSimpArgs false

/-! ### single_FromBrain: function 29 -/
def single_FromBrain.f (a0 : Int) : Option (Int) := (single_Parts.f ((((a0) % 4294967296) * 65536) % 4294967296)).bind fun bt161 => (if bt161.1 = 2 then (some 2143289344) else (some ((((a0) % 4294967296) * 65536) % 4294967296)))
set_option maxHeartbeats 8000000 in
set_option maxRecDepth 100000 in
theorem single_FromBrain.calls (a0 : Int) (r : Int) (w : World) (h : single_FromBrain.f a0 = some r) (hTab : Tab w) :
    Calls Tryd.prog 29 #[.int .u16 a0] w fun e w' => e = .returned (.int .u32 r) ∧ Below w.heap.size w w' := by
  have HTab := Aside0.mk hTab
  clear hTab
  have HB := Aside0.mk (Below.refl w.heap.size w)
  have H : ((single_Parts.f ((((a0) % 4294967296) * 65536) % 4294967296)).bind fun bt161 => (if bt161.1 = 2 then (some 2143289344) else (some ((((a0) % 4294967296) * 65536) % 4294967296)))) = some r := h
  clear h
  replace H := Option.bind_eq_some_iff.mp H
  obtain ⟨⟨t161, t162, t163, t164⟩, A20, H⟩ := H
  replace H : (if t161 = 2 then (some 2143289344) else (some ((((a0) % 4294967296) * 65536) % 4294967296))) = some r := H
  have A2 := Aside0.mk A20
  clear A20
  by_cases c3 : t161 = 2
  · rw [if_pos c3] at H
    have c3b0 : (t161 == 2) = true := beq_iff_eq.mpr c3
    have c3b1 : (t161 != 2) = false := bne_eq_false_iff_eq.mpr c3
    clear c3
    obtain rfl := Option.some.inj H
    have hfld : ∀ (k m e : Int) (s : Bool) (w : World), (Instr.field 24 (.agg #[.int .i64 k, .bool s, .int .i64 m, .int .i64 e]) 0).run Tryd.prog w = .ok (.int .i64 k) w := fun _ _ _ _ _ => by kernel_rfl
    go_enter Tryd.func29, Tryd.ntmps29
    go_wp2_with (first | ((with_reducible refine gate_callee (f := 13) rfl ?_); refine goesL_ (some 8) rfl rfl Tryd.func13 (by kernel_rfl) rfl #[.int .u32 ((((a0) % 4294967296) * 65536) % 4294967296)] rfl (by (try simp only [List.map_toArray, List.map_cons, List.map_nil]); first | done | rfl | (simp only [List.length_drop, List.length_take]; rfl)) ?_; (with_reducible refine (single_Parts.calls ((((a0) % 4294967296) * 65536) % 4294967296) t161 t162 t163 t164 _ A2.out (by first | exact HTab.out | exact tab_below HTab.out (by repeat (first | (with_reducible first | exact HB.out | apply below_alloc | apply pw_below_drewN | apply below_drew1) | exact HB.out)))).mono ?_); rintro e w4 ⟨rfl, hb⟩; refine ⟨_, rfl, ?_⟩; have n0_ := Aside0.mk (below_step (by repeat (first | (with_reducible first | exact HB.out | apply below_alloc | apply pw_below_drewN | apply below_drew1) | exact HB.out)) hb); clear HB; have HB := n0_; clear n0_; (try clear hb); (try clear hb2); (try clear hk); (try clear hi)))
    go_ret
    exact ⟨by first | rfl | (simp [errW_none, errW_some] <;> rfl) | (simp [*, errW_none, errW_some] <;> rfl), by repeat (first | (with_reducible first | exact HB.out | apply below_alloc | apply pw_below_drewN | apply below_drew1) | exact HB.out)⟩
  · rw [if_neg c3] at H
    have c3b0 : (t161 == 2) = false := beq_eq_false_iff_ne.mpr c3
    have c3b1 : (t161 != 2) = true := bne_iff_ne.mpr c3
    obtain rfl := Option.some.inj H
    have hfld : ∀ (k m e : Int) (s : Bool) (w : World), (Instr.field 24 (.agg #[.int .i64 k, .bool s, .int .i64 m, .int .i64 e]) 0).run Tryd.prog w = .ok (.int .i64 k) w := fun _ _ _ _ _ => by kernel_rfl
    go_enter Tryd.func29, Tryd.ntmps29
    go_wp2_with (first | ((with_reducible refine gate_callee (f := 13) rfl ?_); refine goesL_ (some 8) rfl rfl Tryd.func13 (by kernel_rfl) rfl #[.int .u32 ((((a0) % 4294967296) * 65536) % 4294967296)] rfl (by (try simp only [List.map_toArray, List.map_cons, List.map_nil]); first | done | rfl | (simp only [List.length_drop, List.length_take]; rfl)) ?_; (with_reducible refine (single_Parts.calls ((((a0) % 4294967296) * 65536) % 4294967296) t161 t162 t163 t164 _ A2.out (by first | exact HTab.out | exact tab_below HTab.out (by repeat (first | (with_reducible first | exact HB.out | apply below_alloc | apply pw_below_drewN | apply below_drew1) | exact HB.out)))).mono ?_); rintro e w5 ⟨rfl, hb⟩; refine ⟨_, rfl, ?_⟩; have n0_ := Aside0.mk (below_step (by repeat (first | (with_reducible first | exact HB.out | apply below_alloc | apply pw_below_drewN | apply below_drew1) | exact HB.out)) hb); clear HB; have HB := n0_; clear n0_; (try clear hb); (try clear hb2); (try clear hk); (try clear hi)))
    go_ret
    exact ⟨by first | rfl | (simp [errW_none, errW_some] <;> rfl) | (simp [*, errW_none, errW_some] <;> rfl), by repeat (first | (with_reducible first | exact HB.out | apply below_alloc | apply pw_below_drewN | apply below_drew1) | exact HB.out)⟩

end Go.Proofs.YteecekhfpfnepaaDoor.PAll
