-- Written by a program of this session out of the translation. Lean checks it.
import Derived.Test.YteecekhfpfnepaaDoorPAllx0
import Derived.Test.YteecekhfpfnepaaDoorPAllx3
namespace Go.Proofs.YteecekhfpfnepaaDoor.PAll
open Go.RowKit Go.Proofs.YteecekhfpfnepaaDoorW.PrintWords Go.Proofs.YteecekhfpfnepaaDoorW.PrintLast Go.Proofs.YteecekhfpfnepaaDoorW.PrintMore
attribute [local go_sem] max2_int min2_int max_two min_two max_three min_three max_four min_four   -- for this text's walks alone
set_option linter.unusedVariables false
set_option linter.unusedSimpArgs false

/-! ### single_FromHalf: function 25 -/
def single_FromHalf.j0 : Nat → Int → Int → Int → Bool → Option (Int)
  | 0, _, _, _, _ => none
  | k + 1, x3, x4, x5, x17 => if x17 = true then (some 2143289344) else (if x4 = 31 then (some (Go.bits .or .u32 x3 2139095040)) else (if x4 = 0 then ((single_Near.f k x5 (-24)).bind fun t148 => (some (Go.bits .or .u32 x3 t148))) else ((single_Near.f k (wrap64 (1024 + x5)) (wrap64 (x4 - 25))).bind fun t149 => (some (Go.bits .or .u32 x3 t149)))))
def single_FromHalf.f (k : Nat) (a0 : Int) : Option (Int) := if (wrap64 (Go.bits .and .u16 (a0 / 1024) 31)) = 31 then (single_FromHalf.j0 k ((((a0 / 32768) % 4294967296) * 2147483648) % 4294967296) (wrap64 (Go.bits .and .u16 (a0 / 1024) 31)) (wrap64 (Go.bits .and .u16 a0 1023)) ((wrap64 (Go.bits .and .u16 a0 1023)) != 0)) else (single_FromHalf.j0 k ((((a0 / 32768) % 4294967296) * 2147483648) % 4294967296) (wrap64 (Go.bits .and .u16 (a0 / 1024) 31)) (wrap64 (Go.bits .and .u16 a0 1023)) false)
theorem single_FromHalf.mono_l : ∀ k, (∀ y0 y1 y2 y3, LeO (single_FromHalf.j0 k y0 y1 y2 y3) (single_FromHalf.j0 (k + 1) y0 y1 y2 y3))
  | 0 => fun _ _ _ _ r h => by simp [single_FromHalf.j0] at h
  | k + 1 => by
    have ih0 := single_FromHalf.mono_l k
    · intro y0 y1 y2 y3
      unfold single_FromHalf.j0
      repeat' first
      | (with_reducible exact ih0 _ _ _ _)
      | (with_reducible exact single_Near.mono _ _ _)
      | (with_reducible exact LeO.refl _)
      | (with_reducible exact LeO.none _)
      | (with_reducible refine LeO.ite ?_ ?_)
      | (with_reducible refine LeO.bind ?_ (fun _ => ?_))
      | exact ih0 _ _ _ _
      | exact single_Near.mono _ _ _
      | exact LeO.none _
      | refine LeO.ite ?_ ?_
      | refine LeO.bind ?_ (fun _ => ?_)
theorem single_FromHalf.mono : ∀ a0 k, LeO (single_FromHalf.f k a0) (single_FromHalf.f (k + 1) a0) := by
  intro a0 k
  have ih0 := single_FromHalf.mono_l k
  unfold single_FromHalf.f
  repeat' first
      | (with_reducible exact ih0 _ _ _ _)
      | (with_reducible exact single_Near.mono _ _ _)
      | (with_reducible exact LeO.refl _)
      | (with_reducible exact LeO.none _)
      | (with_reducible refine LeO.ite ?_ ?_)
      | (with_reducible refine LeO.bind ?_ (fun _ => ?_))
      | exact ih0 _ _ _ _
      | exact single_Near.mono _ _ _
      | exact LeO.none _
      | refine LeO.ite ?_ ?_
      | refine LeO.bind ?_ (fun _ => ?_)
set_option maxHeartbeats 8000000 in
set_option maxRecDepth 100000 in
theorem single_FromHalf.calls (k : Nat) (a0 : Int) (r : Int) (w : World) (h : single_FromHalf.f k a0 = some r) :
    Calls Tryd.prog 25 #[.int .u16 a0] w fun e w' => e = .returned (.int .u32 r) ∧ Below w.heap.size w w' := by
  have HB := Aside0.mk (Below.refl w.heap.size w)
  have H : (if (wrap64 (Go.bits .and .u16 (a0 / 1024) 31)) = 31 then (single_FromHalf.j0 k ((((a0 / 32768) % 4294967296) * 2147483648) % 4294967296) (wrap64 (Go.bits .and .u16 (a0 / 1024) 31)) (wrap64 (Go.bits .and .u16 a0 1023)) ((wrap64 (Go.bits .and .u16 a0 1023)) != 0)) else (single_FromHalf.j0 k ((((a0 / 32768) % 4294967296) * 2147483648) % 4294967296) (wrap64 (Go.bits .and .u16 (a0 / 1024) 31)) (wrap64 (Go.bits .and .u16 a0 1023)) false)) = some r := h
  clear h
  have HC2 := Aside0.mk H
  clear H
  go_enter Tryd.func25, Tryd.ntmps25
  go_upto_region 3 with (fail)
  go_cut [17] (fun v17 wc => ∃ (kq : Nat) (x17_1 : Bool), v17 = .bool x17_1 ∧ Aside0 (single_FromHalf.j0 kq ((((a0 / 32768) % 4294967296) * 2147483648) % 4294967296) (wrap64 (Go.bits .and .u16 (a0 / 1024) 31)) (wrap64 (Go.bits .and .u16 a0 1023)) x17_1 = some r) ∧ Aside0 (kq ≤ k) ∧ Aside0 (Below w.heap.size w wc))
  case first =>
    have H := HC2.out
    clear HC2
    by_cases c3 : (wrap64 (Go.bits .and .u16 (a0 / 1024) 31)) = 31
    · rw [if_pos c3] at H
      have c3b0 : ((wrap64 (Go.bits .and .u16 (a0 / 1024) 31)) == 31) = true := beq_iff_eq.mpr c3
      have c3b1 : ((wrap64 (Go.bits .and .u16 (a0 / 1024) 31)) != 31) = false := bne_eq_false_iff_eq.mpr c3
      clear c3
      (first | rw [c3b0] | (simp only [i64_w, i32_w]; rw [c3b0]) | skip)
      have H' := Aside0.mk H
      clear H
      go_wp2
      go_meet
      case rel => exact ⟨_, (((wrap64 (Go.bits .and .u16 a0 1023)) != 0)), (by first | rfl | (simp; done) | (simp [*]; done) | (simp [i64_w]; done) | (simp [*, i64_w]; done)), H', ⟨by first | omega | exact Nat.le_refl _⟩, ⟨by repeat (first | (with_reducible first | exact HB.out | apply below_alloc | apply pw_below_drewN | apply below_drew1) | exact HB.out)⟩⟩
    · rw [if_neg c3] at H
      have c3b0 : ((wrap64 (Go.bits .and .u16 (a0 / 1024) 31)) == 31) = false := beq_eq_false_iff_ne.mpr c3
      have c3b1 : ((wrap64 (Go.bits .and .u16 (a0 / 1024) 31)) != 31) = true := bne_iff_ne.mpr c3
      (first | rw [c3b0] | (simp only [i64_w, i32_w]; rw [c3b0]) | skip)
      have H' := Aside0.mk H
      clear H
      go_wp2
      go_meet
      case rel => exact ⟨_, (false), (by first | rfl | (simp; done) | (simp [*]; done) | (simp [i64_w]; done) | (simp [*, i64_w]; done)), H', ⟨by first | omega | exact Nat.le_refl _⟩, ⟨by repeat (first | (with_reducible first | exact HB.out | apply below_alloc | apply pw_below_drewN | apply below_drew1) | exact HB.out)⟩⟩
  case rest =>
    clear HC2
    try clear c2
    try clear p2
    try clear c3
    try clear c3b0
    try clear c3b1
    obtain ⟨kq, x17_1, rfl, HA, HJ1, HB⟩ := hcut
    cases kq with
    | zero => exact absurd HA.out (by simp [single_FromHalf.j0])
    | succ kj1 =>
      have H := HA.out
      clear HA
      simp only [single_FromHalf.j0] at H
      by_cases c4 : x17_1 = true
      · subst c4
        have H1 : (some 2143289344) = some r := by rw [if_pos rfl] at H; exact H
        clear H
        have H := H1
        clear H1
        obtain rfl := Option.some.inj H
        go_wp2
        go_ret
        exact ⟨by first | rfl | (simp [errW_none, errW_some] <;> rfl) | (simp [*, errW_none, errW_some] <;> rfl), by repeat (first | (with_reducible first | exact HB.out | apply below_alloc | apply pw_below_drewN | apply below_drew1) | exact HB.out)⟩
      · replace c4 := Bool.eq_false_iff.mpr c4
        subst c4
        have H1 : (if (wrap64 (Go.bits .and .u16 (a0 / 1024) 31)) = 31 then (some (Go.bits .or .u32 ((((a0 / 32768) % 4294967296) * 2147483648) % 4294967296) 2139095040)) else (if (wrap64 (Go.bits .and .u16 (a0 / 1024) 31)) = 0 then ((single_Near.f kj1 (wrap64 (Go.bits .and .u16 a0 1023)) (-24)).bind fun t148 => (some (Go.bits .or .u32 ((((a0 / 32768) % 4294967296) * 2147483648) % 4294967296) t148))) else ((single_Near.f kj1 (wrap64 (1024 + (wrap64 (Go.bits .and .u16 a0 1023)))) (wrap64 ((wrap64 (Go.bits .and .u16 (a0 / 1024) 31)) - 25))).bind fun t149 => (some (Go.bits .or .u32 ((((a0 / 32768) % 4294967296) * 2147483648) % 4294967296) t149))))) = some r := by rw [if_neg (show ¬ (false = true) by decide)] at H; exact H
        clear H
        have H := H1
        clear H1
        by_cases c5 : (wrap64 (Go.bits .and .u16 (a0 / 1024) 31)) = 31
        · rw [if_pos c5] at H
          have c5b0 : ((wrap64 (Go.bits .and .u16 (a0 / 1024) 31)) == 31) = true := beq_iff_eq.mpr c5
          have c5b1 : ((wrap64 (Go.bits .and .u16 (a0 / 1024) 31)) != 31) = false := bne_eq_false_iff_eq.mpr c5
          clear c5
          obtain rfl := Option.some.inj H
          go_wp2
          go_ret
          exact ⟨by first | rfl | (simp [errW_none, errW_some] <;> rfl) | (simp [*, errW_none, errW_some] <;> rfl), by repeat (first | (with_reducible first | exact HB.out | apply below_alloc | apply pw_below_drewN | apply below_drew1) | exact HB.out)⟩
        · rw [if_neg c5] at H
          have c5b0 : ((wrap64 (Go.bits .and .u16 (a0 / 1024) 31)) == 31) = false := beq_eq_false_iff_ne.mpr c5
          have c5b1 : ((wrap64 (Go.bits .and .u16 (a0 / 1024) 31)) != 31) = true := bne_iff_ne.mpr c5
          by_cases c6 : (wrap64 (Go.bits .and .u16 (a0 / 1024) 31)) = 0
          · rw [if_pos c6] at H
            have c6b0 : ((wrap64 (Go.bits .and .u16 (a0 / 1024) 31)) == 0) = true := beq_iff_eq.mpr c6
            have c6b1 : ((wrap64 (Go.bits .and .u16 (a0 / 1024) 31)) != 0) = false := bne_eq_false_iff_eq.mpr c6
            clear c6
            replace H := Option.bind_eq_some_iff.mp H
            obtain ⟨t148, A70, H⟩ := H
            replace H : (some (Go.bits .or .u32 ((((a0 / 32768) % 4294967296) * 2147483648) % 4294967296) t148)) = some r := H
            have A7 := Aside0.mk A70
            clear A70
            obtain rfl := Option.some.inj H
            go_wp2_with (first | ((with_reducible refine gate_callee (f := 16) rfl ?_); refine goesL_ (some 34) rfl rfl Tryd.func16 (by kernel_rfl) rfl #[.int .i64 (wrap64 (Go.bits .and .u16 a0 1023)), .int .i64 (-24)] rfl (by (try simp only [List.map_toArray, List.map_cons, List.map_nil]); first | done | rfl | (simp only [List.length_drop, List.length_take]; rfl)) ?_; (with_reducible refine (single_Near.calls kj1 (wrap64 (Go.bits .and .u16 a0 1023)) (-24) t148 _ A7.out).mono ?_); rintro e w8 ⟨rfl, hb⟩; refine ⟨_, rfl, ?_⟩; have n0_ := Aside0.mk (below_step (by repeat (first | (with_reducible first | exact HB.out | apply below_alloc | apply pw_below_drewN | apply below_drew1) | exact HB.out)) hb); clear HB; have HB := n0_; clear n0_; (try clear hb); (try clear hb2); (try clear hk); (try clear hi)))
            go_ret
            exact ⟨by first | rfl | (simp [errW_none, errW_some] <;> rfl) | (simp [*, errW_none, errW_some] <;> rfl), by repeat (first | (with_reducible first | exact HB.out | apply below_alloc | apply pw_below_drewN | apply below_drew1) | exact HB.out)⟩
          · rw [if_neg c6] at H
            have c6b0 : ((wrap64 (Go.bits .and .u16 (a0 / 1024) 31)) == 0) = false := beq_eq_false_iff_ne.mpr c6
            have c6b1 : ((wrap64 (Go.bits .and .u16 (a0 / 1024) 31)) != 0) = true := bne_iff_ne.mpr c6
            replace H := Option.bind_eq_some_iff.mp H
            obtain ⟨t149, A90, H⟩ := H
            replace H : (some (Go.bits .or .u32 ((((a0 / 32768) % 4294967296) * 2147483648) % 4294967296) t149)) = some r := H
            have A9 := Aside0.mk A90
            clear A90
            obtain rfl := Option.some.inj H
            go_wp2_with (first | ((with_reducible refine gate_callee (f := 16) rfl ?_); refine goesL_ (some 41) rfl rfl Tryd.func16 (by kernel_rfl) rfl #[.int .i64 (wrap64 (1024 + (wrap64 (Go.bits .and .u16 a0 1023)))), .int .i64 (wrap64 ((wrap64 (Go.bits .and .u16 (a0 / 1024) 31)) - 25))] rfl (by (try simp only [List.map_toArray, List.map_cons, List.map_nil]); first | done | rfl | (simp only [List.length_drop, List.length_take]; rfl)) ?_; (with_reducible refine (single_Near.calls kj1 (wrap64 (1024 + (wrap64 (Go.bits .and .u16 a0 1023)))) (wrap64 ((wrap64 (Go.bits .and .u16 (a0 / 1024) 31)) - 25)) t149 _ A9.out).mono ?_); rintro e w10 ⟨rfl, hb⟩; refine ⟨_, rfl, ?_⟩; have n0_ := Aside0.mk (below_step (by repeat (first | (with_reducible first | exact HB.out | apply below_alloc | apply pw_below_drewN | apply below_drew1) | exact HB.out)) hb); clear HB; have HB := n0_; clear n0_; (try clear hb); (try clear hb2); (try clear hk); (try clear hi)))
            go_ret
            exact ⟨by first | rfl | (simp [errW_none, errW_some] <;> rfl) | (simp [*, errW_none, errW_some] <;> rfl), by repeat (first | (with_reducible first | exact HB.out | apply below_alloc | apply pw_below_drewN | apply below_drew1) | exact HB.out)⟩

end Go.Proofs.YteecekhfpfnepaaDoor.PAll
