/- Texts of this session, merged: PAllx25, SgQuant, SgKeep, PureSingleKeeps. -/
import Derived.Test.YteecekhfpfnepaaDoorMgK0
import Derived.Test.YteecekhfpfnepaaDoorMgK2
import Derived.Test.YteecekhfpfnepaaDoorMgK1
section
-- Written by a program of this session out of the translation. Lean checks it.
namespace Go.Proofs.YteecekhfpfnepaaDoor.PAll
open Go.RowKit Go.Proofs.YteecekhfpfnepaaDoorW.PrintWords Go.Proofs.YteecekhfpfnepaaDoorW.PrintLast Go.Proofs.YteecekhfpfnepaaDoorW.PrintMore
attribute [local go_sem] max2_int min2_int max_two min_two max_three min_three max_four min_four   -- for this text's walks alone
set_option linter.unusedVariables false
set_option linter.unusedSimpArgs false

/-! ### heraldref03_Quantise: function 22 -/
mutual
def heraldref03_Quantise.l0 : Nat → List Int → Bool → Int → Option (List Int × Int × Int)
  | 0, _, _, _ => none
  | k + 1, x0, x5, x6 => if x6 < (x0.length : Int) then (if 0 ≤ x6 then ((heraldref03_raw.f (rd x0 x6)).bind fun bt289 => (if bt289.1 = 0 then (if x5 = true then (heraldref03_Quantise.l0 k x0 (bt289.2.2.1 == 0) (wrap64 (x6 + 1))) else (heraldref03_Quantise.l0 k x0 false (wrap64 (x6 + 1)))) else (some ((([] : List Int)), 0, 30)))) else (none)) else (if x5 = true then ((heraldref03_at.f k x0 0).bind fun bt296 => (some (bt296.1, 0, 0))) else (heraldref03_Quantise.l1 k x0 64))
def heraldref03_Quantise.l1 : Nat → List Int → Int → Option (List Int × Int × Int)
  | 0, _, _ => none
  | k + 1, x0, x13 => if x13 ≥ (-64) then ((heraldref03_at.f k x0 x13).bind fun bt300 => (if bt300.2 = true then (some (bt300.1, x13, 0)) else (heraldref03_Quantise.l1 k x0 (wrap64 (x13 - 1))))) else (some ((([] : List Int)), 0, 31))
end
def heraldref03_Quantise.f (k : Nat) (l0 : List Int) : Option (List Int × Int × Int) := heraldref03_Quantise.l0 k l0 true 0
theorem heraldref03_Quantise.mono_l : ∀ k, (∀ y0 y1 y2, LeO (heraldref03_Quantise.l0 k y0 y1 y2) (heraldref03_Quantise.l0 (k + 1) y0 y1 y2)) ∧ (∀ y0 y1, LeO (heraldref03_Quantise.l1 k y0 y1) (heraldref03_Quantise.l1 (k + 1) y0 y1))
  | 0 => ⟨fun _ _ _ r h => by simp [heraldref03_Quantise.l0] at h, fun _ _ r h => by simp [heraldref03_Quantise.l1] at h⟩
  | k + 1 => by
    obtain ⟨ih0, ih1⟩ := heraldref03_Quantise.mono_l k
    refine ⟨?_, ?_⟩
    · intro y0 y1 y2
      unfold heraldref03_Quantise.l0
      repeat' first
      | (with_reducible exact ih0 _ _ _)
      | (with_reducible exact ih1 _ _)
      | (with_reducible exact heraldref03_at.mono _ _ _)
      | (with_reducible exact LeO.refl _)
      | (with_reducible exact LeO.none _)
      | (with_reducible refine LeO.ite ?_ ?_)
      | (with_reducible refine LeO.bind ?_ (fun _ => ?_))
      | exact ih0 _ _ _
      | exact ih1 _ _
      | exact heraldref03_at.mono _ _ _
      | exact LeO.none _
      | refine LeO.ite ?_ ?_
      | refine LeO.bind ?_ (fun _ => ?_)
    · intro y0 y1
      unfold heraldref03_Quantise.l1
      repeat' first
      | (with_reducible exact ih0 _ _ _)
      | (with_reducible exact ih1 _ _)
      | (with_reducible exact heraldref03_at.mono _ _ _)
      | (with_reducible exact LeO.refl _)
      | (with_reducible exact LeO.none _)
      | (with_reducible refine LeO.ite ?_ ?_)
      | (with_reducible refine LeO.bind ?_ (fun _ => ?_))
      | exact ih0 _ _ _
      | exact ih1 _ _
      | exact heraldref03_at.mono _ _ _
      | exact LeO.none _
      | refine LeO.ite ?_ ?_
      | refine LeO.bind ?_ (fun _ => ?_)
theorem heraldref03_Quantise.mono : ∀ a0 k, LeO (heraldref03_Quantise.f k a0) (heraldref03_Quantise.f (k + 1) a0) := by
  intro a0 k
  obtain ⟨ih0, ih1⟩ := heraldref03_Quantise.mono_l k
  unfold heraldref03_Quantise.f
  repeat' first
      | (with_reducible exact ih0 _ _ _)
      | (with_reducible exact ih1 _ _)
      | (with_reducible exact heraldref03_at.mono _ _ _)
      | (with_reducible exact LeO.refl _)
      | (with_reducible exact LeO.none _)
      | (with_reducible refine LeO.ite ?_ ?_)
      | (with_reducible refine LeO.bind ?_ (fun _ => ?_))
      | exact ih0 _ _ _
      | exact ih1 _ _
      | exact heraldref03_at.mono _ _ _
      | exact LeO.none _
      | refine LeO.ite ?_ ?_
      | refine LeO.bind ?_ (fun _ => ?_)
set_option maxHeartbeats 8000000 in
set_option maxRecDepth 100000 in
theorem heraldref03_Quantise.calls (k : Nat) (A0 : Option Addr) (c0 : Nat) (l0 : List Int) (r1 : List Int) (r2 : Int) (r3 : Int) (w : World) (hr0 : Kd.C (Kd.int .u32) w A0 l0.length l0) (hc0 : l0.length ≤ c0) (h : heraldref03_Quantise.f k l0 = some (r1, r2, r3)) :
    Calls Tryd.prog 22 #[.slice A0 l0.length c0] w fun e w' => ∃ v0_ : Value, e = .returned (.tuple #[v0_, .int .i64 r2, .int .i64 r3]) ∧ Kd.R (Kd.int .i8) 47 w' w.heap.size (fun _ => True) v0_ r1 ∧ Below w.heap.size w w' := by
  have HR0 := Aside0.mk hr0
  have HC0 := Aside0.mk hc0
  clear hr0 hc0
  have HB := Aside0.mk (Below.refl w.heap.size w)
  have H : (heraldref03_Quantise.l0 k l0 true 0) = some (r1, r2, r3) := h
  clear h
  have H' := Aside0.mk H
  clear H
  go_enter Tryd.func22, Tryd.ntmps22
  go_wp2
  go_loopg [5, 6] k (fun kq v5 v6 w' => ∃ (x5_1 : Bool) (x6_1 : Int), v5 = .bool x5_1 ∧ v6 = .int .i64 x6_1 ∧ Aside0 (heraldref03_Quantise.l0 kq l0 x5_1 x6_1 = some (r1, r2, r3)) ∧ Aside0 (kq ≤ k) ∧ Aside0 (Below w.heap.size w w'))
  case atStart => exact ⟨(true), (0), (by first | rfl | (simp; done) | (simp [*]; done) | (simp [i64_w]; done) | (simp [*, i64_w]; done)), (by first | rfl | (simp; done) | (simp [*]; done) | (simp [i64_w]; done) | (simp [*, i64_w]; done)), H', ⟨Nat.le_refl _⟩, ⟨by repeat (first | (with_reducible first | exact HB.out | apply below_alloc | apply pw_below_drewN | apply below_drew1) | exact HB.out)⟩⟩
  case round =>
    clear H'
    obtain ⟨x5_1, x6_1, rfl, rfl, HA, HK1, HB⟩ := hrel
    cases gk with
    | zero => exact absurd HA.out (by simp [heraldref03_Quantise.l0])
    | succ k1 =>
      have H := HA.out
      clear HA
      simp only [heraldref03_Quantise.l0] at H
      by_cases c2 : x6_1 < (l0.length : Int)
      · rw [if_pos c2] at H
        have c2b0 : decide (x6_1 < (l0.length : Int)) = true := decide_eq_true c2
        clear c2
        by_cases c3 : 0 ≤ x6_1
        · rw [if_pos c3] at H
          have c3b0 : decide (0 ≤ x6_1) = true := decide_eq_true c3
          clear c3
          replace H := Option.bind_eq_some_iff.mp H
          obtain ⟨⟨t289, t290, t291, t292⟩, A40, H⟩ := H
          replace H : (if t289 = 0 then (if x5_1 = true then (heraldref03_Quantise.l0 k1 l0 (t291 == 0) (wrap64 (x6_1 + 1))) else (heraldref03_Quantise.l0 k1 l0 false (wrap64 (x6_1 + 1)))) else (some ((([] : List Int)), 0, 30))) = some (r1, r2, r3) := H
          have A4 := Aside0.mk A40
          clear A40
          by_cases c5 : t289 = 0
          · rw [if_pos c5] at H
            have c5b0 : (t289 == 0) = true := beq_iff_eq.mpr c5
            have c5b1 : (t289 != 0) = false := bne_eq_false_iff_eq.mpr c5
            clear c5
            by_cases c6 : x5_1 = true
            · subst c6
              have H1 : (heraldref03_Quantise.l0 k1 l0 (t291 == 0) (wrap64 (x6_1 + 1))) = some (r1, r2, r3) := by rw [if_pos rfl] at H; exact H
              clear H
              have H := H1
              clear H1
              have H' := Aside0.mk H
              clear H
              have p288 : 0 ≤ (x6_1 : Int) := of_decide_eq_true (by first | (with_reducible assumption) | assumption)
              have q288 : x6_1 < (l0.length : Int) := of_decide_eq_true (by first | (with_reducible assumption) | assumption)
              obtain ⟨ad288, e288, hx288_0⟩ := Kd.at_int HR0.out x6_1 p288 q288
              cases e288
              replace hx288_0 := (HB.out.cell (World.block_lt_of_cell? w _ hx288_0)).trans hx288_0
              replace p288 := eq_true p288
              replace q288 := eq_true q288
              go_wp2_with (first | ((with_reducible refine gate_callee (f := 37) rfl ?_); refine goesL_ (some 27) rfl rfl Tryd.func37 (by kernel_rfl) rfl #[.int .u32 (rd l0 x6_1)] rfl (by (try simp only [List.map_toArray, List.map_cons, List.map_nil]); first | done | rfl | (simp only [List.length_drop, List.length_take]; rfl)) ?_; (with_reducible refine (heraldref03_raw.calls (rd l0 x6_1) t289 t290 t291 t292 _ A4.out).mono ?_); rintro e w' ⟨rfl, ⟨nd, rfl⟩⟩; refine ⟨_, rfl, ?_⟩))
              go_roundg k1
              case measure => have := HK1.out; omega
              case rel => exact ⟨((t291 == 0)), (wrap64 (x6_1 + 1)), (by first | rfl | (simp; done) | (simp [*]; done) | (simp [i64_w]; done) | (simp [*, i64_w]; done)), (by first | rfl | (simp; done) | (simp [*]; done) | (simp [i64_w]; done) | (simp [*, i64_w]; done)), H', ⟨by have := HK1.out; omega⟩, ⟨by repeat (first | (with_reducible first | exact HB.out | apply below_alloc | apply pw_below_drewN | apply below_drew1) | exact HB.out)⟩⟩
            · replace c6 := Bool.eq_false_iff.mpr c6
              subst c6
              have H1 : (heraldref03_Quantise.l0 k1 l0 false (wrap64 (x6_1 + 1))) = some (r1, r2, r3) := by rw [if_neg (show ¬ (false = true) by decide)] at H; exact H
              clear H
              have H := H1
              clear H1
              have H' := Aside0.mk H
              clear H
              have p288 : 0 ≤ (x6_1 : Int) := of_decide_eq_true (by first | (with_reducible assumption) | assumption)
              have q288 : x6_1 < (l0.length : Int) := of_decide_eq_true (by first | (with_reducible assumption) | assumption)
              obtain ⟨ad288, e288, hx288_0⟩ := Kd.at_int HR0.out x6_1 p288 q288
              cases e288
              replace hx288_0 := (HB.out.cell (World.block_lt_of_cell? w _ hx288_0)).trans hx288_0
              replace p288 := eq_true p288
              replace q288 := eq_true q288
              go_wp2_with (first | ((with_reducible refine gate_callee (f := 37) rfl ?_); refine goesL_ (some 27) rfl rfl Tryd.func37 (by kernel_rfl) rfl #[.int .u32 (rd l0 x6_1)] rfl (by (try simp only [List.map_toArray, List.map_cons, List.map_nil]); first | done | rfl | (simp only [List.length_drop, List.length_take]; rfl)) ?_; (with_reducible refine (heraldref03_raw.calls (rd l0 x6_1) t289 t290 t291 t292 _ A4.out).mono ?_); rintro e w' ⟨rfl, ⟨nd, rfl⟩⟩; refine ⟨_, rfl, ?_⟩))
              go_roundg k1
              case measure => have := HK1.out; omega
              case rel => exact ⟨(false), (wrap64 (x6_1 + 1)), (by first | rfl | (simp; done) | (simp [*]; done) | (simp [i64_w]; done) | (simp [*, i64_w]; done)), (by first | rfl | (simp; done) | (simp [*]; done) | (simp [i64_w]; done) | (simp [*, i64_w]; done)), H', ⟨by have := HK1.out; omega⟩, ⟨by repeat (first | (with_reducible first | exact HB.out | apply below_alloc | apply pw_below_drewN | apply below_drew1) | exact HB.out)⟩⟩
          · rw [if_neg c5] at H
            have c5b0 : (t289 == 0) = false := beq_eq_false_iff_ne.mpr c5
            have c5b1 : (t289 != 0) = true := bne_iff_ne.mpr c5
            obtain ⟨y293, hy293⟩ : ∃ y_ : List Int, y_ = (([] : List Int)) := ⟨_, rfl⟩
            replace H : (some (y293, 0, 30)) = some (r1, r2, r3) := by first | (rw [hy293]; with_reducible exact H) | (have H2_ := (Option.bind_some _ _).symm.trans H; rw [hy293]; with_reducible exact H2_) | (have H2_ := (Option.bind_some _ _).symm.trans H; with_reducible exact H2_) | with_reducible exact H | (rw [hy293]; exact H) | exact H
            have Ny293 := Aside0.mk hy293
            clear hy293
            simp only [Option.some.injEq, Prod.mk.injEq] at H
            obtain ⟨rfl, rfl, rfl⟩ := H
            have p288 : 0 ≤ (x6_1 : Int) := of_decide_eq_true (by first | (with_reducible assumption) | assumption)
            have q288 : x6_1 < (l0.length : Int) := of_decide_eq_true (by first | (with_reducible assumption) | assumption)
            obtain ⟨ad288, e288, hx288_0⟩ := Kd.at_int HR0.out x6_1 p288 q288
            cases e288
            replace hx288_0 := (HB.out.cell (World.block_lt_of_cell? w _ hx288_0)).trans hx288_0
            replace p288 := eq_true p288
            replace q288 := eq_true q288
            go_wp2_with (first | ((with_reducible refine gate_callee (f := 37) rfl ?_); refine goesL_ (some 27) rfl rfl Tryd.func37 (by kernel_rfl) rfl #[.int .u32 (rd l0 x6_1)] rfl (by (try simp only [List.map_toArray, List.map_cons, List.map_nil]); first | done | rfl | (simp only [List.length_drop, List.length_take]; rfl)) ?_; (with_reducible refine (heraldref03_raw.calls (rd l0 x6_1) t289 t290 t291 t292 _ A4.out).mono ?_); rintro e w' ⟨rfl, ⟨nd, rfl⟩⟩; refine ⟨_, rfl, ?_⟩) | ((with_reducible refine gate_dst (N := 34) rfl ?_); refine Kd.R_lit (Kd.int .i8) _ 47 ?hg (N := 34) ?hd (xs := ([] : List Int)) (inner := []) (ok := fun _ => True) (okp := fun _ => True) ?hr ?hp (fun _ hk => hk) trivial (Below.refl _ _) (Nat.le_refl _) (by simp) ?_; (case hd => rfl); (case hg => rfl); (case hr => first | (go_simp; done) | (go_simp; rfl)); (case hp => exact (Reps.none _ _)); intro v294 w7 ho8 hb hg_ hnew_; clear hg_ hnew_; (first | rw [← Ny293.out] at ho8 | (simp only [Int.reduceToNat] at ho8; rw [← Ny293.out] at ho8)); have n0_ := Aside0.mk (Kd.R_lower ho8 (below_size (by repeat (first | (with_reducible first | exact HB.out | apply below_alloc | apply pw_below_drewN | apply below_drew1) | exact HB.out)))); have n1_ := Aside0.mk (below_step (by repeat (first | (with_reducible first | exact HB.out | apply below_alloc | apply pw_below_drewN | apply below_drew1) | exact HB.out)) hb); clear HB; have HO295 := n0_; have HB := n1_; clear n0_ n1_; clear hb ho8))
            go_ret3
            exact ⟨_, by first | rfl | (simp [errW_none, errW_some] <;> rfl) | (simp [*, errW_none, errW_some] <;> rfl), by (with_reducible repeat (first | apply Kd.R_alloc | apply Kd.R_drewN | apply Kd.R_drew)); exact HO295.out, by repeat (first | (with_reducible first | exact HB.out | apply below_alloc | apply pw_below_drewN | apply below_drew1) | exact HB.out)⟩
        · rw [if_neg c3] at H
          exact absurd H (by simp)
      · rw [if_neg c2] at H
        have c2b0 : decide (x6_1 < (l0.length : Int)) = false := decide_eq_false c2
        clear c2
        by_cases c9 : x5_1 = true
        · subst c9
          have H1 : ((heraldref03_at.f k1 l0 0).bind fun bt296 => (some (bt296.1, 0, 0))) = some (r1, r2, r3) := by rw [if_pos rfl] at H; exact H
          clear H
          have H := H1
          clear H1
          replace H := Option.bind_eq_some_iff.mp H
          obtain ⟨⟨t296, t297⟩, A100, H⟩ := H
          replace H : (some (t296, 0, 0)) = some (r1, r2, r3) := H
          have A10 := Aside0.mk A100
          clear A100
          simp only [Option.some.injEq, Prod.mk.injEq] at H
          obtain ⟨rfl, rfl, rfl⟩ := H
          go_wp2_with (first | ((with_reducible refine gate_callee (f := 42) rfl ?_); refine goesL_ (some 43) rfl rfl Tryd.func42 (by kernel_rfl) rfl #[.slice A0 l0.length c0, .int .i64 0] rfl (by (try simp only [List.map_toArray, List.map_cons, List.map_nil]); first | done | rfl | (simp only [List.length_drop, List.length_take]; rfl)) ?_; (with_reducible refine (heraldref03_at.calls k1 _ _ l0 0 t296 t297 _ ?side1 ?side2 A10.out).mono ?_); (case side1 => repeat (first | exact (Kd.C_below HR0.out HB.out) | (with_reducible refine Kd.C_alloc ?_ _) | (with_reducible refine Kd.C_drewN ?_ _) | (with_reducible refine Kd.C_drew ?_))); (case side2 => exact HC0.out); rintro e w11 ⟨v298, rfl, ho0, hb⟩; refine ⟨_, rfl, ?_⟩; have n0_ := Aside0.mk (Kd.R_lower ho0 (below_size (by repeat (first | (with_reducible first | exact HB.out | apply below_alloc | apply pw_below_drewN | apply below_drew1) | exact HB.out)))); have n1_ := Aside0.mk (below_step (by repeat (first | (with_reducible first | exact HB.out | apply below_alloc | apply pw_below_drewN | apply below_drew1) | exact HB.out)) hb); clear HB; have HO299 := n0_; have HB := n1_; clear n0_ n1_; (try clear hb); (try clear hb2); (try clear hk); (try clear hi); (try clear ho0)))
          go_ret3
          exact ⟨_, by first | rfl | (simp [errW_none, errW_some] <;> rfl) | (simp [*, errW_none, errW_some] <;> rfl), by (with_reducible repeat (first | apply Kd.R_alloc | apply Kd.R_drewN | apply Kd.R_drew)); exact HO299.out, by repeat (first | (with_reducible first | exact HB.out | apply below_alloc | apply pw_below_drewN | apply below_drew1) | exact HB.out)⟩
        · replace c9 := Bool.eq_false_iff.mpr c9
          subst c9
          have H1 : (heraldref03_Quantise.l1 k1 l0 64) = some (r1, r2, r3) := by rw [if_neg (show ¬ (false = true) by decide)] at H; exact H
          clear H
          have H := H1
          clear H1
          have H' := Aside0.mk H
          clear H
          go_wp2
          go_loopg [13] k1 (fun kq v13 w' => ∃ (x13_2 : Int), v13 = .int .i64 x13_2 ∧ Aside0 (heraldref03_Quantise.l1 kq l0 x13_2 = some (r1, r2, r3)) ∧ Aside0 (kq ≤ k1) ∧ Aside0 (Below w.heap.size w w'))
          case atStart => exact ⟨(64), (by first | rfl | (simp; done) | (simp [*]; done) | (simp [i64_w]; done) | (simp [*, i64_w]; done)), H', ⟨Nat.le_refl _⟩, ⟨by repeat (first | (with_reducible first | exact HB.out | apply below_alloc | apply pw_below_drewN | apply below_drew1) | exact HB.out)⟩⟩
          case round =>
            clear H'
            try clear c2
            try clear c2b0
            try clear p2
            try clear q2
            try clear hx2
            try clear c3
            try clear c3b0
            try clear c4
            try clear c5
            try clear c5b0
            try clear c5b1
            try clear c6
            try clear p6
            try clear c9
            try clear hx288_0
            try clear p288
            try clear q288
            obtain ⟨x13_2, rfl, HA, HK2, HB⟩ := hrel
            cases gk with
            | zero => exact absurd HA.out (by simp [heraldref03_Quantise.l1])
            | succ k2 =>
              have H := HA.out
              clear HA
              simp only [heraldref03_Quantise.l1] at H
              by_cases c12 : x13_2 ≥ (-64)
              · rw [if_pos c12] at H
                have c12b0 : decide ((-64) ≤ x13_2) = true := decide_eq_true c12
                clear c12
                replace H := Option.bind_eq_some_iff.mp H
                obtain ⟨⟨t300, t301⟩, A130, H⟩ := H
                replace H : (if t301 = true then (some (t300, x13_2, 0)) else (heraldref03_Quantise.l1 k2 l0 (wrap64 (x13_2 - 1)))) = some (r1, r2, r3) := H
                have A13 := Aside0.mk A130
                clear A130
                by_cases c14 : t301 = true
                · subst c14
                  have H1 : (some (t300, x13_2, 0)) = some (r1, r2, r3) := by rw [if_pos rfl] at H; exact H
                  clear H
                  have H := H1
                  clear H1
                  simp only [Option.some.injEq, Prod.mk.injEq] at H
                  obtain ⟨rfl, rfl, rfl⟩ := H
                  go_wp2_with (first | ((with_reducible refine gate_callee (f := 42) rfl ?_); refine goesL_ (some 54) rfl rfl Tryd.func42 (by kernel_rfl) rfl #[.slice A0 l0.length c0, .int .i64 x13_2] rfl (by (try simp only [List.map_toArray, List.map_cons, List.map_nil]); first | done | rfl | (simp only [List.length_drop, List.length_take]; rfl)) ?_; (with_reducible refine (heraldref03_at.calls k2 _ _ l0 x13_2 t300 true _ ?side1 ?side2 A13.out).mono ?_); (case side1 => repeat (first | exact (Kd.C_below HR0.out HB.out) | (with_reducible refine Kd.C_alloc ?_ _) | (with_reducible refine Kd.C_drewN ?_ _) | (with_reducible refine Kd.C_drew ?_))); (case side2 => exact HC0.out); rintro e w15 ⟨v302, rfl, ho0, hb⟩; refine ⟨_, rfl, ?_⟩; have n0_ := Aside0.mk (Kd.R_lower ho0 (below_size (by repeat (first | (with_reducible first | exact HB.out | apply below_alloc | apply pw_below_drewN | apply below_drew1) | exact HB.out)))); have n1_ := Aside0.mk (below_step (by repeat (first | (with_reducible first | exact HB.out | apply below_alloc | apply pw_below_drewN | apply below_drew1) | exact HB.out)) hb); clear HB; have HO303 := n0_; have HB := n1_; clear n0_ n1_; (try clear hb); (try clear hb2); (try clear hk); (try clear hi); (try clear ho0)))
                  go_ret3
                  exact ⟨_, by first | rfl | (simp [errW_none, errW_some] <;> rfl) | (simp [*, errW_none, errW_some] <;> rfl), by (with_reducible repeat (first | apply Kd.R_alloc | apply Kd.R_drewN | apply Kd.R_drew)); exact HO303.out, by repeat (first | (with_reducible first | exact HB.out | apply below_alloc | apply pw_below_drewN | apply below_drew1) | exact HB.out)⟩
                · replace c14 := Bool.eq_false_iff.mpr c14
                  subst c14
                  have H1 : (heraldref03_Quantise.l1 k2 l0 (wrap64 (x13_2 - 1))) = some (r1, r2, r3) := by rw [if_neg (show ¬ (false = true) by decide)] at H; exact H
                  clear H
                  have H := H1
                  clear H1
                  have H' := Aside0.mk H
                  clear H
                  go_wp2_with (first | ((with_reducible refine gate_callee (f := 42) rfl ?_); refine goesL_ (some 54) rfl rfl Tryd.func42 (by kernel_rfl) rfl #[.slice A0 l0.length c0, .int .i64 x13_2] rfl (by (try simp only [List.map_toArray, List.map_cons, List.map_nil]); first | done | rfl | (simp only [List.length_drop, List.length_take]; rfl)) ?_; (with_reducible refine (heraldref03_at.calls k2 _ _ l0 x13_2 t300 false _ ?side1 ?side2 A13.out).mono ?_); (case side1 => repeat (first | exact (Kd.C_below HR0.out HB.out) | (with_reducible refine Kd.C_alloc ?_ _) | (with_reducible refine Kd.C_drewN ?_ _) | (with_reducible refine Kd.C_drew ?_))); (case side2 => exact HC0.out); rintro e w16 ⟨v302, rfl, ho0, hb⟩; refine ⟨_, rfl, ?_⟩; have n0_ := Aside0.mk (Kd.R_lower ho0 (below_size (by repeat (first | (with_reducible first | exact HB.out | apply below_alloc | apply pw_below_drewN | apply below_drew1) | exact HB.out)))); have n1_ := Aside0.mk (below_step (by repeat (first | (with_reducible first | exact HB.out | apply below_alloc | apply pw_below_drewN | apply below_drew1) | exact HB.out)) hb); clear HB; have HO303 := n0_; have HB := n1_; clear n0_ n1_; (try clear hb); (try clear hb2); (try clear hk); (try clear hi); (try clear ho0)))
                  go_roundg k2
                  case measure => have := HK1.out; have := HK2.out; omega
                  case rel => exact ⟨(wrap64 (x13_2 - 1)), (by first | rfl | (simp; done) | (simp [*]; done) | (simp [i64_w]; done) | (simp [*, i64_w]; done)), H', ⟨by have := HK1.out; have := HK2.out; omega⟩, ⟨by repeat (first | (with_reducible first | exact HB.out | apply below_alloc | apply pw_below_drewN | apply below_drew1) | exact HB.out)⟩⟩
              · rw [if_neg c12] at H
                have c12b0 : decide ((-64) ≤ x13_2) = false := decide_eq_false c12
                clear c12
                obtain ⟨y304, hy304⟩ : ∃ y_ : List Int, y_ = (([] : List Int)) := ⟨_, rfl⟩
                replace H : (some (y304, 0, 31)) = some (r1, r2, r3) := by first | (rw [hy304]; with_reducible exact H) | (have H2_ := (Option.bind_some _ _).symm.trans H; rw [hy304]; with_reducible exact H2_) | (have H2_ := (Option.bind_some _ _).symm.trans H; with_reducible exact H2_) | with_reducible exact H | (rw [hy304]; exact H) | exact H
                have Ny304 := Aside0.mk hy304
                clear hy304
                simp only [Option.some.injEq, Prod.mk.injEq] at H
                obtain ⟨rfl, rfl, rfl⟩ := H
                go_wp2_with (first | ((with_reducible refine gate_dst (N := 60) rfl ?_); refine Kd.R_lit (Kd.int .i8) _ 47 ?hg (N := 60) ?hd (xs := ([] : List Int)) (inner := []) (ok := fun _ => True) (okp := fun _ => True) ?hr ?hp (fun _ hk => hk) trivial (Below.refl _ _) (Nat.le_refl _) (by simp) ?_; (case hd => rfl); (case hg => rfl); (case hr => first | (go_simp; done) | (go_simp; rfl)); (case hp => exact (Reps.none _ _)); intro v305 w17 ho18 hb hg_ hnew_; clear hg_ hnew_; (first | rw [← Ny304.out] at ho18 | (simp only [Int.reduceToNat] at ho18; rw [← Ny304.out] at ho18)); have n0_ := Aside0.mk (Kd.R_lower ho18 (below_size (by repeat (first | (with_reducible first | exact HB.out | apply below_alloc | apply pw_below_drewN | apply below_drew1) | exact HB.out)))); have n1_ := Aside0.mk (below_step (by repeat (first | (with_reducible first | exact HB.out | apply below_alloc | apply pw_below_drewN | apply below_drew1) | exact HB.out)) hb); clear HB; have HO306 := n0_; have HB := n1_; clear n0_ n1_; clear hb ho18))
                go_ret3
                exact ⟨_, by first | rfl | (simp [errW_none, errW_some] <;> rfl) | (simp [*, errW_none, errW_some] <;> rfl), by (with_reducible repeat (first | apply Kd.R_alloc | apply Kd.R_drewN | apply Kd.R_drew)); exact HO306.out, by repeat (first | (with_reducible first | exact HB.out | apply below_alloc | apply pw_below_drewN | apply below_drew1) | exact HB.out)⟩

end Go.Proofs.YteecekhfpfnepaaDoor.PAll
end

section
/- Rows as numbers of 8 bits: the program's and the reference's are one. -/
namespace Go.Proofs.YteecekhfpfnepaaDoor.Sg
open Go.RowKit Go.Proofs.YteecekhfpfnepaaDoor.PAll Go.Proofs.YteecekhfpfnepaaDoorW.PrintWords Go.Proofs.YteecekhfpfnepaaDoorW.PrintLast Go.Proofs.YteecekhfpfnepaaDoorW.PrintMore
set_option linter.unusedVariables false
set_option linter.unusedSimpArgs false

def zeros (l : List Int) : Bool := l.all fun a => (rawV a).2.2.1 == 0
def seekV (l : List Int) : Nat → Int → List Int × Int × Int
  | 0, _ => ([], 0, 31)
  | d + 1, s => match rowV s l with | some r => (r, s, 0) | none => seekV l d (s - 1)
def quantV (l : List Int) : List Int × Int × Int :=
  if finite l then (if zeros l then (List.replicate l.length 0, 0, 0) else seekV l 129 64) else ([], 0, 30)
theorem parts_zero (a : Int) (h0 : 0 ≤ a) (h1 : a ≤ 4294967295) : ((partsV a).2.2.1 == 0) = ((rawV a).2.2.1 == 0) := by
  obtain ⟨s, m, e, k, hr, hc⟩ := word_cases a h0 h1
  rw [partsV_of hr, hr]
  by_cases c : m = 0
  · subst c
    have hz : ((0 : Nat) : Int) = 0 := rfl
    rw [if_pos hz]; rfl
  · have hk : m < 16777216 := by
      obtain ⟨h, _⟩ | ⟨s, h, _⟩ | ⟨s, m2, e, h, _, hF⟩ := raw_cases a h0 (by omega)
      · rw [hr] at h
        have : (m : Int) = 0 := congrArg (fun x => x.2.2.1) h
        omega
      · rw [hr] at h
        have : (m : Int) = 0 := congrArg (fun x => x.2.2.1) h
        omega
      · rw [hr] at h
        have : (m : Int) = m2 := congrArg (fun x => x.2.2.1) h
        have := hF.form
        omega
    obtain ⟨d1, d2⟩ := tz_div m c hk
    rw [if_neg (by omega), Int.toNat_natCast]
    have e1 : (((m / 2 ^ tz m : Nat) : Int) == 0) = false := by
      rw [beq_eq_false_iff_ne]; omega
    have e2 : ((m : Int) == 0) = false := by rw [beq_eq_false_iff_ne]; omega
    exact e1.trans e2.symm
theorem seek_prog (l : List Int) (hl : l.length < 4398046511104) (hw : ∀ a ∈ l, 0 ≤ a ∧ a ≤ 4294967295 ∧ (rawV a).1 = 0) :
    ∀ (d k : Nat) (s : Int), s = (d : Int) - 65 → d ≤ 129 → d + l.length + 3 ≤ k → single_Quantise.l1 k (l.map fun a => S (partsV a)) s = some (seekV l d s) := by
  intro d
  induction d with
  | zero =>
    intro k s hs hd hk
    obtain ⟨k, rfl⟩ : ∃ j, k = j + 1 := ⟨k - 1, by omega⟩
    rw [single_Quantise.l1, if_neg (by omega)]; rfl
  | succ d ih =>
    intro k s hs hd hk
    obtain ⟨k, rfl⟩ : ∃ j, k = j + 1 := ⟨k - 1, by omega⟩
    rw [single_Quantise.l1, if_pos (by omega), wholes_some s (by omega) (by omega) l hl hw k (by omega), Option.bind_some, seekV]
    cases rowV s l with
    | some r => rfl
    | none =>
      rw [if_neg (by decide), wrap_in (by omega) (by omega)]
      exact ih k (s - 1) (by omega) (by omega) (by omega)
theorem seek_ref (l : List Int) (hl : l.length < 4398046511104) (hw : ∀ a ∈ l, 0 ≤ a ∧ a ≤ 4294967295 ∧ (rawV a).1 = 0) :
    ∀ (d k : Nat) (s : Int), s = (d : Int) - 65 → d ≤ 129 → d + l.length + 93 ≤ k → heraldref03_Quantise.l1 k l s = some (seekV l d s) := by
  intro d
  induction d with
  | zero =>
    intro k s hs hd hk
    obtain ⟨k, rfl⟩ : ∃ j, k = j + 1 := ⟨k - 1, by omega⟩
    rw [heraldref03_Quantise.l1, if_neg (by omega)]; rfl
  | succ d ih =>
    intro k s hs hd hk
    obtain ⟨k, rfl⟩ : ∃ j, k = j + 1 := ⟨k - 1, by omega⟩
    rw [heraldref03_Quantise.l1, if_pos (by omega), refat_row s (by omega) (by omega) l hl hw k (by omega), Option.bind_some, seekV]
    cases rowV s l with
    | some r => rfl
    | none =>
      rw [if_neg (by decide), wrap_in (by omega) (by omega)]
      exact ih k (s - 1) (by omega) (by omega) (by omega)
theorem finite_all {l : List Int} (hw : ∀ a ∈ l, 0 ≤ a ∧ a ≤ 4294967295) (h : finite l = true) : ∀ a ∈ l, 0 ≤ a ∧ a ≤ 4294967295 ∧ (rawV a).1 = 0 :=
  fun a ha => ⟨(hw a ha).1, (hw a ha).2, by simpa using List.all_eq_true.1 h a ha⟩
theorem finite_next {l : List Int} {i : Nat} (hi : i < l.length) (h3 : finite (l.take i) = true) (c : (rawV l[i]).1 = 0) : finite (l.take (i + 1)) = true := by
  rw [List.take_add_one, List.getElem?_eq_getElem hi]
  unfold finite at h3 ⊢
  rw [List.all_append, h3]; simp [c]
theorem finite_not {l : List Int} {i : Nat} (hi : i < l.length) (c : ¬ (rawV l[i]).1 = 0) : finite l = false := by
  apply Bool.eq_false_iff.2
  intro h
  exact c (by simpa using List.all_eq_true.1 h l[i] (List.getElem_mem hi))
theorem zeros_next {l : List Int} {i : Nat} (hi : i < l.length) : zeros (l.take (i + 1)) = (zeros (l.take i) && ((rawV l[i]).2.2.1 == 0)) := by
  rw [List.take_add_one, List.getElem?_eq_getElem hi]
  unfold zeros
  rw [List.all_append]; simp
theorem quant_loop (l : List Int) (hl : l.length < 4398046511104) (hw : ∀ a ∈ l, 0 ≤ a ∧ a ≤ 4294967295) :
    ∀ (d i k : Nat), l.length - i = d → i ≤ l.length → finite (l.take i) = true → d + l.length + 140 ≤ k →
      single_Quantise.l0 k l ((l.take i).map fun a => S (partsV a)) (zeros (l.take i)) l (l.length : Int) (i : Int) = some (quantV l) := by
  intro d
  induction d with
  | zero =>
    intro i k h1 h2 h3 hk
    obtain ⟨k, rfl⟩ : ∃ j, k = j + 1 := ⟨k - 1, by omega⟩
    rw [List.take_of_length_le (by omega)] at h3 ⊢
    have hw2 := finite_all hw h3
    unfold quantV
    rw [single_Quantise.l0, if_neg (by omega), if_pos h3]
    cases hz : zeros l with
    | true =>
      rw [if_pos rfl, if_pos rfl, if_pos (by omega), if_pos (by omega), Int.toNat_natCast]
    | false =>
      rw [if_neg (by decide), if_neg (by decide)]
      exact seek_prog l hl hw2 129 k 64 (by omega) (by omega) (by omega)
  | succ d ih =>
    intro i k h1 h2 h3 hk
    obtain ⟨k, rfl⟩ : ∃ j, k = j + 1 := ⟨k - 1, by omega⟩
    have hi : i < l.length := by omega
    obtain ⟨g0, g1⟩ := hw l[i] (List.getElem_mem hi)
    rw [single_Quantise.l0, if_pos (by omega), if_pos (by omega), if_pos (by omega), rd_at l i hi, parts_some _ g0 (by omega), Option.bind_some]
    by_cases c : (rawV l[i]).1 = 0
    · have c2 : (partsV l[i]).1 = 0 := (parts_kind _).trans c
      have e : (l.take (i + 1)).map (fun a => S (partsV a)) = (l.take i).map (fun a => S (partsV a)) ++ [(⟨(partsV l[i]).1, (partsV l[i]).2.1, (partsV l[i]).2.2.1, (partsV l[i]).2.2.2⟩ : S24)] := by
        rw [List.take_add_one, List.map_append, List.getElem?_eq_getElem hi]; rfl
      have hlen : ((l.take i).map fun a => S (partsV a)).length < 4398046511104 := by simp only [List.length_map, List.length_take]; omega
      have hn := ih (i + 1) k (by omega) (by omega) (finite_next hi h3 c) (by omega)
      rw [zeros_next hi, e] at hn
      rw [if_pos c2, wrap_in (by omega) (by omega), show (i : Int) + 1 = ((i + 1 : Nat) : Int) from by omega, if_pos hlen, if_pos hlen, parts_zero _ g0 g1]
      cases hz : zeros (l.take i) with
      | true => rw [hz, Bool.true_and] at hn; rw [if_pos rfl]; exact hn
      | false => rw [hz, Bool.false_and] at hn; rw [if_neg (by decide)]; exact hn
    · have c2 : ¬ (partsV l[i]).1 = 0 := fun h => c ((parts_kind _).symm.trans h)
      rw [if_neg c2]
      unfold quantV
      rw [finite_not hi c]; rfl
theorem quant_some (l : List Int) (hl : l.length < 4398046511104) (hw : ∀ a ∈ l, 0 ≤ a ∧ a ≤ 4294967295) (k : Nat) (hk : 2 * l.length + 140 ≤ k) : single_Quantise.f k l = some (quantV l) := by
  unfold single_Quantise.f
  exact quant_loop l hl hw l.length 0 k (by omega) (by omega) rfl (by omega)
theorem row_zeros : ∀ (l : List Int), zeros l = true → rowV 0 l = some (List.replicate l.length 0)
  | [], _ => rfl
  | a :: l, h => by
    unfold zeros at h
    rw [List.all_cons, Bool.and_eq_true] at h
    have h0 : (rawV a).2.2.1 = 0 := by simpa using h.1
    have hv : wv a 0 = some 0 := by
      unfold wv
      rw [h0, show (0 : Int).toNat = 0 from rfl, wholeN_zero, if_neg (by decide)]
      cases (rawV a).2.1 <;> rfl
    unfold rowV
    rw [hv, row_zeros l h.2]
    rfl
theorem refquant_loop (l : List Int) (hl : l.length < 4398046511104) (hw : ∀ a ∈ l, 0 ≤ a ∧ a ≤ 4294967295) :
    ∀ (d i k : Nat), l.length - i = d → i ≤ l.length → finite (l.take i) = true → d + l.length + 240 ≤ k →
      heraldref03_Quantise.l0 k l (zeros (l.take i)) (i : Int) = some (quantV l) := by
  intro d
  induction d with
  | zero =>
    intro i k h1 h2 h3 hk
    obtain ⟨k, rfl⟩ : ∃ j, k = j + 1 := ⟨k - 1, by omega⟩
    rw [List.take_of_length_le (by omega)] at h3 ⊢
    have hw2 := finite_all hw h3
    unfold quantV
    rw [heraldref03_Quantise.l0, if_neg (by omega), if_pos h3]
    cases hz : zeros l with
    | true =>
      rw [if_pos rfl, if_pos rfl, refat_row 0 (by decide) (by decide) l hl hw2 k (by omega), row_zeros l hz]
      rfl
    | false =>
      rw [if_neg (by decide), if_neg (by decide)]
      exact seek_ref l hl hw2 129 k 64 (by omega) (by omega) (by omega)
  | succ d ih =>
    intro i k h1 h2 h3 hk
    obtain ⟨k, rfl⟩ : ∃ j, k = j + 1 := ⟨k - 1, by omega⟩
    have hi : i < l.length := by omega
    obtain ⟨g0, g1⟩ := hw l[i] (List.getElem_mem hi)
    rw [heraldref03_Quantise.l0, if_pos (by omega), if_pos (by omega), rd_at l i hi, raw_some _ g0 (by omega), Option.bind_some]
    by_cases c : (rawV l[i]).1 = 0
    · have hn := ih (i + 1) k (by omega) (by omega) (finite_next hi h3 c) (by omega)
      rw [zeros_next hi] at hn
      rw [if_pos c, wrap_in (by omega) (by omega), show (i : Int) + 1 = ((i + 1 : Nat) : Int) from by omega]
      cases hz : zeros (l.take i) with
      | true => rw [hz, Bool.true_and] at hn; rw [if_pos rfl]; exact hn
      | false => rw [hz, Bool.false_and] at hn; rw [if_neg (by decide)]; exact hn
    · rw [if_neg c]
      unfold quantV
      rw [finite_not hi c]; rfl
theorem refquant_some (l : List Int) (hl : l.length < 4398046511104) (hw : ∀ a ∈ l, 0 ≤ a ∧ a ≤ 4294967295) (k : Nat) (hk : 2 * l.length + 240 ≤ k) : heraldref03_Quantise.f k l = some (quantV l) := by
  unfold heraldref03_Quantise.f
  exact refquant_loop l hl hw l.length 0 k (by omega) (by omega) rfl (by omega)
theorem seekV_length (l : List Int) : ∀ (d : Nat) (s : Int), (seekV l d s).1.length ≤ l.length
  | 0, s => by simp [seekV]
  | d + 1, s => by
    unfold seekV
    cases h : rowV s l with
    | none => exact seekV_length l d (s - 1)
    | some r => have := rowV_length s l r h; simp [this]
theorem quantV_length (l : List Int) : (quantV l).1.length ≤ l.length := by
  unfold quantV
  split
  · split
    · simp
    · exact seekV_length l _ _
  · simp
end Go.Proofs.YteecekhfpfnepaaDoor.Sg
end

section
/- What was made of numbers of 8 bits is these again. -/
namespace Go.Proofs.YteecekhfpfnepaaDoor.Sg
open Go.RowKit Go.Proofs.YteecekhfpfnepaaDoor.PAll Go.Proofs.YteecekhfpfnepaaDoorW.PrintWords Go.Proofs.YteecekhfpfnepaaDoorW.PrintLast Go.Proofs.YteecekhfpfnepaaDoorW.PrintMore
set_option linter.unusedVariables false
set_option linter.unusedSimpArgs false

/-- A number of 8 bits at a scale, as a word. -/
def made (scale q : Int) : Int := if q = 0 then 0 else NR (decide (q < 0)) q.natAbs (-scale)
theorem made_bounds (scale q : Int) : 0 ≤ made scale q ∧ made scale q ≤ 4294967295 := by
  unfold made
  split
  · omega
  · unfold NR
    have h1 := rung_le q.natAbs (-scale)
    rcases sgn_cases (decide (q < 0)) with ⟨_, h, _⟩ | ⟨_, h, _⟩ <;> omega
theorem raw_null : rawV 0 = (0, false, 0, -149) := by decide
theorem raw_made (scale q : Int) (h0 : q ≠ 0) (h1 : q.natAbs < 128) (hs0 : -64 ≤ scale) (hs1 : scale ≤ 64) :
    ∃ t : Nat, rawV (made scale q) = (0, decide (q < 0), ((q.natAbs * 2 ^ t : Nat) : Int), -scale - t) ∧ q.natAbs * 2 ^ t ≠ 0 := by
  obtain ⟨m, hm⟩ : ∃ m, q.natAbs = m := ⟨_, rfl⟩
  have hm0 : m ≠ 0 := by omega
  obtain ⟨b1, b2⟩ := log_bounds m hm0
  have hlog : m.log2 < 7 := by
    rcases Nat.lt_or_ge m.log2 7 with h | h
    · exact h
    · have h2 : 2 ^ 7 ≤ 2 ^ m.log2 := Nat.pow_le_pow_right (by omega) h
      omega
  unfold made
  rw [if_neg h0, hm]
  refine ⟨23 - m.log2, ?_, ?_⟩
  · have e1 : 2 ^ m.log2 * 2 ^ (23 - m.log2) = 8388608 := by rw [← Nat.pow_add, show m.log2 + (23 - m.log2) = 23 by omega]
    have e2 : 2 ^ (m.log2 + 1) * 2 ^ (23 - m.log2) = 16777216 := by rw [← Nat.pow_add, show m.log2 + 1 + (23 - m.log2) = 24 by omega]
    have g1 : 2 ^ m.log2 * 2 ^ (23 - m.log2) ≤ m * 2 ^ (23 - m.log2) := Nat.mul_le_mul_right _ b1
    have g2 : m * 2 ^ (23 - m.log2) < 2 ^ (m.log2 + 1) * 2 ^ (23 - m.log2) := Nat.mul_lt_mul_of_pos_right b2 (pow_pos' _)
    rw [e1] at g1
    rw [e2] at g2
    unfold NR
    rw [← rung_scale m (23 - m.log2) (-scale)]
    exact raw_of _ _ _ g1 g2 (by omega) (by omega)
  · exact Nat.mul_ne_zero hm0 (Nat.ne_of_gt (pow_pos' _))
theorem wv_made (scale q s : Int) (h1 : q.natAbs < 128) (hs0 : -64 ≤ scale) (hs1 : scale ≤ 64) :
    wv (made scale q) s = if 127 < wholeN q.natAbs (s - scale) then none else some (signed (decide (q < 0)) (wholeN q.natAbs (s - scale))) := by
  by_cases h0 : q = 0
  · subst h0
    unfold wv made
    rw [if_pos rfl, raw_null]
    show (if 127 < wholeN 0 _ then none else some (signed false (wholeN 0 _))) = _
    rw [wholeN_zero]
    show _ = if 127 < wholeN 0 _ then none else some (signed false (wholeN 0 _))
    rw [wholeN_zero]
  · obtain ⟨t, ht, _⟩ := raw_made scale q h0 h1 hs0 hs1
    unfold wv
    rw [ht]
    simp only [Int.toNat_natCast]
    have hw : wholeN (q.natAbs * 2 ^ t) (-scale - t + s) = wholeN q.natAbs (s - scale) := by
      rw [← wholeN_scale q.natAbs t (s - scale)]
      congr 1; omega
    rw [hw]
theorem wv_same (scale q : Int) (h1 : q.natAbs < 128) (hs0 : -64 ≤ scale) (hs1 : scale ≤ 64) : wv (made scale q) scale = some q := by
  rw [wv_made scale q scale h1 hs0 hs1, show scale - scale = ((0 : Nat) : Int) from by omega, wholeN_up, Nat.pow_zero, Nat.mul_one, if_neg (by omega)]
  unfold signed
  by_cases c : q < 0
  · rw [decide_eq_true c, if_pos rfl]; congr 1; omega
  · rw [decide_eq_false c, if_neg (by decide)]; congr 1; omega
theorem wv_great (scale q s : Int) (h1 : q.natAbs < 128) (h2 : 63 < q.natAbs) (hs0 : -64 ≤ scale) (hs1 : scale ≤ 64) (hs : scale < s) : wv (made scale q) s = none := by
  obtain ⟨t, ht⟩ : ∃ t : Nat, s - scale = ((t + 1 : Nat) : Int) := ⟨(s - scale - 1).toNat, by omega⟩
  rw [wv_made scale q s h1 hs0 hs1, ht, wholeN_up]
  have : 1 ≤ 2 ^ t := pow_pos' t
  have h3 : 64 * 2 ≤ q.natAbs * 2 ^ (t + 1) := Nat.mul_le_mul (by omega) (by rw [Nat.pow_succ]; omega)
  rw [if_pos (by omega)]
theorem row_same (scale : Int) (hs0 : -64 ≤ scale) (hs1 : scale ≤ 64) : ∀ l : List Int, (∀ q ∈ l, q.natAbs < 128) → rowV scale (l.map (made scale)) = some l
  | [], _ => rfl
  | q :: l, h => by
    rw [List.map_cons, rowV, wv_same scale q (h q (List.mem_cons_self ..)) hs0 hs1, row_same scale hs0 hs1 l fun x hx => h x (List.mem_cons_of_mem _ hx)]
    rfl
theorem row_none (s : Int) : ∀ (l : List Int) (a : Int), a ∈ l → wv a s = none → rowV s l = none
  | b :: l, a, h, hn => by
    rw [rowV]
    rcases List.mem_cons.1 h with rfl | h
    · rw [hn]; rfl
    · rw [row_none s l a h hn]
      cases wv b s <;> rfl
theorem seek_made (scale : Int) (hs0 : -64 ≤ scale) (hs1 : scale ≤ 64) (l : List Int) (h : ∀ q ∈ l, q.natAbs < 128) (g : Int) (hg : g ∈ l) (hg2 : 63 < g.natAbs) :
    ∀ (d : Nat) (s : Int), s = (d : Int) - 65 → scale ≤ s → seekV (l.map (made scale)) d s = (l, scale, 0) := by
  intro d
  induction d with
  | zero => intro s hs hle; omega
  | succ d ih =>
    intro s hs hle
    rw [seekV]
    by_cases c : s = scale
    · subst c
      rw [row_same s hs0 hs1 l h]
    · rw [row_none s _ _ (List.mem_map_of_mem hg) (wv_great scale g s (h g hg) hg2 hs0 hs1 (by omega))]
      exact ih (s - 1) (by omega) (by omega)
theorem quant_made (scale : Int) (hs0 : -64 ≤ scale) (hs1 : scale ≤ 64) (l : List Int) (h : ∀ q ∈ l, q.natAbs < 128) (g : Int) (hg : g ∈ l) (hg2 : 63 < g.natAbs) :
    quantV (l.map (made scale)) = (l, scale, 0) := by
  unfold quantV
  have hf : finite (l.map (made scale)) = true := by
    unfold finite
    rw [List.all_map]
    apply List.all_eq_true.2
    intro q hq
    by_cases h0 : q = 0
    · subst h0
      simp only [Function.comp, made, if_pos, raw_null]; rfl
    · obtain ⟨t, ht, _⟩ := raw_made scale q h0 (h q hq) hs0 hs1
      simp only [Function.comp]
      rw [ht]; rfl
  have hz : zeros (l.map (made scale)) = false := by
    apply Bool.eq_false_iff.2
    intro hall
    have := List.all_eq_true.1 hall (made scale g) (List.mem_map_of_mem hg)
    obtain ⟨t, ht, hne⟩ := raw_made scale g (by omega) (h g hg) hs0 hs1
    rw [ht] at this
    exact hne (Int.ofNat_eq_zero.1 (eq_of_beq this))
  rw [if_pos hf, hz, if_neg (by decide)]
  exact seek_made scale hs0 hs1 l h g hg hg2 129 64 (by omega) hs1
end Go.Proofs.YteecekhfpfnepaaDoor.Sg
end

section
/- The plain law of SingleKeeps. -/
namespace Go.Proofs.YteecekhfpfnepaaDoor.Pure
open Go.RowKit Go.Proofs.YteecekhfpfnepaaDoor.PAll Go.Proofs.YteecekhfpfnepaaDoor.Sg Go.Proofs.YteecekhfpfnepaaDoorW.PrintWords Go.Proofs.YteecekhfpfnepaaDoorW.PrintLast
set_option linter.unusedVariables false

theorem scaled_some (q scale : Int) (h1 : q.natAbs < 129) (hs0 : -64 ≤ scale) (hs1 : scale ≤ 64) (k : Nat) (hk : 2 ≤ k) : single_Scaled.f k q scale = some (made scale q, 0) := by
  unfold single_Scaled.f made
  rw [if_neg (by omega), if_neg (by omega), wrap_in (by omega) (by omega), wrap_in (a := -scale) (by omega) (by omega), near_some q (-scale) (by omega) (by omega) k hk]
  rfl
theorem keeps_loop (l : List Int) (scale : Int) (hl : l.length ≤ 1048576) (hw : ∀ x ∈ l, -128 ≤ x ∧ x ≤ 127) (hs0 : -64 ≤ scale) (hs1 : scale ≤ 64) :
    ∀ (d i k : Nat), l.length - i = d → i ≤ l.length → (∀ q ∈ l.take i, q.natAbs < 128) → d + 2 * l.length + 300 ≤ k →
      heraldlaw03_SingleKeeps.l0 k l scale ((l.take i).any fun q => 63 < q.natAbs) ((l.take i).map (made scale)) (i : Int) = some true := by
  intro d
  induction d with
  | zero =>
    intro i k h1 h2 h3 hk
    obtain ⟨k, rfl⟩ : ∃ j, k = j + 1 := ⟨k - 1, by omega⟩
    rw [List.take_of_length_le (by omega)] at h3 ⊢
    rw [heraldlaw03_SingleKeeps.l0, if_neg (by omega)]
    cases hg : l.any fun q => decide (63 < q.natAbs) with
    | false => rw [if_neg (by decide), awake_some k (by omega)]; rfl
    | true =>
      obtain ⟨g, hg1, hg2⟩ := List.any_eq_true.1 hg
      have hb : ∀ a ∈ l.map (made scale), 0 ≤ a ∧ a ≤ 4294967295 := by
        intro a ha
        obtain ⟨q, _, rfl⟩ := List.mem_map.1 ha
        exact made_bounds scale q
      rw [if_pos rfl, quant_some _ (by simp only [List.length_map]; omega) hb k (by simp only [List.length_map]; omega), quant_made scale hs0 hs1 l h3 g hg1 (of_decide_eq_true hg2), awake_some k (by omega)]
      simp only [Option.bind_some, if_pos]
      rw [rows_same l (by omega) k (by omega)]; rfl
  | succ d ih =>
    intro i k h1 h2 h3 hk
    obtain ⟨k, rfl⟩ : ∃ j, k = j + 1 := ⟨k - 1, by omega⟩
    have hi : i < l.length := by omega
    obtain ⟨g0, g1⟩ := hw l[i] (List.getElem_mem hi)
    have hlen : ((l.take i).map (made scale)).length < 35184372088832 := by simp only [List.length_map, List.length_take]; omega
    have et : l.take (i + 1) = l.take i ++ [l[i]] := by rw [List.take_add_one, List.getElem?_eq_getElem hi]; rfl
    rw [heraldlaw03_SingleKeeps.l0, if_pos (by omega), if_pos (by omega), rd_at l i hi]
    by_cases c : l[i] = -128
    · rw [if_pos c, awake_some k (by omega)]; rfl
    rw [if_neg c, scaled_some _ scale (by omega) hs0 hs1 k (by omega)]
    simp only [Option.bind_some, if_pos]
    rw [wrap_in (by omega) (by omega), show (i : Int) + 1 = ((i + 1 : Nat) : Int) from by omega]
    have hn := ih (i + 1) k (by omega) (by omega) (by
      intro q hq
      rw [et] at hq
      rcases List.mem_append.1 hq with hq | hq
      · exact h3 q hq
      · have := List.mem_singleton.1 hq
        omega) (by omega)
    rw [et, List.any_append, List.map_append] at hn
    have e1 : ([l[i]].any fun q => decide (63 < q.natAbs)) = decide (63 < l[i].natAbs) := by simp
    rw [e1, show [l[i]].map (made scale) = [made scale l[i]] from rfl] at hn
    rw [if_pos hlen]
    cases hg : (l.take i).any fun q => decide (63 < q.natAbs) with
    | true =>
      rw [hg, Bool.true_or] at hn
      rw [if_pos rfl]; exact hn
    | false =>
      rw [hg, Bool.false_or] at hn
      rw [if_neg (by decide)]
      by_cases c1 : l[i] > 63
      · rw [decide_eq_true (show 63 < l[i].natAbs by omega)] at hn
        rw [if_pos c1]; exact hn
      · rw [if_neg c1]
        by_cases c2 : l[i] < -63
        · rw [decide_eq_true (show 63 < l[i].natAbs by omega)] at hn
          rw [decide_eq_true c2, if_pos hlen]; exact hn
        · rw [decide_eq_false (show ¬ 63 < l[i].natAbs by omega)] at hn
          rw [decide_eq_false c2, if_pos hlen]; exact hn
theorem SingleKeeps (l0 : List Int) (a1 : Int) (hl : l0.length ≤ 1048576) (hw : ∀ x ∈ l0, (Lit.int .i8 x).wf = true) (h1 : (Lit.int .i64 a1).wf = true) : ∃ k, heraldlaw03_SingleKeeps.f k l0 a1 = some true := by
  obtain ⟨k, hk⟩ : ∃ k, k = 3 * l0.length + 300 := ⟨_, rfl⟩
  refine ⟨k + 1, ?_⟩
  unfold heraldlaw03_SingleKeeps.f
  by_cases c1 : a1 < -64
  · rw [if_pos c1, heraldlaw03_SingleKeeps.j0, if_pos rfl, awake_some k (by omega)]; rfl
  · rw [if_neg c1, heraldlaw03_SingleKeeps.j0]
    by_cases c2 : a1 > 64
    · rw [if_pos (decide_eq_true c2), awake_some k (by omega)]; rfl
    · rw [if_neg (by simpa using c2)]
      exact keeps_loop l0 a1 hl (fun x hx => wf_i8 (hw x hx)) (by omega) (by omega) l0.length 0 k (by omega) (by omega) (fun q hq => by simp at hq) (by omega)
end Go.Proofs.YteecekhfpfnepaaDoor.Pure
end
