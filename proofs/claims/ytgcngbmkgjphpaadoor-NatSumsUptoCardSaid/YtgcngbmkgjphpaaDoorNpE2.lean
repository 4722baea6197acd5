/- Texts of this session and printed texts, merged, what is not needed left out: PAllx6, PAllx10, PAllx12, PAllx22, NmA, NmB, PAllx17, NmC, HTrim, PAllx2. -/
import Derived.Test.YtgcngbmkgjphpaaDoorNpE0
import Derived.Test.YtgcngbmkgjphpaaDoorNpE1
section
namespace Go.Proofs.YtgcngbmkgjphpaaDoor.PAll
open Go.RowKit Go.Proofs.YtgcngbmkgjphpaaDoorW.PrintWords Go.Proofs.YtgcngbmkgjphpaaDoorW.PrintLast Go.Proofs.YtgcngbmkgjphpaaDoorW.PrintMore
attribute [local go_sem] max2_int min2_int max_two min_two max_three min_three max_four min_four   -- for this text's walks alone
set_option linter.unusedVariables false
set_option linter.unusedSimpArgs false
def heraldref04_cut.l0 : Nat → List Int → Option (List Int)
  | 0, _ => none
  | k + 1, x0 => if (x0.length : Int) > 0 then (if 0 ≤ (wrap64 ((x0.length : Int) - 1)) then (if (wrap64 ((x0.length : Int) - 1)) < (x0.length : Int) then (if (rd x0 (wrap64 ((x0.length : Int) - 1))) = 0 then (if (wrap64 ((x0.length : Int) - 1)) ≤ (x0.length : Int) then (heraldref04_cut.l0 k (x0.take ((wrap64 ((x0.length : Int) - 1)) : Int).toNat)) else (none)) else (some x0)) else (none)) else (none)) else (some x0)
def heraldref04_cut.f (k : Nat) (l0 : List Int) : Option (List Int) := heraldref04_cut.l0 k l0
set_option maxHeartbeats 8000000 in
set_option maxRecDepth 100000 in
theorem heraldref04_cut.calls (k : Nat) (P0_ : Nat → Prop) (A0 : Option Addr) (c0 : Nat) (l0 : List Int) (r : List Int) (w : World) (hs0 : Kd.V (Kd.int .i64) 3 w w.heap.size (fun k_ => P0_ k_) (.slice A0 l0.length c0) l0) (h : heraldref04_cut.f k l0 = some r) :
    Calls Tryd.prog 50 #[.slice A0 l0.length c0] w fun e w' => ∃ v0_ : Value, e = .returned (v0_) ∧ Kd.V (Kd.int .i64) 3 w' w.heap.size (fun k_ => (P0_ k_ ∨ w.heap.size ≤ k_)) v0_ r ∧ Below w.heap.size w w' := by
  have HO0 := Aside0.mk (show Kd.V (Kd.int .i64) 3 w w.heap.size (fun k_ => (P0_ k_ ∨ w.heap.size ≤ k_)) (.slice A0 l0.length c0) l0 from Kd.V_mono hs0 (fun k_ hk => .inl hk))
  have HB := Aside0.mk (Below.refl w.heap.size w)
  have H : (heraldref04_cut.l0 k l0) = some r := h
  clear h
  have H' := Aside0.mk H
  clear H
  go_enter Tryd.func50, Tryd.ntmps50
  go_wp2
  go_loopg [0] k (fun kq v0 w' => ∃ (x0_1 : List Int), Aside0 (heraldref04_cut.l0 kq x0_1 = some r) ∧ Aside0 (kq ≤ k) ∧ Aside0 (Kd.V (Kd.int .i64) 3 w' w.heap.size (fun k_ => (P0_ k_ ∨ w.heap.size ≤ k_)) v0 x0_1) ∧ Aside0 (Below w.heap.size w w'))
  case atStart => exact ⟨(l0), H', ⟨Nat.le_refl _⟩, ⟨by (with_reducible repeat (first | apply Kd.V_alloc | apply Kd.V_drewN | apply Kd.V_drew)); exact HO0.out⟩, ⟨by repeat (first | (with_reducible first | exact HB.out | apply below_alloc | apply pw_below_drewN | apply below_drew1) | exact HB.out)⟩⟩
  case round =>
    clear H'
    obtain ⟨x0_1, HA, HK1, HO_0, HB⟩ := hrel
    cases gk with
    | zero => exact absurd HA.out (by simp [heraldref04_cut.l0])
    | succ k1 =>
      have H := HA.out
      clear HA
      simp only [heraldref04_cut.l0] at H
      by_cases c2 : (x0_1.length : Int) > 0
      · rw [if_pos c2] at H
        have c2b0 : decide (0 < (x0_1.length : Int)) = true := decide_eq_true c2
        have c2b1 : decide (0 < x0_1.length) = true := decide_eq_true (by omega)
        clear c2
        obtain ⟨ji3, hji3⟩ : ∃ j_ : Int, (wrap64 ((x0_1.length : Int) - 1)) = j_ := ⟨_, rfl⟩
        replace H : (if 0 ≤ (ji3) then (if (ji3) < (x0_1.length : Int) then (if (rd x0_1 (ji3)) = 0 then (if (ji3) ≤ (x0_1.length : Int) then (heraldref04_cut.l0 k1 (x0_1.take ((ji3) : Int).toNat)) else (none)) else (some x0_1)) else (none)) else (none)) = some r := by first | (rw [hji3] at H; exact H) | (simp only [hji3] at H ⊢; exact H)
        have hji3w : (IntKind.i64.wrap ((x0_1.length : Int) - 1)) = ji3 := (i64_w _).trans hji3
        by_cases c4 : 0 ≤ (ji3)
        · rw [if_pos c4] at H
          have c4b0 : decide (0 ≤ (ji3)) = true := decide_eq_true c4
          clear c4
          by_cases c5 : (ji3) < (x0_1.length : Int)
          · rw [if_pos c5] at H
            have c5b0 : decide ((ji3) < (x0_1.length : Int)) = true := decide_eq_true c5
            clear c5
            by_cases c6 : (rd x0_1 (ji3)) = 0
            · rw [if_pos c6] at H
              have c6b0 : ((rd x0_1 (ji3)) == 0) = true := beq_iff_eq.mpr c6
              have c6b1 : ((rd x0_1 (ji3)) != 0) = false := bne_eq_false_iff_eq.mpr c6
              clear c6
              have c7b0 := eq_true (of_decide_eq_true (by first | (with_reducible assumption) | assumption) : 0 ≤ (ji3))
              by_cases c8 : (ji3) ≤ (x0_1.length : Int)
              · rw [if_pos c8] at H
                have c8b0 := eq_true c8
                have c8b1 : decide ((ji3) ≤ (x0_1.length : Int)) = true := decide_eq_true c8
                clear c8
                obtain ⟨y197, hy197⟩ : ∃ y_ : List Int, y_ = (x0_1.take ((ji3) : Int).toNat) := ⟨_, rfl⟩
                replace H : (heraldref04_cut.l0 k1 y197) = some r := by first | (rw [hy197]; with_reducible exact H) | (have H2_ := (Option.bind_some _ _).symm.trans H; rw [hy197]; with_reducible exact H2_) | (have H2_ := (Option.bind_some _ _).symm.trans H; with_reducible exact H2_) | with_reducible exact H | (rw [hy197]; exact H) | exact H
                have Ny197 := Aside0.mk hy197
                clear hy197
                have H' := Aside0.mk H
                clear H
                obtain ⟨Ao9, co9, eo9⟩ := Kd.V_slice HO_0.out
                subst eo9
                have p196 : 0 ≤ ((ji3) : Int) := of_decide_eq_true (by first | (with_reducible assumption) | assumption)
                have q196 : (ji3) < (x0_1.length : Int) := of_decide_eq_true (by first | (with_reducible assumption) | assumption)
                obtain ⟨ad196, e196, hx196_0⟩ := Kd.at_int (Kd.V_reads' HO_0.out).2.2 (ji3) p196 q196
                cases e196
                replace p196 := eq_true p196
                replace q196 := eq_true q196
                have q10 : ((ji3) : Int) ≤ ((x0_1.length : Int) : Int) := of_decide_eq_true (by first | (with_reducible assumption) | assumption)
                obtain ⟨i010, hi010, _, hsz10, _⟩ := info_parts info3
                have hroom10 : x0_1.length ≤ co9 := (Kd.V_reads' HO_0.out).2.1
                have hC10 : Kd.F (Kd.int .i64) _ _ (some ad196) x0_1.length x0_1 := (Kd.V_at (base := w.heap.size) HO_0.out).2.2
                have hcut10 := cut_to (P := Tryd.prog) 32 3 .i64 Tryd.underlying32 hi010 (some ad196) x0_1.length co9 (ji3) (of_decide_eq_true (by first | (with_reducible assumption) | assumption)) q10 hroom10
                have hr10 := Kd.F_take (m := ((ji3) : Int).toNat) hC10 (by omega)
                have hy10 : y197.length = ((ji3) : Int).toNat := (by rw [Ny197.out, List.length_take]; omega)
                rw [← Ny197.out] at hr10
                rw [← hy10] at hcut10
                have HO201 := Aside0.mk (show Kd.V (Kd.int .i64) 3 _ w.heap.size _ (.slice (some ad196) y197.length co9) y197 from Kd.V_mk (by omega) hr10)
                have HC201 := Aside0.mk (show y197.length ≤ co9 from by omega)
                clear hr10 hC10 hroom10 hi010 hsz10
                have KY10 := Aside0.mk hy10
                clear hy10
                replace q10 := eq_true q10
                go_wp2
                go_roundg k1
                case measure => have := HK1.out; omega
                case rel => exact ⟨(y197), H', ⟨by have := HK1.out; omega⟩, ⟨by (with_reducible repeat (first | apply Kd.V_alloc | apply Kd.V_drewN | apply Kd.V_drew)); exact HO201.out⟩, ⟨by repeat (first | (with_reducible first | exact HB.out | apply below_alloc | apply pw_below_drewN | apply below_drew1) | exact HB.out)⟩⟩
              · rw [if_neg c8] at H
                exact absurd H (by simp)
            · rw [if_neg c6] at H
              have c6b0 : ((rd x0_1 (ji3)) == 0) = false := beq_eq_false_iff_ne.mpr c6
              have c6b1 : ((rd x0_1 (ji3)) != 0) = true := bne_iff_ne.mpr c6
              obtain rfl := Option.some.inj H
              obtain ⟨Ao11, co11, eo11⟩ := Kd.V_slice HO_0.out
              subst eo11
              have p196 : 0 ≤ ((ji3) : Int) := of_decide_eq_true (by first | (with_reducible assumption) | assumption)
              have q196 : (ji3) < (x0_1.length : Int) := of_decide_eq_true (by first | (with_reducible assumption) | assumption)
              obtain ⟨ad196, e196, hx196_0⟩ := Kd.at_int (Kd.V_reads' HO_0.out).2.2 (ji3) p196 q196
              cases e196
              replace p196 := eq_true p196
              replace q196 := eq_true q196
              go_wp2
              go_ret
              exact ⟨_, by first | rfl | (simp [errW_none, errW_some] <;> rfl) | (simp only [← hji3]; first | rfl | (simp [errW_none, errW_some] <;> rfl)) | (simp [*, errW_none, errW_some] <;> rfl), by (with_reducible repeat (first | apply Kd.V_alloc | apply Kd.V_drewN | apply Kd.V_drew)); exact HO_0.out, by repeat (first | (with_reducible first | exact HB.out | apply below_alloc | apply pw_below_drewN | apply below_drew1) | exact HB.out)⟩
          · rw [if_neg c5] at H
            exact absurd H (by simp)
        · rw [if_neg c4] at H
          exact absurd H (by simp)
      · rw [if_neg c2] at H
        have c2b0 : decide (0 < (x0_1.length : Int)) = false := decide_eq_false c2
        have c2b1 : decide (0 < x0_1.length) = false := decide_eq_false (by omega)
        clear c2
        obtain rfl := Option.some.inj H
        obtain ⟨Ao12, co12, eo12⟩ := Kd.V_slice HO_0.out
        subst eo12
        go_wp2
        go_ret
        exact ⟨_, by first | rfl | (simp [errW_none, errW_some] <;> rfl) | (simp [*, errW_none, errW_some] <;> rfl), by (with_reducible repeat (first | apply Kd.V_alloc | apply Kd.V_drewN | apply Kd.V_drew)); exact HO_0.out, by repeat (first | (with_reducible first | exact HB.out | apply below_alloc | apply pw_below_drewN | apply below_drew1) | exact HB.out)⟩
def heraldref04_small.l0 : Nat → List Int → Int → List Int → Int → Int → Option (List Int × Int)
  | 0, _, _, _, _, _ => none
  | k + 1, x0, x1, x6, x7, x8 => if x8 ≥ 0 then (if 0 ≤ x8 then (if x8 < (x0.length : Int) then (if x1 = 0 then (none) else (if x8 < (x6.length : Int) then (heraldref04_small.l0 k x0 x1 (x6.set (x8 : Int).toNat (wrap64 (Int.tdiv (wrap64 ((wrap64 (x7 * 65536)) + (rd x0 x8))) x1))) (Int.tmod (wrap64 ((wrap64 (x7 * 65536)) + (rd x0 x8))) x1) (wrap64 (x8 - 1))) else (none))) else (none)) else (none)) else ((heraldref04_cut.f k x6).bind fun t207 => (some (t207, x7)))
def heraldref04_small.f (k : Nat) (l0 : List Int) (a1 : Int) : Option (List Int × Int) := if 0 ≤ (l0.length : Int) then (if ((l0.length : Int) : Int).toNat ≤ 35184372088832 then (heraldref04_small.l0 k l0 a1 (List.replicate ((l0.length : Int) : Int).toNat 0) 0 (wrap64 ((l0.length : Int) - 1))) else (none)) else (none)
set_option maxHeartbeats 8000000 in
set_option maxRecDepth 100000 in
theorem heraldref04_small.calls (k : Nat) (A0 : Option Addr) (c0 : Nat) (l0 : List Int) (a1 : Int) (r1 : List Int) (r2 : Int) (w : World) (hr0 : Kd.C (Kd.int .i64) w A0 l0.length l0) (hc0 : l0.length ≤ c0) (h : heraldref04_small.f k l0 a1 = some (r1, r2)) :
    Calls Tryd.prog 55 #[.slice A0 l0.length c0, .int .i64 a1] w fun e w' => ∃ v0_ : Value, e = .returned (.tuple #[v0_, .int .i64 r2]) ∧ Kd.V (Kd.int .i64) 3 w' w.heap.size (fun k_ => (w.heap.size ≤ k_)) v0_ r1 ∧ Below w.heap.size w w' := by
  have HR0 := Aside0.mk hr0
  have HC0 := Aside0.mk hc0
  clear hr0 hc0
  have HB := Aside0.mk (Below.refl w.heap.size w)
  have H : (if 0 ≤ (l0.length : Int) then (if ((l0.length : Int) : Int).toNat ≤ 35184372088832 then (heraldref04_small.l0 k l0 a1 (List.replicate ((l0.length : Int) : Int).toNat 0) 0 (wrap64 ((l0.length : Int) - 1))) else (none)) else (none)) = some (r1, r2) := h
  clear h
  by_cases c3 : 0 ≤ (l0.length : Int)
  · rw [if_pos c3] at H
    have c3b0 := eq_true c3
    have c3b1 : decide (0 ≤ (l0.length : Int)) = true := decide_eq_true c3
    clear c3
    by_cases c4 : ((l0.length : Int) : Int).toNat ≤ 35184372088832
    · rw [if_pos c4] at H
      have c4b0 := eq_true c4
      have c4b1 : decide (((l0.length : Int) : Int).toNat ≤ 35184372088832) = true := decide_eq_true c4
      clear c4
      obtain ⟨y202, hy202⟩ : ∃ y_ : List Int, y_ = (List.replicate ((l0.length : Int) : Int).toNat 0) := ⟨_, rfl⟩
      replace H : (heraldref04_small.l0 k l0 a1 y202 0 (wrap64 ((l0.length : Int) - 1))) = some (r1, r2) := by first | (rw [hy202]; with_reducible exact H) | (have H2_ := (Option.bind_some _ _).symm.trans H; rw [hy202]; with_reducible exact H2_) | (have H2_ := (Option.bind_some _ _).symm.trans H; with_reducible exact H2_) | with_reducible exact H | (rw [hy202]; exact H) | exact H
      have Ny202 := Aside0.mk hy202
      clear hy202
      have H' := Aside0.mk H
      clear H
      go_enter Tryd.func55, Tryd.ntmps55
      go_wp2_with (first | ((with_reducible refine gate_dst (N := 12) rfl ?_); refine Kd.R_make (Kd.int .i64) _ 3 rfl (N := 12) rfl 32 _ _ rfl (l0.length : Int) rfl rfl Tryd.underlying32 (.int .i64 0) 8 info3 rfl (by decide) (by omega) 0 (ok := fun _ => True) (okp := fun _ => True) rfl (fun _ hk => hk) trivial (of_decide_eq_true (by first | (with_reducible assumption) | assumption)) (Nat.le_trans (Nat.mul_le_mul_right _ (of_decide_eq_true (by first | (with_reducible assumption) | assumption) : (l0.length : Int).toNat ≤ 35184372088832)) (by omega)) (Below.refl _ _) (Nat.le_refl _) ?_; intro v203 w5 ho6 hb hg_ hnew_; clear hg_ hnew_; (first | rw [← Ny202.out] at ho6 | (simp only [Int.reduceToNat] at ho6; rw [← Ny202.out] at ho6)); have n0_ := Aside0.mk (Kd.R_lower (Kd.R_newM (M := fun k_ => (w.heap.size ≤ k_)) ho6 (below_size (by repeat (first | (with_reducible first | exact HB.out | apply below_alloc | apply pw_below_drewN | apply below_drew1) | exact HB.out))) (fun k_ h_ => h_)) (below_size (by repeat (first | (with_reducible first | exact HB.out | apply below_alloc | apply pw_below_drewN | apply below_drew1) | exact HB.out)))); have n1_ := Aside0.mk (below_step (by repeat (first | (with_reducible first | exact HB.out | apply below_alloc | apply pw_below_drewN | apply below_drew1) | exact HB.out)) hb); clear HB; have HO204 := n0_; have HB := n1_; clear n0_ n1_; clear hb ho6))
      go_loopg [7, 8] k (fun kq v7 v8 w' => ∃ (x6_1 : List Int) (x7_1 : Int) (x8_1 : Int), v7 = .int .i64 x7_1 ∧ v8 = .int .i64 x8_1 ∧ Aside0 (heraldref04_small.l0 kq l0 a1 x6_1 x7_1 x8_1 = some (r1, r2)) ∧ Aside0 (kq ≤ k) ∧ Aside0 (Kd.R (Kd.int .i64) 3 w' w.heap.size (fun k_ => (w.heap.size ≤ k_)) v203 x6_1) ∧ Aside0 (Below w.heap.size w w'))
      case atStart => exact ⟨(y202), (0), (wrap64 ((l0.length : Int) - 1)), (by first | rfl | (simp; done) | (simp [*]; done) | (simp [i64_w]; done) | (simp [*, i64_w]; done)), (by first | rfl | (simp; done) | (simp [*]; done) | (simp [i64_w]; done) | (simp [*, i64_w]; done)), H', ⟨Nat.le_refl _⟩, ⟨by (with_reducible repeat (first | apply Kd.R_alloc | apply Kd.R_drewN | apply Kd.R_drew)); exact Kd.R_mono HO204.out (fun _ hk => hk.1)⟩, ⟨by repeat (first | (with_reducible first | exact HB.out | apply below_alloc | apply pw_below_drewN | apply below_drew1) | exact HB.out)⟩⟩
      case round =>
        clear H'
        try clear p2
        try clear c3
        try clear c3b0
        try clear c3b1
        try clear c4
        try clear c4b0
        try clear c4b1
        try clear c5
        try clear p6
        obtain ⟨x6_1, x7_1, x8_1, rfl, rfl, HA, HK1, HO_6, HB⟩ := hrel
        cases gk with
        | zero => exact absurd HA.out (by simp [heraldref04_small.l0])
        | succ k1 =>
          have H := HA.out
          clear HA
          simp only [heraldref04_small.l0] at H
          by_cases c7 : x8_1 ≥ 0
          · rw [if_pos c7] at H
            have c7b0 : decide (0 ≤ x8_1) = true := decide_eq_true c7
            clear c7
            by_cases c8 : 0 ≤ x8_1
            · rw [if_pos c8] at H
              have c8b0 : decide (0 ≤ x8_1) = true := decide_eq_true c8
              clear c8
              by_cases c9 : x8_1 < (l0.length : Int)
              · rw [if_pos c9] at H
                have c9b0 : decide (x8_1 < (l0.length : Int)) = true := decide_eq_true c9
                clear c9
                by_cases c10 : a1 = 0
                · rw [if_pos c10] at H
                  exact absurd H (by simp)
                · rw [if_neg c10] at H
                  have c10b0 : (a1 == 0) = false := beq_eq_false_iff_ne.mpr c10
                  have c10b1 : (a1 != 0) = true := bne_iff_ne.mpr c10
                  by_cases c11 : x8_1 < (x6_1.length : Int)
                  · rw [if_pos c11] at H
                    have c11b0 : decide (x8_1 < (x6_1.length : Int)) = true := decide_eq_true c11
                    clear c11
                    obtain ⟨y206, hy206⟩ : ∃ y_ : List Int, y_ = (x6_1.set (x8_1 : Int).toNat (wrap64 (Int.tdiv (wrap64 ((wrap64 (x7_1 * 65536)) + (rd l0 x8_1))) a1))) := ⟨_, rfl⟩
                    replace H : (heraldref04_small.l0 k1 l0 a1 y206 (Int.tmod (wrap64 ((wrap64 (x7_1 * 65536)) + (rd l0 x8_1))) a1) (wrap64 (x8_1 - 1))) = some (r1, r2) := by first | (rw [hy206]; with_reducible exact H) | (have H2_ := (Option.bind_some _ _).symm.trans H; rw [hy206]; with_reducible exact H2_) | (have H2_ := (Option.bind_some _ _).symm.trans H; with_reducible exact H2_) | with_reducible exact H | (rw [hy206]; exact H) | exact H
                    have Ny206 := Aside0.mk hy206
                    clear hy206
                    have H' := Aside0.mk H
                    clear H
                    have p205 : 0 ≤ (x8_1 : Int) := of_decide_eq_true (by first | (with_reducible assumption) | assumption)
                    have q205 : x8_1 < (l0.length : Int) := of_decide_eq_true (by first | (with_reducible assumption) | assumption)
                    obtain ⟨ad205, e205, hx205_0⟩ := Kd.at_int HR0.out x8_1 p205 q205
                    cases e205
                    replace hx205_0 := (HB.out.cell (World.block_lt_of_cell? w _ hx205_0)).trans hx205_0
                    replace p205 := eq_true p205
                    replace q205 := eq_true q205
                    have p12 : 0 ≤ (x8_1 : Int) := of_decide_eq_true (by first | (with_reducible assumption) | assumption)
                    have q12 : (x8_1 : Int) < ((x6_1.length : Int) : Int) := of_decide_eq_true (by first | (with_reducible assumption) | assumption)
                    obtain ⟨go12, co12, eo12, gb12, gl12, cl12, HG12⟩ := Kd.R_form HO_6.out (by omega)
                    (first | cases eo12 | (injection eo12 with ea_ en_ ec_; (first | subst ea_ | (injection ea_ with ea_; subst ea_)); subst ec_; clear en_))
                    have GB12 := Aside0.mk gb12
                    have GG12 := Aside0.mk HG12
                    clear gb12 gl12 HG12
                    obtain ⟨hx12_0, hf12_0⟩ := Kd.R_celln 0 HO_6.out (x8_1 : Int) p12 q12
                    replace p12 := eq_true p12
                    replace q12 := eq_true q12
                    have HP13 := Kd.R_putg HO_6.out (x8_1 : Int) (wrap64 (Int.tdiv (wrap64 ((wrap64 (x7_1 * 65536)) + (rd l0 x8_1))) a1))
                    go_wp2_with (first | ((with_reducible refine gate_store (t := 3) (p := 32) rfl ?_); refine store_event (t := 3) (p := 32) (v := ?vo_w14) (w1 := (wr.setCell ⟨go12, (x8_1 : Int).toNat, none⟩ (.int .i64 (wrap64 (Int.tdiv (wrap64 ((wrap64 (x7_1 * 65536)) + (rd l0 x8_1))) a1))))) ?hg ?ho ?hn ?hr ?_; (case ho => rfl); (case hg => rfl); (case hn => rfl); (case hr => first | (go_simp; done) | (go_simp; rfl)); intro w14 hw; have hg : wr.grownBy w14 (some go12) := (by rw [hw]; exact HP13.2); have hp_ : Kd.R (Kd.int .i64) 3 w14 w.heap.size (fun k_ => (w.heap.size ≤ k_)) (.slice (some ⟨go12, 0, none⟩) x6_1.length co12) y206 := (by rw [hw, Ny206.out]; exact HP13.1); clear HP13; have n0_ := Aside0.mk (hp_); have n1_ := Aside0.mk ((by rw [hw]; exact below_set (HB.out) GB12.out : Below w.heap.size w w14)); clear HO_6; clear HB; have HO_6 := n0_; have HB := n1_; clear n0_ n1_; clear hg hw hp_))
                    go_roundg k1
                    case measure => have := HK1.out; omega
                    case rel => exact ⟨(y206), (Int.tmod (wrap64 ((wrap64 (x7_1 * 65536)) + (rd l0 x8_1))) a1), (wrap64 (x8_1 - 1)), (by first | rfl | (simp; done) | (simp [*]; done) | (simp [i64_w]; done) | (simp [*, i64_w]; done)), (by first | rfl | (simp; done) | (simp [*]; done) | (simp [i64_w]; done) | (simp [*, i64_w]; done)), H', ⟨by have := HK1.out; omega⟩, ⟨by (with_reducible repeat (first | apply Kd.R_alloc | apply Kd.R_drewN | apply Kd.R_drew)); exact HO_6.out⟩, ⟨by repeat (first | (with_reducible first | exact HB.out | apply below_alloc | apply pw_below_drewN | apply below_drew1) | exact HB.out)⟩⟩
                  · rw [if_neg c11] at H
                    exact absurd H (by simp)
              · rw [if_neg c9] at H
                exact absurd H (by simp)
            · rw [if_neg c8] at H
              exact absurd H (by simp)
          · rw [if_neg c7] at H
            have c7b0 : decide (0 ≤ x8_1) = false := decide_eq_false c7
            clear c7
            replace H := Option.bind_eq_some_iff.mp H
            obtain ⟨t207, A150, H⟩ := H
            replace H : (some (t207, x7_1)) = some (r1, r2) := H
            have A15 := Aside0.mk A150
            clear A150
            simp only [Option.some.injEq, Prod.mk.injEq] at H
            obtain ⟨rfl, rfl⟩ := H
            obtain ⟨Ao16, co16, eo16⟩ := Kd.R_slice HO_6.out
            subst eo16
            go_wp2_with (first | ((with_reducible refine gate_callee (f := 50) rfl ?_); refine goesL_ (some 37) rfl rfl Tryd.func50 (by kernel_rfl) rfl #[.slice Ao16 x6_1.length co16] rfl (by (try simp only [List.map_toArray, List.map_cons, List.map_nil]); first | done | rfl | (simp only [List.length_drop, List.length_take]; rfl)) ?_; (with_reducible refine (heraldref04_cut.calls k1 (fun k_ => some k_ = (.slice Ao16 x6_1.length co16 : Value).ownBlock) _ _ x6_1 t207 _ ?side1 A15.out).mono ?_); (case side1 => exact Kd.R_V (Kd.R_tight rfl (HO_6.out))); rintro e w17 ⟨v208, rfl, ho0, hb⟩; refine ⟨_, rfl, ?_⟩; have n0_ := Aside0.mk (Kd.R_below (by (with_reducible repeat (first | apply Kd.R_alloc | apply Kd.R_drewN | apply Kd.R_drew)); exact HO_6.out) hb); have n1_ := Aside0.mk (Kd.V_lower (Kd.V_mono (ok' := fun k_ => (w.heap.size ≤ k_)) ho0 (fun k_ hk_ => Or.elim hk_ (fun hs_ => ((HO_6.out).1 k_ hs_.symm)) (fun hn_ => (Nat.le_trans (below_size (by repeat (first | (with_reducible first | exact HB.out | apply below_alloc | apply pw_below_drewN | apply below_drew1) | exact HB.out))) hn_)))) (below_size (by repeat (first | (with_reducible first | exact HB.out | apply below_alloc | apply pw_below_drewN | apply below_drew1) | exact HB.out)))); have n2_ := Aside0.mk (below_step (by repeat (first | (with_reducible first | exact HB.out | apply below_alloc | apply pw_below_drewN | apply below_drew1) | exact HB.out)) hb); clear HO_6; clear HB; have HO_6 := n0_; have HO209 := n1_; have HB := n2_; clear n0_ n1_ n2_; (try clear hb); (try clear hb2); (try clear hk); (try clear hi); (try clear ho0)))
            go_ret2
            exact ⟨_, by first | rfl | (simp [errW_none, errW_some] <;> rfl) | (simp [*, errW_none, errW_some] <;> rfl), by (with_reducible repeat (first | apply Kd.V_alloc | apply Kd.V_drewN | apply Kd.V_drew)); exact HO209.out, by repeat (first | (with_reducible first | exact HB.out | apply below_alloc | apply pw_below_drewN | apply below_drew1) | exact HB.out)⟩
    · rw [if_neg c4] at H
      exact absurd H (by simp)
  · rw [if_neg c3] at H
    exact absurd H (by simp)
mutual
def heraldref04_Text.l0 : Nat → List Int → ByteArray → Option (ByteArray)
  | 0, _, _ => none
  | k + 1, x0, x3 => if (x0.length : Int) > 0 then ((heraldref04_small.f k x0 10000).bind fun bt210 => (heraldref04_Text.l1 k bt210.1 x3 bt210.2 0)) else (some x3)
def heraldref04_Text.l1 : Nat → List Int → ByteArray → Int → Int → Option (ByteArray)
  | 0, _, _, _, _ => none
  | k + 1, x0, x3, x5, x6 => if x6 < 4 then (if (x0.length : Int) > 0 then ((some (([(wrap64 (48 + (Int.tmod x5 10))) % 256] : List Int) : List Int)).bind fun y214 => (if (strOfNums y214).size + x3.size ≤ 9223372036854775807 then (heraldref04_Text.l1 k x0 ((strOfNums y214) ++ x3) (wrap64 (Int.tdiv x5 10)) (wrap64 (x6 + 1))) else (none))) else (if x5 > 0 then ((some (([(wrap64 (48 + (Int.tmod x5 10))) % 256] : List Int) : List Int)).bind fun y217 => (if (strOfNums y217).size + x3.size ≤ 9223372036854775807 then (heraldref04_Text.l1 k x0 ((strOfNums y217) ++ x3) (wrap64 (Int.tdiv x5 10)) (wrap64 (x6 + 1))) else (none))) else (heraldref04_Text.l0 k x0 x3))) else (heraldref04_Text.l0 k x0 x3)
end
def heraldref04_Text.f (k : Nat) (l0 : List Int) : Option (ByteArray) := if (l0.length : Int) = 0 then (some (⟨#[48]⟩ : ByteArray)) else (heraldref04_Text.l0 k l0 (⟨#[]⟩ : ByteArray))
set_option maxHeartbeats 8000000 in
set_option maxRecDepth 100000 in
theorem heraldref04_Text.calls (k : Nat) (P0_ : Nat → Prop) (A0 : Option Addr) (c0 : Nat) (l0 : List Int) (r : ByteArray) (w : World) (hs0 : Kd.V (Kd.int .i64) 3 w w.heap.size (fun k_ => P0_ k_) (.slice A0 l0.length c0) l0) (h : heraldref04_Text.f k l0 = some r) :
    Calls Tryd.prog 24 #[.slice A0 l0.length c0] w fun e w' => e = .returned (.string r) ∧ Below w.heap.size w w' := by
  have HO0 := Aside0.mk (show Kd.V (Kd.int .i64) 3 w w.heap.size (fun k_ => (P0_ k_ ∨ w.heap.size ≤ k_)) (.slice A0 l0.length c0) l0 from Kd.V_mono hs0 (fun k_ hk => .inl hk))
  have HB := Aside0.mk (Below.refl w.heap.size w)
  have H : (if (l0.length : Int) = 0 then (some (⟨#[48]⟩ : ByteArray)) else (heraldref04_Text.l0 k l0 (⟨#[]⟩ : ByteArray))) = some r := h
  clear h
  by_cases c2 : (l0.length : Int) = 0
  · rw [if_pos c2] at H
    have c2b0 : ((l0.length : Int) == 0) = true := beq_iff_eq.mpr c2
    have c2b1 : ((l0.length : Int) != 0) = false := bne_eq_false_iff_eq.mpr c2
    clear c2
    obtain rfl := Option.some.inj H
    go_enter Tryd.func24, Tryd.ntmps24
    go_wp2
    go_ret
    exact ⟨by first | rfl | (simp [errW_none, errW_some] <;> rfl) | (simp [*, errW_none, errW_some] <;> rfl), by repeat (first | (with_reducible first | exact HB.out | apply below_alloc | apply pw_below_drewN | apply below_drew1) | exact HB.out)⟩
  · rw [if_neg c2] at H
    have c2b0 : ((l0.length : Int) == 0) = false := beq_eq_false_iff_ne.mpr c2
    have c2b1 : ((l0.length : Int) != 0) = true := bne_iff_ne.mpr c2
    have c2b2 : ¬ (l0 = []) := fun h_ => c2 (by rw [h_]; rfl)
    have H' := Aside0.mk H
    clear H
    go_enter Tryd.func24, Tryd.ntmps24
    go_wp2
    go_loopg [0, 3] k (fun kq v0 v3 w' => ∃ (x0_1 : List Int) (x3_1 : ByteArray), v3 = .string x3_1 ∧ Aside0 (heraldref04_Text.l0 kq x0_1 x3_1 = some r) ∧ Aside0 (kq ≤ k) ∧ Aside0 (Kd.V (Kd.int .i64) 3 w' w.heap.size (fun k_ => (P0_ k_ ∨ w.heap.size ≤ k_)) v0 x0_1) ∧ Aside0 (Below w.heap.size w w'))
    case atStart => exact ⟨(l0), ((⟨#[]⟩ : ByteArray)), (by first | rfl | (simp; done) | (simp [*]; done) | (simp [i64_w]; done) | (simp [*, i64_w]; done)), H', ⟨Nat.le_refl _⟩, ⟨by (with_reducible repeat (first | apply Kd.V_alloc | apply Kd.V_drewN | apply Kd.V_drew)); exact HO0.out⟩, ⟨by repeat (first | (with_reducible first | exact HB.out | apply below_alloc | apply pw_below_drewN | apply below_drew1) | exact HB.out)⟩⟩
    case round =>
      clear H'
      try clear c2
      try clear c2b0
      try clear c2b1
      try clear c2b2
      try clear p2
      obtain ⟨x0_1, x3_1, rfl, HA, HK1, HO_0, HB⟩ := hrel
      cases gk with
      | zero => exact absurd HA.out (by simp [heraldref04_Text.l0])
      | succ k1 =>
        have H := HA.out
        clear HA
        simp only [heraldref04_Text.l0] at H
        by_cases c3 : (x0_1.length : Int) > 0
        · rw [if_pos c3] at H
          have c3b0 : decide (0 < (x0_1.length : Int)) = true := decide_eq_true c3
          have c3b1 : decide (0 < x0_1.length) = true := decide_eq_true (by omega)
          clear c3
          replace H := Option.bind_eq_some_iff.mp H
          obtain ⟨⟨t210, t213⟩, A40, H⟩ := H
          replace H : (heraldref04_Text.l1 k1 t210 x3_1 t213 0) = some r := H
          have A4 := Aside0.mk A40
          clear A40
          have H' := Aside0.mk H
          clear H
          obtain ⟨Ao5, co5, eo5⟩ := Kd.V_slice HO_0.out
          subst eo5
          go_wp2_with (first | ((with_reducible refine gate_callee (f := 55) rfl ?_); refine goesL_ (some 15) rfl rfl Tryd.func55 (by kernel_rfl) rfl #[.slice Ao5 x0_1.length co5, .int .i64 10000] rfl (by (try simp only [List.map_toArray, List.map_cons, List.map_nil]); first | done | rfl | (simp only [List.length_drop, List.length_take]; rfl)) ?_; (with_reducible refine (heraldref04_small.calls k1 _ _ x0_1 10000 t210 t213 _ ?side1 ?side2 A4.out).mono ?_); (case side1 => repeat (first | exact (Kd.V_reads' HO_0.out).2.2 | (with_reducible refine Kd.C_alloc ?_ _) | (with_reducible refine Kd.C_drewN ?_ _) | (with_reducible refine Kd.C_drew ?_))); (case side2 => exact (Kd.V_reads' HO_0.out).2.1); rintro e w6 ⟨v211, rfl, ho0, hb⟩; refine ⟨_, rfl, ?_⟩; have n0_ := Aside0.mk (Kd.V_below (by (with_reducible repeat (first | apply Kd.V_alloc | apply Kd.V_drewN | apply Kd.V_drew)); exact HO_0.out) hb); have n1_ := Aside0.mk (Kd.V_lower (Kd.V_mono (ok' := fun k_ => (P0_ k_ ∨ w.heap.size ≤ k_)) ho0 (fun k_ hk_ => (.inr (Nat.le_trans (below_size (by repeat (first | (with_reducible first | exact HB.out | apply below_alloc | apply pw_below_drewN | apply below_drew1) | exact HB.out))) hk_)))) (below_size (by repeat (first | (with_reducible first | exact HB.out | apply below_alloc | apply pw_below_drewN | apply below_drew1) | exact HB.out)))); have n2_ := Aside0.mk (below_step (by repeat (first | (with_reducible first | exact HB.out | apply below_alloc | apply pw_below_drewN | apply below_drew1) | exact HB.out)) hb); clear HO_0; clear HB; have HO_0 := n0_; have HO212 := n1_; have HB := n2_; clear n0_ n1_ n2_; (try clear hb); (try clear hb2); (try clear hk); (try clear hi); (try clear ho0)))
          go_loopg [3, 5, 6] k1 (fun kq v3 v5 v6 w' => ∃ (x3_2 : ByteArray) (x5_2 : Int) (x6_2 : Int), v3 = .string x3_2 ∧ v5 = .int .i64 x5_2 ∧ v6 = .int .i64 x6_2 ∧ Aside0 (heraldref04_Text.l1 kq t210 x3_2 x5_2 x6_2 = some r) ∧ Aside0 (kq ≤ k1) ∧ Aside0 (Kd.V (Kd.int .i64) 3 w' w.heap.size (fun k_ => (P0_ k_ ∨ w.heap.size ≤ k_)) v211 t210) ∧ Aside0 (Below w.heap.size w w'))
          case atStart => exact ⟨(x3_1), (t213), (0), (by first | rfl | (simp; done) | (simp [*]; done) | (simp [i64_w]; done) | (simp [*, i64_w]; done)), (by first | rfl | (simp; done) | (simp [*]; done) | (simp [i64_w]; done) | (simp [*, i64_w]; done)), (by first | rfl | (simp; done) | (simp [*]; done) | (simp [i64_w]; done) | (simp [*, i64_w]; done)), H', ⟨Nat.le_refl _⟩, ⟨by (with_reducible repeat (first | apply Kd.V_alloc | apply Kd.V_drewN | apply Kd.V_drew)); exact HO212.out⟩, ⟨by repeat (first | (with_reducible first | exact HB.out | apply below_alloc | apply pw_below_drewN | apply below_drew1) | exact HB.out)⟩⟩
          case round =>
            clear H'
            try clear c2
            try clear c2b0
            try clear c2b1
            try clear c2b2
            try clear p2
            try clear c3
            try clear c3b0
            try clear c3b1
            try clear c5
            try clear p2
            obtain ⟨x3_2, x5_2, x6_2, rfl, rfl, rfl, HA, HK2, HO_0, HB⟩ := hrel
            cases gk with
            | zero => exact absurd HA.out (by simp [heraldref04_Text.l1])
            | succ k2 =>
              have H := HA.out
              clear HA
              simp only [heraldref04_Text.l1] at H
              by_cases c7 : x6_2 < 4
              · rw [if_pos c7] at H
                have c7b0 : decide (x6_2 < 4) = true := decide_eq_true c7
                clear c7
                by_cases c8 : (t210.length : Int) > 0
                · rw [if_pos c8] at H
                  have c8b0 : decide (0 < (t210.length : Int)) = true := decide_eq_true c8
                  have c8b1 : decide (0 < t210.length) = true := decide_eq_true (by omega)
                  clear c8
                  obtain ⟨y214, hy214⟩ : ∃ y_ : List Int, y_ = (([(wrap64 (48 + (Int.tmod x5_2 10))) % 256] : List Int)) := ⟨_, rfl⟩
                  replace H : (if (strOfNums y214).size + x3_2.size ≤ 9223372036854775807 then (heraldref04_Text.l1 k2 t210 ((strOfNums y214) ++ x3_2) (wrap64 (Int.tdiv x5_2 10)) (wrap64 (x6_2 + 1))) else (none)) = some r := by first | (rw [hy214]; with_reducible exact H) | (have H2_ := (Option.bind_some _ _).symm.trans H; rw [hy214]; with_reducible exact H2_) | (have H2_ := (Option.bind_some _ _).symm.trans H; with_reducible exact H2_) | with_reducible exact H | (rw [hy214]; exact H) | exact H
                  have Ny214 := Aside0.mk hy214
                  clear hy214
                  by_cases c9 : (strOfNums y214).size + x3_2.size ≤ 9223372036854775807
                  · rw [if_pos c9] at H
                    have c9b0 := eq_true c9
                    have c9b1 : decide ((strOfNums y214).size + x3_2.size ≤ 9223372036854775807) = true := decide_eq_true c9
                    try have c9b2 : (9223372036854775807 < (strOfNums y214).size + x3_2.size) = False := eq_false (Nat.not_lt.2 c9)
                    have H' := Aside0.mk H
                    clear H
                    obtain ⟨Ao10, co10, eo10⟩ := Kd.V_slice HO_0.out
                    subst eo10
                    go_wp2_with (first | ((with_reducible refine gate_dst (N := 36) rfl ?_); (try (refine gate_guard (by rfl) ?_; dsimp only)); refine Kd.R_lit (Kd.int .u8) _ 5 ?hg (N := 36) ?hd (xs := ([(wrap64 (48 + (Int.tmod x5_2 10))) % 256] : List Int)) (inner := [.int .u8 ((wrap64 (48 + (Int.tmod x5_2 10))) % 256)]) (ok := fun _ => True) (okp := fun _ => True) ?hr ?hp (fun _ hk => hk) trivial (Below.refl _ _) (Nat.le_refl _) (by simp) ?_; (case hd => rfl); (case hg => rfl); (case hr => first | (go_simp; done) | (go_simp; rfl)); (case hp => exact (Reps.one (show Kd.M (Kd.int .u8) _ _ _ ((wrap64 (48 + (Int.tmod x5_2 10))) % 256) [.int .u8 ((wrap64 (48 + (Int.tmod x5_2 10))) % 256)] from rfl) (Reps.none _ _))); intro v215 w11 ho12 hb hg_ hnew_; clear hg_ hnew_; (first | rw [← Ny214.out] at ho12 | (simp only [Int.reduceToNat] at ho12; rw [← Ny214.out] at ho12)); have n0_ := Aside0.mk (Kd.V_elder' (by (with_reducible repeat (first | apply Kd.V_alloc | apply Kd.V_drewN | apply Kd.V_drew)); exact HO_0.out) (Kd.R_base ho12) hb); have n1_ := Aside0.mk (Kd.R_lower (Kd.R_newM (M := fun k_ => (w.heap.size ≤ k_)) ho12 (below_size (by repeat (first | (with_reducible first | exact HB.out | apply below_alloc | apply pw_below_drewN | apply below_drew1) | exact HB.out))) (fun k_ h_ => h_)) (below_size (by repeat (first | (with_reducible first | exact HB.out | apply below_alloc | apply pw_below_drewN | apply below_drew1) | exact HB.out)))); have n2_ := Aside0.mk (below_step (by repeat (first | (with_reducible first | exact HB.out | apply below_alloc | apply pw_below_drewN | apply below_drew1) | exact HB.out)) hb); clear HO_0; clear HB; have HO_0 := n0_; have HO216 := n1_; have HB := n2_; clear n0_ n1_ n2_; clear hb ho12; have hcv13 := own_string (P := Tryd.prog) Tryd.underlying77 Tryd.underlying5 Tryd.underlying9 (Kd.own_of_R HO216.out)))
                    go_roundg k2
                    case measure => have := HK1.out; have := HK2.out; omega
                    case rel => exact ⟨((strOfNums y214) ++ x3_2), (wrap64 (Int.tdiv x5_2 10)), (wrap64 (x6_2 + 1)), (by first | rfl | (simp; done) | (simp [*]; done) | (simp [i64_w]; done) | (simp [*, i64_w]; done)), (by first | rfl | (simp; done) | (simp [*]; done) | (simp [i64_w]; done) | (simp [*, i64_w]; done)), (by first | rfl | (simp; done) | (simp [*]; done) | (simp [i64_w]; done) | (simp [*, i64_w]; done)), H', ⟨by have := HK1.out; have := HK2.out; omega⟩, ⟨by (with_reducible repeat (first | apply Kd.V_alloc | apply Kd.V_drewN | apply Kd.V_drew)); exact Kd.V_mono HO_0.out (fun _ hk => hk.1)⟩, ⟨by repeat (first | (with_reducible first | exact HB.out | apply below_alloc | apply pw_below_drewN | apply below_drew1) | exact HB.out)⟩⟩
                  · rw [if_neg c9] at H
                    exact absurd H (by simp)
                · rw [if_neg c8] at H
                  have c8b0 : decide (0 < (t210.length : Int)) = false := decide_eq_false c8
                  have c8b1 : decide (0 < t210.length) = false := decide_eq_false (by omega)
                  clear c8
                  by_cases c14 : x5_2 > 0
                  · rw [if_pos c14] at H
                    have c14b0 : decide (0 < x5_2) = true := decide_eq_true c14
                    clear c14
                    obtain ⟨y217, hy217⟩ : ∃ y_ : List Int, y_ = (([(wrap64 (48 + (Int.tmod x5_2 10))) % 256] : List Int)) := ⟨_, rfl⟩
                    replace H : (if (strOfNums y217).size + x3_2.size ≤ 9223372036854775807 then (heraldref04_Text.l1 k2 t210 ((strOfNums y217) ++ x3_2) (wrap64 (Int.tdiv x5_2 10)) (wrap64 (x6_2 + 1))) else (none)) = some r := by first | (rw [hy217]; with_reducible exact H) | (have H2_ := (Option.bind_some _ _).symm.trans H; rw [hy217]; with_reducible exact H2_) | (have H2_ := (Option.bind_some _ _).symm.trans H; with_reducible exact H2_) | with_reducible exact H | (rw [hy217]; exact H) | exact H
                    have Ny217 := Aside0.mk hy217
                    clear hy217
                    by_cases c15 : (strOfNums y217).size + x3_2.size ≤ 9223372036854775807
                    · rw [if_pos c15] at H
                      have c15b0 := eq_true c15
                      have c15b1 : decide ((strOfNums y217).size + x3_2.size ≤ 9223372036854775807) = true := decide_eq_true c15
                      try have c15b2 : (9223372036854775807 < (strOfNums y217).size + x3_2.size) = False := eq_false (Nat.not_lt.2 c15)
                      have H' := Aside0.mk H
                      clear H
                      obtain ⟨Ao16, co16, eo16⟩ := Kd.V_slice HO_0.out
                      subst eo16
                      go_wp2_with (first | ((with_reducible refine gate_dst (N := 36) rfl ?_); (try (refine gate_guard (by rfl) ?_; dsimp only)); refine Kd.R_lit (Kd.int .u8) _ 5 ?hg (N := 36) ?hd (xs := ([(wrap64 (48 + (Int.tmod x5_2 10))) % 256] : List Int)) (inner := [.int .u8 ((wrap64 (48 + (Int.tmod x5_2 10))) % 256)]) (ok := fun _ => True) (okp := fun _ => True) ?hr ?hp (fun _ hk => hk) trivial (Below.refl _ _) (Nat.le_refl _) (by simp) ?_; (case hd => rfl); (case hg => rfl); (case hr => first | (go_simp; done) | (go_simp; rfl)); (case hp => exact (Reps.one (show Kd.M (Kd.int .u8) _ _ _ ((wrap64 (48 + (Int.tmod x5_2 10))) % 256) [.int .u8 ((wrap64 (48 + (Int.tmod x5_2 10))) % 256)] from rfl) (Reps.none _ _))); intro v218 w17 ho18 hb hg_ hnew_; clear hg_ hnew_; (first | rw [← Ny217.out] at ho18 | (simp only [Int.reduceToNat] at ho18; rw [← Ny217.out] at ho18)); have n0_ := Aside0.mk (Kd.V_elder' (by (with_reducible repeat (first | apply Kd.V_alloc | apply Kd.V_drewN | apply Kd.V_drew)); exact HO_0.out) (Kd.R_base ho18) hb); have n1_ := Aside0.mk (Kd.R_lower (Kd.R_newM (M := fun k_ => (w.heap.size ≤ k_)) ho18 (below_size (by repeat (first | (with_reducible first | exact HB.out | apply below_alloc | apply pw_below_drewN | apply below_drew1) | exact HB.out))) (fun k_ h_ => h_)) (below_size (by repeat (first | (with_reducible first | exact HB.out | apply below_alloc | apply pw_below_drewN | apply below_drew1) | exact HB.out)))); have n2_ := Aside0.mk (below_step (by repeat (first | (with_reducible first | exact HB.out | apply below_alloc | apply pw_below_drewN | apply below_drew1) | exact HB.out)) hb); clear HO_0; clear HB; have HO_0 := n0_; have HO219 := n1_; have HB := n2_; clear n0_ n1_ n2_; clear hb ho18; have hcv19 := own_string (P := Tryd.prog) Tryd.underlying77 Tryd.underlying5 Tryd.underlying9 (Kd.own_of_R HO219.out)))
                      go_roundg k2
                      case measure => have := HK1.out; have := HK2.out; omega
                      case rel => exact ⟨((strOfNums y217) ++ x3_2), (wrap64 (Int.tdiv x5_2 10)), (wrap64 (x6_2 + 1)), (by first | rfl | (simp; done) | (simp [*]; done) | (simp [i64_w]; done) | (simp [*, i64_w]; done)), (by first | rfl | (simp; done) | (simp [*]; done) | (simp [i64_w]; done) | (simp [*, i64_w]; done)), (by first | rfl | (simp; done) | (simp [*]; done) | (simp [i64_w]; done) | (simp [*, i64_w]; done)), H', ⟨by have := HK1.out; have := HK2.out; omega⟩, ⟨by (with_reducible repeat (first | apply Kd.V_alloc | apply Kd.V_drewN | apply Kd.V_drew)); exact Kd.V_mono HO_0.out (fun _ hk => hk.1)⟩, ⟨by repeat (first | (with_reducible first | exact HB.out | apply below_alloc | apply pw_below_drewN | apply below_drew1) | exact HB.out)⟩⟩
                    · rw [if_neg c15] at H
                      exact absurd H (by simp)
                  · rw [if_neg c14] at H
                    have c14b0 : decide (0 < x5_2) = false := decide_eq_false c14
                    clear c14
                    have H' := Aside0.mk H
                    clear H
                    obtain ⟨Ao20, co20, eo20⟩ := Kd.V_slice HO_0.out
                    subst eo20
                    go_wp2
                    go_roundg k2
                    case measure => have := HK1.out; have := HK2.out; omega
                    case rel => exact ⟨(t210), (x3_2), (by first | rfl | (simp; done) | (simp [*]; done) | (simp [i64_w]; done) | (simp [*, i64_w]; done)), H', ⟨by have := HK1.out; have := HK2.out; omega⟩, ⟨by (with_reducible repeat (first | apply Kd.V_alloc | apply Kd.V_drewN | apply Kd.V_drew)); exact HO_0.out⟩, ⟨by repeat (first | (with_reducible first | exact HB.out | apply below_alloc | apply pw_below_drewN | apply below_drew1) | exact HB.out)⟩⟩
              · rw [if_neg c7] at H
                have c7b0 : decide (x6_2 < 4) = false := decide_eq_false c7
                clear c7
                have H' := Aside0.mk H
                clear H
                go_wp2
                go_roundg k2
                case measure => have := HK1.out; have := HK2.out; omega
                case rel => exact ⟨(t210), (x3_2), (by first | rfl | (simp; done) | (simp [*]; done) | (simp [i64_w]; done) | (simp [*, i64_w]; done)), H', ⟨by have := HK1.out; have := HK2.out; omega⟩, ⟨by (with_reducible repeat (first | apply Kd.V_alloc | apply Kd.V_drewN | apply Kd.V_drew)); exact HO_0.out⟩, ⟨by repeat (first | (with_reducible first | exact HB.out | apply below_alloc | apply pw_below_drewN | apply below_drew1) | exact HB.out)⟩⟩
        · rw [if_neg c3] at H
          have c3b0 : decide (0 < (x0_1.length : Int)) = false := decide_eq_false c3
          have c3b1 : decide (0 < x0_1.length) = false := decide_eq_false (by omega)
          clear c3
          obtain rfl := Option.some.inj H
          obtain ⟨Ao21, co21, eo21⟩ := Kd.V_slice HO_0.out
          subst eo21
          go_wp2
          go_ret
          exact ⟨by first | rfl | (simp [errW_none, errW_some] <;> rfl) | (simp [*, errW_none, errW_some] <;> rfl), by repeat (first | (with_reducible first | exact HB.out | apply below_alloc | apply pw_below_drewN | apply below_drew1) | exact HB.out)⟩
end Go.Proofs.YtgcngbmkgjphpaaDoor.PAll
end

section
namespace Go.Proofs.YtgcngbmkgjphpaaDoor.PAll
open Go.RowKit Go.Proofs.YtgcngbmkgjphpaaDoorW.PrintWords Go.Proofs.YtgcngbmkgjphpaaDoorW.PrintLast Go.Proofs.YtgcngbmkgjphpaaDoorW.PrintMore
attribute [local go_sem] max2_int min2_int max_two min_two max_three min_three max_four min_four   -- for this text's walks alone
set_option linter.unusedVariables false
set_option linter.unusedSimpArgs false
def heraldref04_Bits.l0 : Nat → Int → Int → Option (Int)
  | 0, _, _ => none
  | k + 1, x3, x4 => if x4 > 0 then (heraldref04_Bits.l0 k (wrap64 (x3 + 1)) (wrap64 (Int.tdiv x4 2))) else (some x3)
def heraldref04_Bits.f (k : Nat) (l0 : List Int) : Option (Int) := if (l0.length : Int) = 0 then (some 0) else (if 0 ≤ (wrap64 ((l0.length : Int) - 1)) then (if (wrap64 ((l0.length : Int) - 1)) < (l0.length : Int) then (heraldref04_Bits.l0 k (wrap64 (16 * (wrap64 ((l0.length : Int) - 1)))) (rd l0 (wrap64 ((l0.length : Int) - 1)))) else (none)) else (none))
set_option maxHeartbeats 8000000 in
set_option maxRecDepth 100000 in
theorem heraldref04_Bits.calls (k : Nat) (A0 : Option Addr) (c0 : Nat) (l0 : List Int) (r : Int) (w : World) (hr0 : Kd.C (Kd.int .i64) w A0 l0.length l0) (hc0 : l0.length ≤ c0) (h : heraldref04_Bits.f k l0 = some r) :
    Calls Tryd.prog 26 #[.slice A0 l0.length c0] w fun e w' => e = .returned (.int .i64 r) ∧ Drawn0 w w' := by
  have HR0 := Aside0.mk hr0
  have HC0 := Aside0.mk hc0
  clear hr0 hc0
  have H : (if (l0.length : Int) = 0 then (some 0) else (if 0 ≤ (wrap64 ((l0.length : Int) - 1)) then (if (wrap64 ((l0.length : Int) - 1)) < (l0.length : Int) then (heraldref04_Bits.l0 k (wrap64 (16 * (wrap64 ((l0.length : Int) - 1)))) (rd l0 (wrap64 ((l0.length : Int) - 1)))) else (none)) else (none))) = some r := h
  clear h
  by_cases c2 : (l0.length : Int) = 0
  · rw [if_pos c2] at H
    have c2b0 : ((l0.length : Int) == 0) = true := beq_iff_eq.mpr c2
    have c2b1 : ((l0.length : Int) != 0) = false := bne_eq_false_iff_eq.mpr c2
    clear c2
    obtain rfl := Option.some.inj H
    go_enter Tryd.func26, Tryd.ntmps26
    go_wp2
    go_ret
    exact ⟨by first | rfl | (simp; done) | (simp [*]; done), by repeat (first | exact Drawn0.refl _ | apply Drawn0.step)⟩
  · rw [if_neg c2] at H
    have c2b0 : ((l0.length : Int) == 0) = false := beq_eq_false_iff_ne.mpr c2
    have c2b1 : ((l0.length : Int) != 0) = true := bne_iff_ne.mpr c2
    have c2b2 : ¬ (l0 = []) := fun h_ => c2 (by rw [h_]; rfl)
    obtain ⟨ji3, hji3⟩ : ∃ j_ : Int, (wrap64 ((l0.length : Int) - 1)) = j_ := ⟨_, rfl⟩
    replace H : (if 0 ≤ (ji3) then (if (ji3) < (l0.length : Int) then (heraldref04_Bits.l0 k (wrap64 (16 * (ji3))) (rd l0 (ji3))) else (none)) else (none)) = some r := by first | (rw [hji3] at H; exact H) | (simp only [hji3] at H ⊢; exact H)
    have hji3w : (IntKind.i64.wrap ((l0.length : Int) - 1)) = ji3 := (i64_w _).trans hji3
    by_cases c4 : 0 ≤ (ji3)
    · rw [if_pos c4] at H
      have c4b0 : decide (0 ≤ (ji3)) = true := decide_eq_true c4
      clear c4
      by_cases c5 : (ji3) < (l0.length : Int)
      · rw [if_pos c5] at H
        have c5b0 : decide ((ji3) < (l0.length : Int)) = true := decide_eq_true c5
        clear c5
        have H' := Aside0.mk H
        clear H
        have p243 : 0 ≤ ((ji3) : Int) := of_decide_eq_true (by first | (with_reducible assumption) | assumption)
        have q243 : (ji3) < (l0.length : Int) := of_decide_eq_true (by first | (with_reducible assumption) | assumption)
        obtain ⟨ad243, e243, hx243_0⟩ := Kd.at_int HR0.out (ji3) p243 q243
        cases e243
        replace p243 := eq_true p243
        replace q243 := eq_true q243
        go_enter Tryd.func26, Tryd.ntmps26
        go_wp2
        go_loopg [3, 4] k (fun kq v3 v4 w' => ∃ (x3_1 : Int) (x4_1 : Int), v3 = .int .i64 x3_1 ∧ v4 = .int .i64 x4_1 ∧ Aside0 (heraldref04_Bits.l0 kq x3_1 x4_1 = some r) ∧ Aside0 (kq ≤ k) ∧ Drawn0 w w')
        case atStart => exact ⟨(wrap64 (16 * (ji3))), (rd l0 (ji3)), (by first | rfl | (simp; done) | (simp only [← hji3] <;> (first | rfl | simp)) | (simp [*]; done)), (by first | rfl | (simp; done) | (simp only [← hji3] <;> (first | rfl | simp)) | (simp [*]; done)), H', ⟨Nat.le_refl _⟩, by repeat (first | exact Drawn0.refl _ | apply Drawn0.step)⟩
        case round =>
          clear H'
          try clear c2
          try clear c2b0
          try clear c2b1
          try clear c2b2
          try clear p2
          try clear q2
          try clear hx2
          try clear c4
          try clear c4b0
          try clear c5
          try clear c5b0
          try clear hx243_0
          try clear p243
          try clear q243
          obtain ⟨x3_1, x4_1, rfl, rfl, HA, HK1, ⟨m1, rfl⟩⟩ := hrel
          cases gk with
          | zero => exact absurd HA.out (by simp [heraldref04_Bits.l0])
          | succ k1 =>
            have H := HA.out
            clear HA
            simp only [heraldref04_Bits.l0] at H
            by_cases c6 : x4_1 > 0
            · rw [if_pos c6] at H
              have c6b0 : decide (0 < x4_1) = true := decide_eq_true c6
              clear c6
              have H' := Aside0.mk H
              clear H
              go_wp2
              go_roundg k1
              case measure => have := HK1.out; omega
              case rel => exact ⟨(wrap64 (x3_1 + 1)), (wrap64 (Int.tdiv x4_1 2)), (by first | rfl | (simp; done) | (simp [*]; done) | (simp [i64_w]; done) | (simp [*, i64_w]; done)), (by first | rfl | (simp; done) | (simp [*]; done) | (simp [i64_w]; done) | (simp [*, i64_w]; done)), H', ⟨by have := HK1.out; omega⟩, by repeat (first | exact Drawn0.refl _ | apply Drawn0.step)⟩
            · rw [if_neg c6] at H
              have c6b0 : decide (0 < x4_1) = false := decide_eq_false c6
              clear c6
              obtain rfl := Option.some.inj H
              go_wp2
              go_ret
              exact ⟨by first | rfl | (simp; done) | (simp only [← hji3] <;> (first | rfl | simp)) | (simp [*]; done), by repeat (first | exact Drawn0.refl _ | apply Drawn0.step)⟩
      · rw [if_neg c5] at H
        exact absurd H (by simp)
    · rw [if_neg c4] at H
      exact absurd H (by simp)
def heraldref04_at.f (l0 : List Int) (a1 : Int) : Option (Int) := if a1 < (l0.length : Int) then (if 0 ≤ a1 then (some (rd l0 a1)) else (none)) else (some 0)
set_option maxHeartbeats 8000000 in
set_option maxRecDepth 100000 in
theorem heraldref04_at.calls (A0 : Option Addr) (c0 : Nat) (l0 : List Int) (a1 : Int) (r : Int) (w : World) (hr0 : Kd.C (Kd.int .i64) w A0 l0.length l0) (hc0 : l0.length ≤ c0) (h : heraldref04_at.f l0 a1 = some r) :
    Calls Tryd.prog 61 #[.slice A0 l0.length c0, .int .i64 a1] w fun e w' => e = .returned (.int .i64 r) ∧ Drawn0 w w' := by
  have HR0 := Aside0.mk hr0
  have HC0 := Aside0.mk hc0
  clear hr0 hc0
  have H : (if a1 < (l0.length : Int) then (if 0 ≤ a1 then (some (rd l0 a1)) else (none)) else (some 0)) = some r := h
  clear h
  by_cases c3 : a1 < (l0.length : Int)
  · rw [if_pos c3] at H
    have c3b0 : decide (a1 < (l0.length : Int)) = true := decide_eq_true c3
    clear c3
    by_cases c4 : 0 ≤ a1
    · rw [if_pos c4] at H
      have c4b0 : decide (0 ≤ a1) = true := decide_eq_true c4
      clear c4
      obtain rfl := Option.some.inj H
      have p244 : 0 ≤ (a1 : Int) := of_decide_eq_true (by first | (with_reducible assumption) | assumption)
      have q244 : a1 < (l0.length : Int) := of_decide_eq_true (by first | (with_reducible assumption) | assumption)
      obtain ⟨ad244, e244, hx244_0⟩ := Kd.at_int HR0.out a1 p244 q244
      cases e244
      replace p244 := eq_true p244
      replace q244 := eq_true q244
      go_enter Tryd.func61, Tryd.ntmps61
      go_wp2
      go_ret
      exact ⟨by first | rfl | (simp; done) | (simp [*]; done), by repeat (first | exact Drawn0.refl _ | apply Drawn0.step)⟩
    · rw [if_neg c4] at H
      exact absurd H (by simp)
  · rw [if_neg c3] at H
    have c3b0 : decide (a1 < (l0.length : Int)) = false := decide_eq_false c3
    clear c3
    obtain rfl := Option.some.inj H
    go_enter Tryd.func61, Tryd.ntmps61
    go_wp2
    go_ret
    exact ⟨by first | rfl | (simp; done) | (simp [*]; done), by repeat (first | exact Drawn0.refl _ | apply Drawn0.step)⟩
end Go.Proofs.YtgcngbmkgjphpaaDoor.PAll
end

section
namespace Go.Proofs.YtgcngbmkgjphpaaDoor.PAll
open Go.RowKit Go.Proofs.YtgcngbmkgjphpaaDoorW.PrintWords Go.Proofs.YtgcngbmkgjphpaaDoorW.PrintLast Go.Proofs.YtgcngbmkgjphpaaDoorW.PrintMore
attribute [local go_sem] max2_int min2_int max_two min_two max_three min_three max_four min_four   -- for this text's walks alone
set_option linter.unusedVariables false
set_option linter.unusedSimpArgs false
def nat_Nat_times.l0 : Nat → Int → List Int → Int → List Int → Int → Int → List Int → Option (List Int)
  | 0, _, _, _, _, _, _, _ => none
  | k + 1, x1, x7, x8, x19, x20, x21, x299000 => if x21 < x20 then (if 0 ≤ x21 then (if x21 < (x19.length : Int) then (if x21 < (x7.length : Int) then (nat_Nat_times.l0 k x1 (x7.set (x21 : Int).toNat ((IntKind.u64.wrap (x8 + (IntKind.u64.wrap ((IntKind.u64.wrap (rd x19 x21)) * (IntKind.u64.wrap (x1)))))) % 4294967296)) ((IntKind.u64.wrap (x8 + (IntKind.u64.wrap ((IntKind.u64.wrap (rd x19 x21)) * (IntKind.u64.wrap (x1)))))) / 4294967296) x19 x20 (wrap64 (x21 + 1)) x299000) else (none)) else (none)) else (none)) else (if 0 ≤ (x299000.length : Int) then (if (x299000.length : Int) < (x7.length : Int) then ((nat_cut.f k (x7.set ((x299000.length : Int) : Int).toNat ((x8) % 4294967296))).bind fun t306 => (some t306)) else (none)) else (none))
def nat_Nat_times.f (k : Nat) (l0_0 : List Int) (a1 : Int) (a2 : Int) : Option (List Int) := if 0 ≤ (wrap64 ((l0_0.length : Int) + 1)) then (if (wrap64 ((l0_0.length : Int) + 1) : Int).toNat ≤ 70368744177664 then (nat_Nat_times.l0 k a1 (List.replicate (wrap64 ((l0_0.length : Int) + 1) : Int).toNat 0) (IntKind.u64.wrap (a2)) l0_0 (l0_0.length : Int) 0 l0_0) else (none)) else (none)
set_option maxHeartbeats 8000000 in
set_option maxRecDepth 100000 in
theorem nat_Nat_times.calls (k : Nat) (A0_0 : Option Addr) (c0_0 : Nat) (l0_0 : List Int) (a1 : Int) (a2 : Int) (r : List Int) (w : World) (hr0_0 : Kd.C (Kd.int .u32) w A0_0 l0_0.length l0_0) (hc0_0 : l0_0.length ≤ c0_0) (h : nat_Nat_times.f k l0_0 a1 a2 = some r) :
    Calls Tryd.prog 49 #[.agg #[.slice A0_0 l0_0.length c0_0], .int .u32 a1, .int .u32 a2] w fun e w' => ∃ v0_ : Value, e = .returned (.agg #[v0_]) ∧ Kd.V (Kd.int .u32) 79 w' w.heap.size (fun k_ => (w.heap.size ≤ k_)) v0_ r ∧ Below w.heap.size w w' := by
  have hu26 := Tryd.underlying26
  have HR0_0 := Aside0.mk hr0_0
  have HC0_0 := Aside0.mk hc0_0
  clear hr0_0 hc0_0
  have HB := Aside0.mk (Below.refl w.heap.size w)
  have H : (if 0 ≤ (wrap64 ((l0_0.length : Int) + 1)) then (if (wrap64 ((l0_0.length : Int) + 1) : Int).toNat ≤ 70368744177664 then (nat_Nat_times.l0 k a1 (List.replicate (wrap64 ((l0_0.length : Int) + 1) : Int).toNat 0) (IntKind.u64.wrap (a2)) l0_0 (l0_0.length : Int) 0 l0_0) else (none)) else (none)) = some r := h
  clear h
  obtain ⟨ji4, hji4⟩ : ∃ j_ : Int, (wrap64 ((l0_0.length : Int) + 1)) = j_ := ⟨_, rfl⟩
  replace H : (if 0 ≤ (ji4) then (if (ji4 : Int).toNat ≤ 70368744177664 then (nat_Nat_times.l0 k a1 (List.replicate (ji4 : Int).toNat 0) (IntKind.u64.wrap (a2)) l0_0 (l0_0.length : Int) 0 l0_0) else (none)) else (none)) = some r := by first | (rw [hji4] at H; exact H) | (simp only [hji4] at H ⊢; exact H)
  have hji4w : (IntKind.i64.wrap ((l0_0.length : Int) + 1)) = ji4 := (i64_w _).trans hji4
  by_cases c5 : 0 ≤ (ji4)
  · rw [if_pos c5] at H
    have c5b0 := eq_true c5
    have c5b1 : decide (0 ≤ (ji4)) = true := decide_eq_true c5
    clear c5
    by_cases c6 : (ji4 : Int).toNat ≤ 70368744177664
    · rw [if_pos c6] at H
      have c6b0 := eq_true c6
      have c6b1 : decide ((ji4 : Int).toNat ≤ 70368744177664) = true := decide_eq_true c6
      clear c6
      obtain ⟨y300, hy300⟩ : ∃ y_ : List Int, y_ = (List.replicate (ji4 : Int).toNat 0) := ⟨_, rfl⟩
      replace H : (nat_Nat_times.l0 k a1 y300 (IntKind.u64.wrap (a2)) l0_0 (l0_0.length : Int) 0 l0_0) = some r := by first | (rw [hy300]; with_reducible exact H) | (have H2_ := (Option.bind_some _ _).symm.trans H; rw [hy300]; with_reducible exact H2_) | (have H2_ := (Option.bind_some _ _).symm.trans H; with_reducible exact H2_) | with_reducible exact H | (rw [hy300]; exact H) | exact H
      have Ny300 := Aside0.mk hy300
      clear hy300
      have H' := Aside0.mk H
      clear H
      go_enter Tryd.func49, Tryd.ntmps49
      go_wp2_with (first | ((with_reducible refine gate_dst (N := 3) rfl ?_); refine box_event ?hg (N := 3) ?hd (cs := #[.slice A0_0 l0_0.length c0_0]) (t := 26) ?hr ?_; (case hd => rfl); (case hg => rfl); (case hr => first | (go_simp; done) | (go_simp; rfl)); intro gb298 hg w7 hbox hb; have n0_ := Aside0.mk (below_step (by repeat (first | (with_reducible first | exact HB.out | apply below_alloc | apply pw_below_drewN | apply below_drew1) | exact HB.out)) hb); have n1_ := Aside0.mk (hbox); have n2_ := Aside0.mk ((by rw [hg]; exact (below_size (by repeat (first | (with_reducible first | exact HB.out | apply below_alloc | apply pw_below_drewN | apply below_drew1) | exact HB.out))) : w.heap.size ≤ gb298)); have n3_ := Aside0.mk ((by rw [hg]; exact (below_size (by repeat (first | (with_reducible first | exact HB.out | apply below_alloc | apply pw_below_drewN | apply below_drew1) | exact HB.out))) : w.heap.size ≤ gb298)); clear HB; have HB := n0_; have BK298 := n1_; have GW298 := n2_; have GE298 := n3_; clear n0_ n1_ n2_ n3_; clear hb hbox hg) | ((with_reducible refine gate_dst (N := 6) rfl ?_); refine box_event ?hg (N := 6) ?hd (cs := #[.slice none 0 0]) (t := 26) ?hr ?_; (case hd => rfl); (case hg => rfl); (case hr => first | (go_simp; done) | (go_simp; rfl)); intro gb299 hg w8 hbox hb; have n0_ := Aside0.mk (blk_below (g := gb298) (o := .cells #[.slice A0_0 l0_0.length c0_0] 26 (0, 0)) (by (with_reducible repeat (first | refine blk_drewN ?_ _ | refine blk_drew ?_ | refine blk_alloc ?_ _)); exact BK298.out) hb); have n1_ := Aside0.mk (below_step (by repeat (first | (with_reducible first | exact HB.out | apply below_alloc | apply pw_below_drewN | apply below_drew1 | refine below_set ?_ GE298.out) | exact HB.out)) hb); have n2_ := Aside0.mk (hbox); have n3_ := Aside0.mk ((by rw [hg]; exact (below_size (by repeat (first | (with_reducible first | exact HB.out | apply below_alloc | apply pw_below_drewN | apply below_drew1 | refine below_set ?_ GE298.out) | exact HB.out))) : w.heap.size ≤ gb299)); have n4_ := Aside0.mk ((by rw [hg]; exact (below_size (by repeat (first | (with_reducible first | exact HB.out | apply below_alloc | apply pw_below_drewN | apply below_drew1 | refine below_set ?_ GE298.out) | exact HB.out))) : w.heap.size ≤ gb299)); have n5_ := Aside0.mk ((by rw [hg]; exact Nat.ne_of_lt (blk_lt (g := gb298) (o := .cells #[.slice A0_0 l0_0.length c0_0] 26 (0, 0)) (by (with_reducible repeat (first | refine blk_drewN ?_ _ | refine blk_drew ?_ | refine blk_alloc ?_ _)); exact BK298.out)) : gb298 ≠ gb299)); have n6_ := Aside0.mk ((by rw [hg]; exact Nat.ne_of_gt (blk_lt (g := gb298) (o := .cells #[.slice A0_0 l0_0.length c0_0] 26 (0, 0)) (by (with_reducible repeat (first | refine blk_drewN ?_ _ | refine blk_drew ?_ | refine blk_alloc ?_ _)); exact BK298.out)) : gb299 ≠ gb298)); clear BK298; clear HB; have BK298 := n0_; have HB := n1_; have BK299 := n2_; have GW299 := n3_; have GE299 := n4_; have NB298_299 := n5_; have NB299_298 := n6_; clear n0_ n1_ n2_ n3_ n4_ n5_ n6_; clear hb hbox hg; have hnb9 := NB298_299.out; have hnc9 := NB299_298.out; have hcz10_0 : w8.cell? ⟨gb298, 0, none⟩ = some (.slice A0_0 l0_0.length c0_0) := (blk_cell BK298.out 0).trans rfl; have hfz10_0 := blk_frozen BK298.out 0) | ((with_reducible refine gate_dst (N := 15) rfl ?_); refine Kd.R_make (Kd.int .u32) _ 79 rfl (N := 15) rfl 24 _ _ rfl ji4 rfl rfl Tryd.underlying24 (.int .u32 0) 4 info79 rfl (by decide) (by omega) 0 (ok := fun _ => True) (okp := fun _ => True) rfl (fun _ hk => hk) trivial (of_decide_eq_true (by first | (with_reducible assumption) | assumption)) (Nat.le_trans (Nat.mul_le_mul_right _ (of_decide_eq_true (by first | (with_reducible assumption) | assumption) : ji4.toNat ≤ 70368744177664)) (by omega)) (Below.refl _ _) (Nat.le_refl _) ?_; intro v301 w11 ho12 hb hg_ hnew_; clear hg_ hnew_; (first | rw [← Ny300.out] at ho12 | (simp only [Int.reduceToNat] at ho12; rw [← Ny300.out] at ho12)); have n0_ := Aside0.mk (Kd.R_lower (Kd.R_newM (M := fun k_ => (w.heap.size ≤ k_)) ho12 (below_size (by repeat (first | (with_reducible first | exact HB.out | apply below_alloc | apply pw_below_drewN | apply below_drew1 | refine below_set ?_ GE298.out | refine below_set ?_ GE299.out) | exact HB.out))) (fun k_ h_ => h_)) (below_size (by repeat (first | (with_reducible first | exact HB.out | apply below_alloc | apply pw_below_drewN | apply below_drew1 | refine below_set ?_ GE298.out | refine below_set ?_ GE299.out) | exact HB.out)))); have n1_ := Aside0.mk (blk_below (g := gb298) (o := .cells #[.slice A0_0 l0_0.length c0_0] 26 (0, 0)) (by (with_reducible repeat (first | refine blk_drewN ?_ _ | refine blk_drew ?_ | refine blk_alloc ?_ _)); exact BK298.out) hb); have n2_ := Aside0.mk (blk_below (g := gb299) (o := .cells #[.slice none 0 0] 26 (0, 0)) (by (with_reducible repeat (first | refine blk_drewN ?_ _ | refine blk_drew ?_ | refine blk_alloc ?_ _)); exact BK299.out) hb); have n3_ := Aside0.mk (below_step (by repeat (first | (with_reducible first | exact HB.out | apply below_alloc | apply pw_below_drewN | apply below_drew1 | refine below_set ?_ GE298.out | refine below_set ?_ GE299.out) | exact HB.out)) hb); clear BK298; clear BK299; clear HB; have HO302 := n0_; have BK298 := n1_; have BK299 := n2_; have HB := n3_; clear n0_ n1_ n2_ n3_; clear hb ho12; have hcz13_0 : w11.cell? ⟨gb298, 0, none⟩ = some (.slice A0_0 l0_0.length c0_0) := (blk_cell BK298.out 0).trans rfl; have hfz13_0 := blk_frozen BK298.out 0))
      go_loopg [8, 21] k (fun kq v8 v21 w' => ∃ (x7_1 : List Int) (x8_1 : Int) (x21_1 : Int), v8 = .int .u64 x8_1 ∧ v21 = .int .i64 x21_1 ∧ Aside0 (nat_Nat_times.l0 kq a1 x7_1 x8_1 l0_0 (l0_0.length : Int) x21_1 l0_0 = some r) ∧ Aside0 (kq ≤ k) ∧ Aside0 (Kd.R (Kd.int .u32) 79 w' w.heap.size (fun k_ => (w.heap.size ≤ k_)) v301 x7_1) ∧ Aside0 (w'.heap[gb298]? = some (.cells #[(.slice A0_0 l0_0.length c0_0)] 26 (0, 0))) ∧ Aside0 (w'.heap[gb299]? = some (.cells #[(.slice none 0 0)] 26 (0, 0))) ∧ Aside0 (Below w.heap.size w w'))
      case atStart => exact ⟨(y300), (IntKind.u64.wrap (a2)), (0), (by first | rfl | (simp; done) | (simp [*]; done) | (simp [i64_w]; done) | (simp [*, i64_w]; done)), (by first | rfl | (simp; done) | (simp [*]; done) | (simp [i64_w]; done) | (simp [*, i64_w]; done)), H', ⟨Nat.le_refl _⟩, ⟨by (with_reducible repeat (first | apply Kd.R_alloc | apply Kd.R_drewN | apply Kd.R_drew)); exact Kd.R_mono HO302.out (fun _ hk => hk.1)⟩, ⟨by (with_reducible repeat (first | refine blk_drewN ?_ _ | refine blk_drew ?_ | refine blk_alloc ?_ _)); exact BK298.out⟩, ⟨by (with_reducible repeat (first | refine blk_drewN ?_ _ | refine blk_drew ?_ | refine blk_alloc ?_ _)); exact BK299.out⟩, ⟨by repeat (first | (with_reducible first | exact HB.out | apply below_alloc | apply pw_below_drewN | apply below_drew1 | refine below_set ?_ GE298.out | refine below_set ?_ GE299.out) | exact HB.out)⟩⟩
      case round =>
        clear H'
        try clear p2
        try clear c4
        try clear c5
        try clear c5b0
        try clear c5b1
        try clear c6
        try clear c6b0
        try clear c6b1
        try clear p6
        try clear c9
        try clear hcz10_0
        try clear hcz13_0
        try clear hfz10_0
        try clear hfz13_0
        obtain ⟨x7_1, x8_1, x21_1, rfl, rfl, HA, HK1, HO_7, BK298, BK299, HB⟩ := hrel
        cases gk with
        | zero => exact absurd HA.out (by simp [nat_Nat_times.l0])
        | succ k1 =>
          have H := HA.out
          clear HA
          simp only [nat_Nat_times.l0] at H
          by_cases c14 : x21_1 < (l0_0.length : Int)
          · rw [if_pos c14] at H
            have c14b0 : decide (x21_1 < (l0_0.length : Int)) = true := decide_eq_true c14
            clear c14
            by_cases c15 : 0 ≤ x21_1
            · rw [if_pos c15] at H
              have c15b0 : decide (0 ≤ x21_1) = true := decide_eq_true c15
              clear c15
              by_cases c16 : x21_1 < (l0_0.length : Int)
              · rw [if_pos c16] at H
                have c16b0 : decide (x21_1 < (l0_0.length : Int)) = true := decide_eq_true c16
                clear c16
                by_cases c17 : x21_1 < (x7_1.length : Int)
                · rw [if_pos c17] at H
                  have c17b0 : decide (x21_1 < (x7_1.length : Int)) = true := decide_eq_true c17
                  clear c17
                  obtain ⟨y304, hy304⟩ : ∃ y_ : List Int, y_ = (x7_1.set (x21_1 : Int).toNat ((IntKind.u64.wrap (x8_1 + (IntKind.u64.wrap ((IntKind.u64.wrap (rd l0_0 x21_1)) * (IntKind.u64.wrap (a1)))))) % 4294967296)) := ⟨_, rfl⟩
                  replace H : (nat_Nat_times.l0 k1 a1 y304 ((IntKind.u64.wrap (x8_1 + (IntKind.u64.wrap ((IntKind.u64.wrap (rd l0_0 x21_1)) * (IntKind.u64.wrap (a1)))))) / 4294967296) l0_0 (l0_0.length : Int) (wrap64 (x21_1 + 1)) l0_0) = some r := by first | (rw [hy304]; with_reducible exact H) | (have H2_ := (Option.bind_some _ _).symm.trans H; rw [hy304]; with_reducible exact H2_) | (have H2_ := (Option.bind_some _ _).symm.trans H; with_reducible exact H2_) | with_reducible exact H | (rw [hy304]; exact H) | exact H
                  have Ny304 := Aside0.mk hy304
                  clear hy304
                  have H' := Aside0.mk H
                  clear H
                  have p303 : 0 ≤ (x21_1 : Int) := of_decide_eq_true (by first | (with_reducible assumption) | assumption)
                  have q303 : x21_1 < (l0_0.length : Int) := of_decide_eq_true (by first | (with_reducible assumption) | assumption)
                  obtain ⟨ad303, e303, hx303_0⟩ := Kd.at_int HR0_0.out x21_1 p303 q303
                  cases e303
                  replace hx303_0 := (HB.out.cell (World.block_lt_of_cell? w _ hx303_0)).trans hx303_0
                  replace p303 := eq_true p303
                  replace q303 := eq_true q303
                  have p18 : 0 ≤ (x21_1 : Int) := of_decide_eq_true (by first | (with_reducible assumption) | assumption)
                  have q18 : (x21_1 : Int) < ((x7_1.length : Int) : Int) := of_decide_eq_true (by first | (with_reducible assumption) | assumption)
                  obtain ⟨go18, co18, eo18, gb18, gl18, cl18, HG18⟩ := Kd.R_form HO_7.out (by omega)
                  (first | cases eo18 | (injection eo18 with ea_ en_ ec_; (first | subst ea_ | (injection ea_ with ea_; subst ea_)); subst ec_; clear en_))
                  have GB18 := Aside0.mk gb18
                  have GG18 := Aside0.mk HG18
                  clear gb18 gl18 HG18
                  obtain ⟨hx18_0, hf18_0⟩ := Kd.R_celln 0 HO_7.out (x21_1 : Int) p18 q18
                  replace p18 := eq_true p18
                  replace q18 := eq_true q18
                  have HP19 := Kd.R_putg HO_7.out (x21_1 : Int) ((IntKind.u64.wrap (x8_1 + (IntKind.u64.wrap ((IntKind.u64.wrap (rd l0_0 x21_1)) * (IntKind.u64.wrap (a1)))))) % 4294967296)
                  go_wp2_with (first | ((with_reducible refine gate_store (t := 79) (p := 37) rfl ?_); refine store_event (t := 79) (p := 37) (v := ?vo_w20) (w1 := (wr.setCell ⟨go18, (x21_1 : Int).toNat, none⟩ (.int .u32 ((IntKind.u64.wrap (x8_1 + (IntKind.u64.wrap ((IntKind.u64.wrap (rd l0_0 x21_1)) * (IntKind.u64.wrap (a1)))))) % 4294967296)))) ?hg ?ho ?hn ?hr ?_; (case ho => rfl); (case hg => rfl); (case hn => rfl); (case hr => first | (go_simp; done) | (go_simp; rfl)); intro w20 hw; have hg : wr.grownBy w20 (some go18) := (by rw [hw]; exact HP19.2); have hp_ : Kd.R (Kd.int .u32) 79 w20 w.heap.size (fun k_ => (w.heap.size ≤ k_)) (.slice (some ⟨go18, 0, none⟩) x7_1.length co18) y304 := (by rw [hw, Ny304.out]; exact HP19.1); clear HP19; have n0_ := Aside0.mk (hp_); have n1_ := Aside0.mk (blk_grown (g := gb298) (o := .cells #[.slice (some ad303) l0_0.length c0_0] 26 (0, 0)) (by (with_reducible repeat (first | refine blk_drewN ?_ _ | refine blk_drew ?_ | refine blk_alloc ?_ _)); exact BK298.out) hg (Kd.R_ne HO_7.out BK298.out (by decide))); have n2_ := Aside0.mk (blk_grown (g := gb299) (o := .cells #[.slice none 0 0] 26 (0, 0)) (by (with_reducible repeat (first | refine blk_drewN ?_ _ | refine blk_drew ?_ | refine blk_alloc ?_ _)); exact BK299.out) hg (Kd.R_ne HO_7.out BK299.out (by decide))); have n3_ := Aside0.mk ((by rw [hw]; exact below_set (HB.out) GB18.out : Below w.heap.size w w20)); clear HO_7; clear BK298; clear BK299; clear HB; have HO_7 := n0_; have BK298 := n1_; have BK299 := n2_; have HB := n3_; clear n0_ n1_ n2_ n3_; clear hg hw hp_))
                  go_roundg k1
                  case measure => have := HK1.out; omega
                  case rel => exact ⟨(y304), ((IntKind.u64.wrap (x8_1 + (IntKind.u64.wrap ((IntKind.u64.wrap (rd l0_0 x21_1)) * (IntKind.u64.wrap (a1)))))) / 4294967296), (wrap64 (x21_1 + 1)), (by first | rfl | (simp; done) | (simp [*]; done) | (simp [i64_w]; done) | (simp [*, i64_w]; done)), (by first | rfl | (simp; done) | (simp [*]; done) | (simp [i64_w]; done) | (simp [*, i64_w]; done)), H', ⟨by have := HK1.out; omega⟩, ⟨by (with_reducible repeat (first | apply Kd.R_alloc | apply Kd.R_drewN | apply Kd.R_drew)); exact HO_7.out⟩, ⟨by (with_reducible repeat (first | refine blk_drewN ?_ _ | refine blk_drew ?_ | refine blk_alloc ?_ _)); exact BK298.out⟩, ⟨by (with_reducible repeat (first | refine blk_drewN ?_ _ | refine blk_drew ?_ | refine blk_alloc ?_ _)); exact BK299.out⟩, ⟨by repeat (first | (with_reducible first | exact HB.out | apply below_alloc | apply pw_below_drewN | apply below_drew1 | refine below_set ?_ GE298.out | refine below_set ?_ GE299.out) | exact HB.out)⟩⟩
                · rw [if_neg c17] at H
                  exact absurd H (by simp)
              · rw [if_neg c16] at H
                exact absurd H (by simp)
            · rw [if_neg c15] at H
              exact absurd H (by simp)
          · rw [if_neg c14] at H
            have c14b0 : decide (x21_1 < (l0_0.length : Int)) = false := decide_eq_false c14
            clear c14
            by_cases c21 : 0 ≤ (l0_0.length : Int)
            · rw [if_pos c21] at H
              have c21b0 : decide (0 ≤ (l0_0.length : Int)) = true := decide_eq_true c21
              have c21b1 : decide (0 ≤ l0_0.length) = true := decide_eq_true (by omega)
              clear c21
              by_cases c22 : (l0_0.length : Int) < (x7_1.length : Int)
              · rw [if_pos c22] at H
                have c22b0 : decide ((l0_0.length : Int) < (x7_1.length : Int)) = true := decide_eq_true c22
                have c22b1 : decide (l0_0.length < x7_1.length) = true := decide_eq_true (Int.ofNat_lt.mp c22)
                clear c22
                obtain ⟨y305, hy305⟩ : ∃ y_ : List Int, y_ = (x7_1.set ((l0_0.length : Int) : Int).toNat ((x8_1) % 4294967296)) := ⟨_, rfl⟩
                replace H : ((nat_cut.f k1 y305).bind fun t306 => (some t306)) = some r := by first | (rw [hy305]; with_reducible exact H) | (have H2_ := (Option.bind_some _ _).symm.trans H; rw [hy305]; with_reducible exact H2_) | (have H2_ := (Option.bind_some _ _).symm.trans H; with_reducible exact H2_) | with_reducible exact H | (rw [hy305]; exact H) | exact H
                have Ny305 := Aside0.mk hy305
                clear hy305
                replace H := Option.bind_eq_some_iff.mp H
                obtain ⟨t306, A240, H⟩ := H
                replace H : (some t306) = some r := H
                have A24 := Aside0.mk A240
                clear A240
                obtain rfl := Option.some.inj H
                have hnb25 := NB298_299.out
                have hnc25 := NB299_298.out
                have hcz26_0 : wr.cell? ⟨gb298, 0, none⟩ = some (.slice A0_0 l0_0.length c0_0) := (blk_cell BK298.out 0).trans rfl
                have hfz26_0 := blk_frozen BK298.out 0
                have p23 : 0 ≤ ((l0_0.length : Int) : Int) := of_decide_eq_true (by first | (with_reducible assumption) | assumption)
                have q23 : ((l0_0.length : Int) : Int) < ((x7_1.length : Int) : Int) := of_decide_eq_true (by first | (with_reducible assumption) | assumption)
                obtain ⟨go23, co23, eo23, gb23, gl23, cl23, HG23⟩ := Kd.R_form HO_7.out (by omega)
                (first | cases eo23 | (injection eo23 with ea_ en_ ec_; (first | subst ea_ | (injection ea_ with ea_; subst ea_)); subst ec_; clear en_))
                have GB23 := Aside0.mk gb23
                have GG23 := Aside0.mk HG23
                clear gb23 gl23 HG23
                obtain ⟨hx23_0, hf23_0⟩ := Kd.R_celln 0 HO_7.out ((l0_0.length : Int) : Int) p23 q23
                simp only [Int.toNat_natCast] at hx23_0 hf23_0
                replace p23 := eq_true p23
                replace q23 := eq_true q23
                have HP27 := Kd.R_putg HO_7.out ((l0_0.length : Int) : Int) ((x8_1) % 4294967296)
                go_wp2_with (first | ((with_reducible refine gate_store (t := 79) (p := 47) rfl ?_); refine store_event (t := 79) (p := 47) (v := ?vo_w28) (w1 := (wr.setCell ⟨go23, ((l0_0.length : Int) : Int).toNat, none⟩ (.int .u32 ((x8_1) % 4294967296)))) ?hg ?ho ?hn ?hr ?_; (case ho => rfl); (case hg => rfl); (case hn => rfl); (case hr => first | (go_simp; done) | (go_simp; rfl)); intro w28 hw; have hg : wr.grownBy w28 (some go23) := (by rw [hw]; exact HP27.2); have hp_ : Kd.R (Kd.int .u32) 79 w28 w.heap.size (fun k_ => (w.heap.size ≤ k_)) (.slice (some ⟨go23, 0, none⟩) x7_1.length co23) y305 := (by rw [hw, Ny305.out]; exact HP27.1); clear HP27; have n0_ := Aside0.mk (hp_); have n1_ := Aside0.mk (blk_grown (g := gb298) (o := .cells #[.slice A0_0 l0_0.length c0_0] 26 (0, 0)) (by (with_reducible repeat (first | refine blk_drewN ?_ _ | refine blk_drew ?_ | refine blk_alloc ?_ _)); exact BK298.out) hg (Kd.R_ne HO_7.out BK298.out (by decide))); have n2_ := Aside0.mk (blk_grown (g := gb299) (o := .cells #[.slice none 0 0] 26 (0, 0)) (by (with_reducible repeat (first | refine blk_drewN ?_ _ | refine blk_drew ?_ | refine blk_alloc ?_ _)); exact BK299.out) hg (Kd.R_ne HO_7.out BK299.out (by decide))); have n3_ := Aside0.mk ((by rw [hw]; exact below_set (HB.out) GB23.out : Below w.heap.size w w28)); clear HO_7; clear BK298; clear BK299; clear HB; have HO_7 := n0_; have BK298 := n1_; have BK299 := n2_; have HB := n3_; clear n0_ n1_ n2_ n3_; clear hg hw hp_) | ((with_reducible refine gate_callee (f := 60) rfl ?_); refine goesL_ (some 49) rfl rfl Tryd.func60 (by kernel_rfl) rfl #[.slice (some ⟨go23, 0, none⟩) y305.length co23] rfl (by (try simp only [List.map_toArray, List.map_cons, List.map_nil]); first | done | (rw [show y305.length = x7_1.length from (Kd.R_reads' HO_7.out).1.symm] <;> rfl) | rfl | (simp only [List.length_drop, List.length_take]; rfl)) ?_; (with_reducible refine (nat_cut.calls k1 (fun k_ => some k_ = (.slice (some ⟨go23, 0, none⟩) x7_1.length co23 : Value).ownBlock) _ _ y305 t306 _ ?side1 A24.out).mono ?_); (case side1 => rw [show y305.length = x7_1.length from (Kd.R_reads' HO_7.out).1.symm]; exact Kd.R_V (Kd.R_tight rfl (Kd.R_types (Kd.R_types (HO_7.out) BK298.out (by decide)) BK299.out (by decide)))); rintro e w29 ⟨v307, rfl, ho0, hb⟩; refine ⟨_, rfl, ?_⟩; have n0_ := Aside0.mk (Kd.R_below (by (with_reducible repeat (first | apply Kd.R_alloc | apply Kd.R_drewN | apply Kd.R_drew)); exact HO_7.out) hb); have n1_ := Aside0.mk (Kd.V_lower (Kd.V_mono (ok' := fun k_ => (w.heap.size ≤ k_) ∧ k_ ≠ gb298 ∧ k_ ≠ gb299) ho0 (fun k_ hk_ => ⟨Or.elim hk_ (fun hs_ => ((Kd.R_types (Kd.R_types (HO_7.out) BK298.out (by decide)) BK299.out (by decide)).1 k_ hs_.symm).1.1) (fun hn_ => (Nat.le_trans (below_size (by repeat (first | (with_reducible first | exact HB.out | apply below_alloc | apply pw_below_drewN | apply below_drew1 | refine below_set ?_ GE298.out | refine below_set ?_ GE299.out) | exact HB.out))) hn_)), Or.elim hk_ (fun hs_ => ((Kd.R_types (Kd.R_types (HO_7.out) BK298.out (by decide)) BK299.out (by decide)).1 k_ hs_.symm).1.2) (fun hn_ => (Kd.freshB (g := gb298) (o := .cells #[.slice A0_0 l0_0.length c0_0] 26 (0, 0)) (by (with_reducible repeat (first | refine blk_drewN ?_ _ | refine blk_drew ?_ | refine blk_alloc ?_ _)); exact BK298.out) k_ hn_)), Or.elim hk_ (fun hs_ => ((Kd.R_types (Kd.R_types (HO_7.out) BK298.out (by decide)) BK299.out (by decide)).1 k_ hs_.symm).2) (fun hn_ => (Kd.freshB (g := gb299) (o := .cells #[.slice none 0 0] 26 (0, 0)) (by (with_reducible repeat (first | refine blk_drewN ?_ _ | refine blk_drew ?_ | refine blk_alloc ?_ _)); exact BK299.out) k_ hn_))⟩)) (below_size (by repeat (first | (with_reducible first | exact HB.out | apply below_alloc | apply pw_below_drewN | apply below_drew1 | refine below_set ?_ GE298.out | refine below_set ?_ GE299.out) | exact HB.out)))); have n2_ := Aside0.mk (blk_below (g := gb298) (o := .cells #[.slice A0_0 l0_0.length c0_0] 26 (0, 0)) (by (with_reducible repeat (first | refine blk_drewN ?_ _ | refine blk_drew ?_ | refine blk_alloc ?_ _)); exact BK298.out) hb); have n3_ := Aside0.mk (blk_below (g := gb299) (o := .cells #[.slice none 0 0] 26 (0, 0)) (by (with_reducible repeat (first | refine blk_drewN ?_ _ | refine blk_drew ?_ | refine blk_alloc ?_ _)); exact BK299.out) hb); have n4_ := Aside0.mk (below_step (by repeat (first | (with_reducible first | exact HB.out | apply below_alloc | apply pw_below_drewN | apply below_drew1 | refine below_set ?_ GE298.out | refine below_set ?_ GE299.out) | exact HB.out)) hb); clear HO_7; clear BK298; clear BK299; clear HB; have HO_7 := n0_; have HO308 := n1_; have BK298 := n2_; have BK299 := n3_; have HB := n4_; clear n0_ n1_ n2_ n3_ n4_; (try clear hb); (try clear hb2); (try clear hk); (try clear hi); (try clear ho0); obtain ⟨Ao30, co30, eo30⟩ := Kd.V_slice HO308.out; subst eo30; have hcz31_0 : w29.cell? ⟨gb299, 0, none⟩ = some (.slice none 0 0) := (blk_cell BK299.out 0).trans rfl; have hfz31_0 := blk_frozen BK299.out 0))
                refine bodyPost_ret (results_cell_row rfl _ _ gb299 26 #[.slice Ao30 t306.length co30] (0, 0) _ rfl (by (with_reducible repeat (first | refine blk_drewN ?_ _ | refine blk_drew ?_ | refine blk_alloc ?_ _)); refine blk_put (cs := #[.slice none 0 0]) ?_ 0 _ rfl; (with_reducible repeat (first | refine blk_drewN ?_ _ | refine blk_drew ?_ | refine blk_alloc ?_ _)); exact BK299.out) Tryd.underlying26 rfl (by kernel_rfl)) rfl ?_
                exact ⟨_, by first | rfl | (simp [errW_none, errW_some] <;> rfl) | (simp only [← hji4]; first | rfl | (simp [errW_none, errW_some] <;> rfl)) | (simp [*, errW_none, errW_some] <;> rfl), by (with_reducible repeat (first | apply Kd.V_alloc | apply Kd.V_drewN | apply Kd.V_drew)); exact Kd.V_mono (Kd.V_far (p := ⟨gb299, 0, none⟩) (Kd.V_mono HO308.out (fun k_ hk => (⟨hk, hk.2.2⟩ : _ ∧ k_ ≠ gb299))) (fun _ hk => hk.2) (.slice Ao30 t306.length co30)) (fun _ hk => hk.1.1), by repeat (first | (with_reducible first | exact HB.out | apply below_alloc | apply pw_below_drewN | apply below_drew1 | refine below_set ?_ GE298.out | refine below_set ?_ GE299.out) | exact HB.out)⟩
              · rw [if_neg c22] at H
                exact absurd H (by simp)
            · rw [if_neg c21] at H
              exact absurd H (by simp)
    · rw [if_neg c6] at H
      exact absurd H (by simp)
  · rw [if_neg c5] at H
    exact absurd H (by simp)
end Go.Proofs.YtgcngbmkgjphpaaDoor.PAll
end

section
namespace Go.Proofs.YtgcngbmkgjphpaaDoor.PAll
open Go.RowKit Go.Proofs.YtgcngbmkgjphpaaDoorW.PrintWords Go.Proofs.YtgcngbmkgjphpaaDoorW.PrintLast Go.Proofs.YtgcngbmkgjphpaaDoorW.PrintMore
attribute [local go_sem] max2_int min2_int max_two min_two max_three min_three max_four min_four   -- for this text's walks alone
set_option linter.unusedVariables false
set_option linter.unusedSimpArgs false
def bits_Add32.f (a0 : Int) (a1 : Int) (a2 : Int) : Option (Int × Int) := some ((IntKind.u64.wrap ((IntKind.u64.wrap ((IntKind.u64.wrap (a0)) + (IntKind.u64.wrap (a1)))) + (IntKind.u64.wrap (a2)))) % 4294967296, ((IntKind.u64.wrap ((IntKind.u64.wrap ((IntKind.u64.wrap (a0)) + (IntKind.u64.wrap (a1)))) + (IntKind.u64.wrap (a2)))) / 4294967296) % 4294967296)
set_option maxHeartbeats 8000000 in
set_option maxRecDepth 100000 in
theorem bits_Add32.calls (a0 : Int) (a1 : Int) (a2 : Int) (r1 : Int) (r2 : Int) (w : World) (h : bits_Add32.f a0 a1 a2 = some (r1, r2)) :
    Calls Tryd.prog 57 #[.int .u32 a0, .int .u32 a1, .int .u32 a2] w fun e w' => e = .returned (.tuple #[.int .u32 r1, .int .u32 r2]) ∧ Drawn0 w w' := by
  have H : (some ((IntKind.u64.wrap ((IntKind.u64.wrap ((IntKind.u64.wrap (a0)) + (IntKind.u64.wrap (a1)))) + (IntKind.u64.wrap (a2)))) % 4294967296, ((IntKind.u64.wrap ((IntKind.u64.wrap ((IntKind.u64.wrap (a0)) + (IntKind.u64.wrap (a1)))) + (IntKind.u64.wrap (a2)))) / 4294967296) % 4294967296)) = some (r1, r2) := h
  clear h
  simp only [Option.some.injEq, Prod.mk.injEq] at H
  obtain ⟨rfl, rfl⟩ := H
  go_enter Tryd.func57, Tryd.ntmps57
  go_wp2
  go_ret2
  exact ⟨by first | rfl | (simp; done) | (simp [*]; done), by repeat (first | exact Drawn0.refl _ | apply Drawn0.step)⟩
def nat_Nat_part.f (l0_0 : List Int) (a1 : Int) : Option (Int) := if a1 < (l0_0.length : Int) then (if 0 ≤ a1 then (some (rd l0_0 a1)) else (none)) else (some 0)
set_option maxHeartbeats 8000000 in
set_option maxRecDepth 100000 in
theorem nat_Nat_part.calls (A0_0 : Option Addr) (c0_0 : Nat) (l0_0 : List Int) (a1 : Int) (r : Int) (w : World) (hr0_0 : Kd.C (Kd.int .u32) w A0_0 l0_0.length l0_0) (hc0_0 : l0_0.length ≤ c0_0) (h : nat_Nat_part.f l0_0 a1 = some r) :
    Calls Tryd.prog 58 #[.agg #[.slice A0_0 l0_0.length c0_0], .int .i64 a1] w fun e w' => e = .returned (.int .u32 r) ∧ Below w.heap.size w w' := by
  have hu26 := Tryd.underlying26
  have HR0_0 := Aside0.mk hr0_0
  have HC0_0 := Aside0.mk hc0_0
  clear hr0_0 hc0_0
  have HB := Aside0.mk (Below.refl w.heap.size w)
  have H : (if a1 < (l0_0.length : Int) then (if 0 ≤ a1 then (some (rd l0_0 a1)) else (none)) else (some 0)) = some r := h
  clear h
  by_cases c3 : a1 < (l0_0.length : Int)
  · rw [if_pos c3] at H
    have c3b0 : decide (a1 < (l0_0.length : Int)) = true := decide_eq_true c3
    clear c3
    by_cases c4 : 0 ≤ a1
    · rw [if_pos c4] at H
      have c4b0 : decide (0 ≤ a1) = true := decide_eq_true c4
      clear c4
      obtain rfl := Option.some.inj H
      go_enter Tryd.func58, Tryd.ntmps58
      go_wp2_with (first | ((with_reducible refine gate_dst (N := 2) rfl ?_); refine box_event ?hg (N := 2) ?hd (cs := #[.slice A0_0 l0_0.length c0_0]) (t := 26) ?hr ?_; (case hd => rfl); (case hg => rfl); (case hr => first | (go_simp; done) | (go_simp; rfl)); intro gb464 hg w5 hbox hb; have n0_ := Aside0.mk (below_step (by repeat (first | (with_reducible first | exact HB.out | apply below_alloc | apply pw_below_drewN | apply below_drew1) | exact HB.out)) hb); have n1_ := Aside0.mk (hbox); have n2_ := Aside0.mk ((by rw [hg]; exact (below_size (by repeat (first | (with_reducible first | exact HB.out | apply below_alloc | apply pw_below_drewN | apply below_drew1) | exact HB.out))) : w.heap.size ≤ gb464)); have n3_ := Aside0.mk ((by rw [hg]; exact (below_size (by repeat (first | (with_reducible first | exact HB.out | apply below_alloc | apply pw_below_drewN | apply below_drew1) | exact HB.out))) : w.heap.size ≤ gb464)); clear HB; have HB := n0_; have BK464 := n1_; have GW464 := n2_; have GE464 := n3_; clear n0_ n1_ n2_ n3_; clear hb hbox hg; have hcz6_0 : w5.cell? ⟨gb464, 0, none⟩ = some (.slice A0_0 l0_0.length c0_0) := (blk_cell BK464.out 0).trans rfl; have hfz6_0 := blk_frozen BK464.out 0; have p465 : 0 ≤ (a1 : Int) := of_decide_eq_true (by first | (with_reducible assumption) | assumption); have q465 : a1 < (l0_0.length : Int) := of_decide_eq_true (by first | (with_reducible assumption) | assumption); obtain ⟨ad465, e465, hx465_0⟩ := Kd.at_int HR0_0.out a1 p465 q465; cases e465; replace hx465_0 := (HB.out.cell (World.block_lt_of_cell? w _ hx465_0)).trans hx465_0; replace p465 := eq_true p465; replace q465 := eq_true q465))
      go_ret
      exact ⟨by first | rfl | (simp [errW_none, errW_some] <;> rfl) | (simp [*, errW_none, errW_some] <;> rfl), by repeat (first | (with_reducible first | exact HB.out | apply below_alloc | apply pw_below_drewN | apply below_drew1 | refine below_set ?_ GE464.out) | exact HB.out)⟩
    · rw [if_neg c4] at H
      exact absurd H (by simp)
  · rw [if_neg c3] at H
    have c3b0 : decide (a1 < (l0_0.length : Int)) = false := decide_eq_false c3
    clear c3
    obtain rfl := Option.some.inj H
    go_enter Tryd.func58, Tryd.ntmps58
    go_wp2_with (first | ((with_reducible refine gate_dst (N := 2) rfl ?_); refine box_event ?hg (N := 2) ?hd (cs := #[.slice A0_0 l0_0.length c0_0]) (t := 26) ?hr ?_; (case hd => rfl); (case hg => rfl); (case hr => first | (go_simp; done) | (go_simp; rfl)); intro gb464 hg w7 hbox hb; have n0_ := Aside0.mk (below_step (by repeat (first | (with_reducible first | exact HB.out | apply below_alloc | apply pw_below_drewN | apply below_drew1) | exact HB.out)) hb); have n1_ := Aside0.mk (hbox); have n2_ := Aside0.mk ((by rw [hg]; exact (below_size (by repeat (first | (with_reducible first | exact HB.out | apply below_alloc | apply pw_below_drewN | apply below_drew1) | exact HB.out))) : w.heap.size ≤ gb464)); have n3_ := Aside0.mk ((by rw [hg]; exact (below_size (by repeat (first | (with_reducible first | exact HB.out | apply below_alloc | apply pw_below_drewN | apply below_drew1) | exact HB.out))) : w.heap.size ≤ gb464)); clear HB; have HB := n0_; have BK464 := n1_; have GW464 := n2_; have GE464 := n3_; clear n0_ n1_ n2_ n3_; clear hb hbox hg; have hcz8_0 : w7.cell? ⟨gb464, 0, none⟩ = some (.slice A0_0 l0_0.length c0_0) := (blk_cell BK464.out 0).trans rfl; have hfz8_0 := blk_frozen BK464.out 0))
    go_ret
    exact ⟨by first | rfl | (simp [errW_none, errW_some] <;> rfl) | (simp [*, errW_none, errW_some] <;> rfl), by repeat (first | (with_reducible first | exact HB.out | apply below_alloc | apply pw_below_drewN | apply below_drew1 | refine below_set ?_ GE464.out) | exact HB.out)⟩
end Go.Proofs.YtgcngbmkgjphpaaDoor.PAll
end

section
namespace Go.Proofs.YtgcngbmkgjphpaaDoor.Nums
open Go.RowKit Go.Proofs.YtgcngbmkgjphpaaDoor.PAll Go.Proofs.YtgcngbmkgjphpaaDoorW.PrintWords Go.Proofs.YtgcngbmkgjphpaaDoorW.PrintLast Go.Proofs.YtgcngbmkgjphpaaDoorW.PrintMore
set_option linter.unusedVariables false
set_option linter.unusedSimpArgs false
theorem wrap_in {a : Int} (h0 : -9223372036854775808 ≤ a) (h1 : a ≤ 9223372036854775807) : wrap64 a = a := by unfold wrap64; omega
theorem u64_in {a : Int} (h0 : 0 ≤ a) (h1 : a < 18446744073709551616) : IntKind.u64.wrap a = a := by
  have e : IntKind.u64.wrap a = a % 18446744073709551616 := rfl
  rw [e]; omega
theorem rd_at (l : List Int) (i : Nat) (h : i < l.length) : rd l (i : Int) = l[i] := by simp [rd, h]
theorem rd_out (l : List Int) (i : Nat) (h : l.length ≤ i) : rd l (i : Int) = 0 := by simp [rd, h]
theorem rd_dgs {b n : Nat} (hb : 2 ≤ b) (i : Nat) : rd (dgs b n) (i : Int) = ((n / b ^ i % b : Nat) : Int) := by
  by_cases h : i < (dgs b n).length
  · rw [rd_at _ _ h, dgs_get hb h]
  · rw [rd_out _ _ (by omega)]
    have := dgs_lt_len (n := n) (i := i) hb
    have e : n / b ^ i = 0 := by
      rcases Nat.eq_zero_or_pos (n / b ^ i) with g | g
      · exact g
      · exact absurd (this.mpr (by omega)) h
    rw [e, Nat.zero_mod]; rfl
theorem rd_dn {b : Nat} {i c v : Nat} (h : i < c) : rd (dn b c v) (i : Int) = ((v / b ^ i % b : Nat) : Int) := by
  rw [rd_at _ _ (by rw [dn_length]; exact h), dn_get h]
theorem rd_snoc (a : List Int) (x : Int) : rd (a ++ [x]) (a.length : Int) = x := by rw [rd_at _ _ (by simp)]; simp
/-- The bits of two numbers that do not meet. -/
theorem or64 {s a c : Nat} (hc : c < 2 ^ s) (h : 2 ^ s * a + c < 18446744073709551616) : Go.bits .or .u64 ((2 ^ s * a : Nat) : Int) (c : Int) = ((2 ^ s * a + c : Nat) : Int) := by
  show IntKind.u64.wrap ((BitVec.ofInt 64 ((2 ^ s * a : Nat) : Int) ||| BitVec.ofInt 64 (c : Int)).toNat : Int) = _
  rw [BitVec.toNat_or, BitVec.ofInt_natCast, BitVec.ofInt_natCast, BitVec.toNat_ofNat, BitVec.toNat_ofNat, Nat.mod_eq_of_lt (by omega), Nat.mod_eq_of_lt (by omega), or_add hc]
  rw [u64_in (by omega) (by omega)]
theorem cut_ev : ∀ (n : Nat) (l : List Int) (v : Nat), l.length = n → n ≤ 9223372036854775807 → Dg (4294967296 : Nat) l → vl (4294967296 : Nat) l = v → Ev (fun k => nat_cut.f k l) (dgs 4294967296 v) := by
  intro n
  induction n with
  | zero =>
    intro l v hl hn hd hv
    obtain rfl : l = [] := List.length_eq_zero_iff.mp hl
    simp only [vl] at hv
    obtain rfl : v = 0 := by omega
    refine Ev.step (f := fun k => some (dgs 4294967296 0)) (fun k => ?_) (Ev.now _)
    show nat_cut.l0 (k + 1) [] = _
    rw [nat_cut.l0, if_neg (by simp)]
    simp [dgs_zero]
  | succ n ih =>
    intro l v hl hn hd hv
    rcases List.eq_nil_or_concat l with e | ⟨a, x, e⟩
    · subst e; simp at hl
    rw [List.concat_eq_append] at e
    subst e
    have hla : a.length = n := by simpa using hl
    have hw : wrap64 (((a ++ [x]).length : Int) - 1) = (a.length : Int) := by rw [List.length_append, List.length_singleton, wrap_in (by omega) (by omega)]; omega
    have hlen : ((a ++ [x]).length : Int) = (a.length : Int) + 1 := by simp
    by_cases hx : x = 0
    · subst hx
      refine Ev.step (f := fun k => nat_cut.f k a) (fun k => ?_) (ih a v hla (by omega) hd.left (by rwa [vl_snoc_zero] at hv))
      show nat_cut.l0 (k + 1) (a ++ [0]) = nat_cut.l0 k a
      rw [nat_cut.l0, hw, hlen, if_pos (by omega), if_pos (by omega), if_pos (by omega), rd_snoc, if_pos rfl, if_pos (by omega)]
      simp
    · have hz : Nz (a ++ [x]) := by
        unfold Nz; rw [List.getLast?_concat]; intro e; exact hx (Option.some.inj e)
      refine Ev.step (f := fun k => some (dgs 4294967296 v)) (fun k => ?_) (Ev.now _)
      show nat_cut.l0 (k + 1) (a ++ [x]) = _
      rw [nat_cut.l0, hw, hlen, if_pos (by omega), if_pos (by omega), if_pos (by omega), rd_snoc, if_neg hx]
      rw [eq_dgs (b := 4294967296) (by omega) hd hz, hv]
      simp
theorem rcut_ev : ∀ (n : Nat) (l : List Int) (v : Nat), l.length = n → n ≤ 9223372036854775807 → Dg (65536 : Nat) l → vl (65536 : Nat) l = v → Ev (fun k => heraldref04_cut.f k l) (dgs 65536 v) := by
  intro n
  induction n with
  | zero =>
    intro l v hl hn hd hv
    obtain rfl : l = [] := List.length_eq_zero_iff.mp hl
    simp only [vl] at hv
    obtain rfl : v = 0 := by omega
    refine Ev.step (f := fun k => some (dgs 65536 0)) (fun k => ?_) (Ev.now _)
    show heraldref04_cut.l0 (k + 1) [] = _
    rw [heraldref04_cut.l0, if_neg (by simp)]
    simp [dgs_zero]
  | succ n ih =>
    intro l v hl hn hd hv
    rcases List.eq_nil_or_concat l with e | ⟨a, x, e⟩
    · subst e; simp at hl
    rw [List.concat_eq_append] at e
    subst e
    have hla : a.length = n := by simpa using hl
    have hw : wrap64 (((a ++ [x]).length : Int) - 1) = (a.length : Int) := by rw [List.length_append, List.length_singleton, wrap_in (by omega) (by omega)]; omega
    have hlen : ((a ++ [x]).length : Int) = (a.length : Int) + 1 := by simp
    by_cases hx : x = 0
    · subst hx
      refine Ev.step (f := fun k => heraldref04_cut.f k a) (fun k => ?_) (ih a v hla (by omega) hd.left (by rwa [vl_snoc_zero] at hv))
      show heraldref04_cut.l0 (k + 1) (a ++ [0]) = heraldref04_cut.l0 k a
      rw [heraldref04_cut.l0, hw, hlen, if_pos (by omega), if_pos (by omega), if_pos (by omega), rd_snoc, if_pos rfl, if_pos (by omega)]
      simp
    · have hz : Nz (a ++ [x]) := by
        unfold Nz; rw [List.getLast?_concat]; intro e; exact hx (Option.some.inj e)
      refine Ev.step (f := fun k => some (dgs 65536 v)) (fun k => ?_) (Ev.now _)
      show heraldref04_cut.l0 (k + 1) (a ++ [x]) = _
      rw [heraldref04_cut.l0, hw, hlen, if_pos (by omega), if_pos (by omega), if_pos (by omega), rd_snoc, if_neg hx]
      rw [eq_dgs (b := 65536) (by omega) hd hz, hv]
      simp
theorem cut_dn {L v : Nat} (hL : L ≤ 9223372036854775807) (hv : v < 4294967296 ^ L) : Ev (fun k => nat_cut.f k (dn 4294967296 L v)) (dgs 4294967296 v) :=
  cut_ev L _ v (dn_length _ _ _) hL (dn_dg (by omega) _ _) (vl_dn (by omega) _ _ hv)
theorem rcut_dn {L v : Nat} (hL : L ≤ 9223372036854775807) (hv : v < 65536 ^ L) : Ev (fun k => heraldref04_cut.f k (dn 65536 L v)) (dgs 65536 v) :=
  rcut_ev L _ v (dn_length _ _ _) hL (dn_dg (by omega) _ _) (vl_dn (by omega) _ _ hv)
theorem of_ev (n : Nat) (h : n < 18446744073709551616) : Ev (fun k => nat_of.f k (n : Int)) (dgs 4294967296 n) := by
  have e : ([((n : Int)) % 4294967296, ((n : Int) / 4294967296) % 4294967296] : List Int) = dn 4294967296 2 n := by
    rw [show dn 4294967296 2 n = [((n % 4294967296 : Nat) : Int), ((n / 4294967296 % 4294967296 : Nat) : Int)] from rfl, Int.natCast_emod, Int.natCast_emod, Int.natCast_ediv]
    rfl
  have := (cut_dn (L := 2) (v := n) (by omega) (by omega)).bind (f := fun _ t => some t) (Ev.now _)
  refine Ev.congr (fun k => ?_) this
  unfold nat_of.f
  rw [e]
/-- The bits of a number of the program. -/
theorem bits_some {n : Nat} (h : (dgs 4294967296 n).length ≤ 72057594037927936) : nat_Nat_Bits.f (dgs 4294967296 n) = some ((bl n : Nat) : Int) := by
  unfold nat_Nat_Bits.f
  by_cases hn : n = 0
  · subst hn; rw [if_pos (by simp [dgs_zero])]; rfl
  · have h0 := dgs_len_pos (b := 4294967296) (n := n) (by omega) hn
    have hw : wrap64 (((dgs 4294967296 n).length : Int) - 1) = (((dgs 4294967296 n).length - 1 : Nat) : Int) := by rw [wrap_in (by omega) (by omega)]; omega
    have hbl := bl_dgs (w := 32) (n := n) (by omega) hn
    rw [show (2 : Nat) ^ 32 = 4294967296 from rfl] at hbl
    have hlt := Nat.mod_lt (n / 4294967296 ^ ((dgs 4294967296 n).length - 1)) (show 0 < 4294967296 by omega)
    have hb32 : bl (n / 4294967296 ^ ((dgs 4294967296 n).length - 1) % 4294967296) ≤ 32 := bl_le.mpr (by rw [show (2 : Nat) ^ 32 = 4294967296 from rfl]; exact hlt)
    have hl : bits_Len32.f ((n / 4294967296 ^ ((dgs 4294967296 n).length - 1) % 4294967296 : Nat) : Int) = some ((bl (n / 4294967296 ^ ((dgs 4294967296 n).length - 1) % 4294967296) : Nat) : Int) := by
      unfold bits_Len32.f lenI bl
      rw [if_pos (by omega)]
      congr 1
      generalize n / 4294967296 ^ ((dgs 4294967296 n).length - 1) % 4294967296 = t
      by_cases ht : t = 0
      · subst ht; rfl
      · rw [if_neg (by omega), if_neg ht]
        simp
    obtain ⟨T, hT⟩ : ∃ T, n / 4294967296 ^ ((dgs 4294967296 n).length - 1) % 4294967296 = T := ⟨_, rfl⟩
    rw [hT] at hbl hlt hb32 hl
    rw [if_neg (by omega), hw, if_pos (by omega), if_pos (by omega), rd_dgs (by omega), hT, hl]
    simp only [Option.bind_some]
    have e1 : wrap64 (32 * (((dgs 4294967296 n).length - 1 : Nat) : Int)) = ((32 * ((dgs 4294967296 n).length - 1) : Nat) : Int) := by
      rw [wrap_in (by omega) (by omega)]; push_cast; rfl
    rw [e1, wrap_in (by omega) (by omega), hbl]
    congr 1
/-- How long a number of so many bits is. -/
theorem pd_len {n k : Nat} (h : bl n ≤ 32 * k) : (dgs 4294967296 n).length ≤ k := by
  rw [dgs_len_le (by omega), show (4294967296 : Nat) = 2 ^ 32 from rfl, ← Nat.pow_mul]
  exact bl_le.mp h
theorem rg_len {n k : Nat} (h : bl n ≤ 16 * k) : (dgs 65536 n).length ≤ k := by
  rw [dgs_len_le (by omega), show (65536 : Nat) = 2 ^ 16 from rfl, ← Nat.pow_mul]
  exact bl_le.mp h
/-- A number that is not too big. -/
theorem checked_some {n : Nat} (h : (dgs 4294967296 n).length ≤ 72057594037927936) : nat_checked.f (dgs 4294967296 n) = some (if bl n ≤ 65536 then (dgs 4294967296 n, 0) else ([], 41)) := by
  unfold nat_checked.f
  rw [bits_some h]
  simp only [Option.bind_some]
  by_cases g : bl n ≤ 65536
  · rw [if_neg (by omega), if_pos g]
  · rw [if_pos (by omega), if_neg g]
theorem part_some (n i : Nat) : nat_Nat_part.f (dgs 4294967296 n) (i : Int) = some ((n / 4294967296 ^ i % 4294967296 : Nat) : Int) := by
  unfold nat_Nat_part.f
  by_cases h : i < (dgs 4294967296 n).length
  · rw [if_pos (by omega), if_pos (by omega), rd_dgs (by omega)]
  · rw [if_neg (by omega), ← rd_dgs (by omega), rd_out _ _ (by omega)]
theorem at_some (n i : Nat) : heraldref04_at.f (dgs 65536 n) (i : Int) = some ((n / 65536 ^ i % 65536 : Nat) : Int) := by
  unfold heraldref04_at.f
  by_cases h : i < (dgs 65536 n).length
  · rw [if_pos (by omega), if_pos (by omega), rd_dgs (by omega)]
  · rw [if_neg (by omega), ← rd_dgs (by omega), rd_out _ _ (by omega)]
end Go.Proofs.YtgcngbmkgjphpaaDoor.Nums
end

section
namespace Go.Proofs.YtgcngbmkgjphpaaDoor.Nums
open Go.RowKit Go.Proofs.YtgcngbmkgjphpaaDoor.PAll Go.Proofs.YtgcngbmkgjphpaaDoorW.PrintWords Go.Proofs.YtgcngbmkgjphpaaDoorW.PrintLast Go.Proofs.YtgcngbmkgjphpaaDoorW.PrintMore
set_option linter.unusedVariables false
set_option linter.unusedSimpArgs false
theorem rep_dn (b L : Nat) (x : Int) (h : x = (L : Int)) : List.replicate x.toNat (0 : Int) = dn b L 0 := by
  subst h; rw [Int.toNat_natCast, dn_zero]
theorem by_loop (n d L : Nat) (hd : 0 < d) (hd2 : d < 4294967296) (hL : n < 4294967296 ^ L) (hlen : L = (dgs 4294967296 n).length) (hsz : L ≤ 72057594037927936) : ∀ i : Nat, i ≤ L →
    Ev (fun k => nat_Nat_by.l0 k (d : Int) (dn 4294967296 L (4294967296 ^ i * (n / 4294967296 ^ i / d))) ((n / 4294967296 ^ i % d : Nat) : Int) ((i : Int) - 1) (dgs 4294967296 n)) (dgs 4294967296 (n / d), ((n % d : Nat) : Int)) := by
  intro i
  induction i with
  | zero =>
    intro _
    have hv : n / d < 4294967296 ^ L := Nat.lt_of_le_of_lt (Nat.div_le_self _ _) hL
    have := (cut_dn (by omega) hv).bind (f := fun _ t => some (t, ((n % d : Nat) : Int) % 4294967296)) (Ev.now _)
    have hm := Nat.mod_lt n hd
    rw [show ((n % d : Nat) : Int) % 4294967296 = ((n % d : Nat) : Int) by omega] at this
    refine Ev.step (fun k => ?_) this
    rw [nat_Nat_by.l0, if_neg (by omega)]
    simp only [Nat.pow_zero, Nat.div_one, Nat.one_mul]
    rw [show ((n % d : Nat) : Int) % 4294967296 = ((n % d : Nat) : Int) by omega]
  | succ i ih =>
    intro hi
    refine Ev.step (fun k => ?_) (ih (by omega))
    obtain ⟨l1, l2, l3⟩ := ldiv (M := n / 4294967296 ^ i) (show 0 < 4294967296 by omega) hd
    rw [Nat.div_div_eq_div_mul (n / 4294967296 ^ i)] at l1
    have e1 : n / 4294967296 ^ i / 4294967296 = n / 4294967296 ^ (i + 1) := by rw [Nat.div_div_eq_div_mul, ← Nat.pow_succ]
    rw [← Nat.div_div_eq_div_mul, e1] at l1
    rw [e1] at l2 l3
    have hr := Nat.mod_lt (n / 4294967296 ^ (i + 1)) hd
    have hx := Nat.mod_lt (n / 4294967296 ^ i) (show 0 < 4294967296 by omega)
    rw [nat_Nat_by.l0, if_pos (by omega), if_pos (by omega), if_pos (by omega), u64_in (a := (d : Int)) (by omega) (by omega), if_neg (by omega), dn_length, if_pos (by omega)]
    rw [show ((i + 1 : Nat) : Int) - 1 = (i : Int) by omega, rd_dgs (by omega), wrap_in (a := (i : Int) - 1) (by omega) (by omega)]
    generalize hR : n / 4294967296 ^ (i + 1) % d = R at *
    generalize hX : n / 4294967296 ^ i % 4294967296 = X at *
    have o : Go.bits .or .u64 (IntKind.u64.wrap ((R : Int) * 4294967296)) (IntKind.u64.wrap (X : Int)) = ((R * 4294967296 + X : Nat) : Int) := by
      rw [u64_in (a := (R : Int) * 4294967296) (by omega) (by omega), u64_in (a := (X : Int)) (by omega) (by omega)]
      have := or64 (s := 32) (a := R) (c := X) (by omega) (by omega)
      rw [show ((2 ^ 32 * R : Nat) : Int) = (R : Int) * 4294967296 by omega, show 2 ^ 32 * R + X = R * 4294967296 + X by omega] at this
      exact this
    have hlt : (R * 4294967296 + X) / d < 4294967296 := l3
    rw [o, ← Int.ofNat_tdiv, ← Int.ofNat_tmod, ← l2, Int.toNat_natCast]
    generalize (R * 4294967296 + X) / d = Y at *
    rw [u64_in (a := (Y : Int)) (by omega) (by omega)]
    rw [show (Y : Int) % 4294967296 = (Y : Int) by omega]
    have hz : 4294967296 ^ (i + 1) * (n / 4294967296 ^ (i + 1) / d) / 4294967296 ^ i % 4294967296 = 0 := by
      rw [Nat.pow_succ, Nat.mul_assoc, Nat.mul_div_cancel_left _ (Nat.pow_pos (by omega)), Nat.mul_mod_right]
    have hs := dn_set (b := 4294967296) (by omega) i L (4294967296 ^ (i + 1) * (n / 4294967296 ^ (i + 1) / d)) Y (by omega) (by rw [hz]; omega)
    rw [hz, Nat.zero_add] at hs
    rw [hs, l1, Nat.mul_add, ← Nat.mul_assoc, ← Nat.pow_succ]
theorem by_ev {n d : Nat} (hd : 0 < d) (hd2 : d < 4294967296) (hsz : (dgs 4294967296 n).length ≤ 70368744177664) : Ev (fun k => nat_Nat_by.f k (dgs 4294967296 n) (d : Int)) (dgs 4294967296 (n / d), ((n % d : Nat) : Int)) := by
  have h := by_loop n d (dgs 4294967296 n).length hd hd2 (lt_pow_len (by omega)) rfl (by omega) (dgs 4294967296 n).length (Nat.le_refl _)
  have hz : n / 4294967296 ^ (dgs 4294967296 n).length = 0 := Nat.div_eq_of_lt (lt_pow_len (by omega))
  rw [hz, Nat.zero_div, Nat.zero_mod, Nat.mul_zero] at h
  refine Ev.congr (fun k => ?_) h
  unfold nat_Nat_by.f
  rw [if_pos (by omega), if_pos (by omega), wrap_in (a := ((dgs 4294967296 n).length : Int) - 1) (by omega) (by omega), rep_dn 4294967296 (dgs 4294967296 n).length _ rfl]
  rfl
theorem small_loop (n d L : Nat) (hd : 0 < d) (hd2 : d ≤ 65536) (hL : n < 65536 ^ L) (hlen : L = (dgs 65536 n).length) (hsz : L ≤ 72057594037927936) : ∀ i : Nat, i ≤ L →
    Ev (fun k => heraldref04_small.l0 k (dgs 65536 n) (d : Int) (dn 65536 L (65536 ^ i * (n / 65536 ^ i / d))) ((n / 65536 ^ i % d : Nat) : Int) ((i : Int) - 1)) (dgs 65536 (n / d), ((n % d : Nat) : Int)) := by
  intro i
  induction i with
  | zero =>
    intro _
    have hv : n / d < 65536 ^ L := Nat.lt_of_le_of_lt (Nat.div_le_self _ _) hL
    have := (rcut_dn (by omega) hv).bind (f := fun _ t => some (t, ((n % d : Nat) : Int))) (Ev.now _)
    refine Ev.step (fun k => ?_) this
    rw [heraldref04_small.l0, if_neg (by omega)]
    simp only [Nat.pow_zero, Nat.div_one, Nat.one_mul]
  | succ i ih =>
    intro hi
    refine Ev.step (fun k => ?_) (ih (by omega))
    obtain ⟨l1, l2, l3⟩ := ldiv (M := n / 65536 ^ i) (show 0 < 65536 by omega) hd
    have e1 : n / 65536 ^ i / 65536 = n / 65536 ^ (i + 1) := by rw [Nat.div_div_eq_div_mul, ← Nat.pow_succ]
    rw [e1] at l1 l2 l3
    have hr := Nat.mod_lt (n / 65536 ^ (i + 1)) hd
    have hx := Nat.mod_lt (n / 65536 ^ i) (show 0 < 65536 by omega)
    rw [heraldref04_small.l0, if_pos (by omega), if_pos (by omega), if_pos (by omega), if_neg (by omega), dn_length, if_pos (by omega)]
    rw [show ((i + 1 : Nat) : Int) - 1 = (i : Int) by omega, rd_dgs (by omega), wrap_in (a := (i : Int) - 1) (by omega) (by omega)]
    generalize hR : n / 65536 ^ (i + 1) % d = R at *
    generalize hX : n / 65536 ^ i % 65536 = X at *
    have o : wrap64 (wrap64 ((R : Int) * 65536) + (X : Int)) = ((R * 65536 + X : Nat) : Int) := by
      rw [wrap_in (a := (R : Int) * 65536) (by omega) (by omega), wrap_in (by omega) (by omega)]; omega
    have hlt : (R * 65536 + X) / d < 65536 := l3
    rw [o, ← Int.ofNat_tdiv, ← Int.ofNat_tmod, ← l2, Int.toNat_natCast]
    generalize (R * 65536 + X) / d = Y at *
    rw [wrap_in (a := (Y : Int)) (by omega) (by omega)]
    have hz : 65536 ^ (i + 1) * (n / 65536 ^ (i + 1) / d) / 65536 ^ i % 65536 = 0 := by
      rw [Nat.pow_succ, Nat.mul_assoc, Nat.mul_div_cancel_left _ (Nat.pow_pos (by omega)), Nat.mul_mod_right]
    have hs := dn_set (b := 65536) (by omega) i L (65536 ^ (i + 1) * (n / 65536 ^ (i + 1) / d)) Y (by omega) (by rw [hz]; omega)
    rw [hz, Nat.zero_add] at hs
    rw [hs, l1, Nat.mul_add, ← Nat.mul_assoc, ← Nat.pow_succ]
theorem small_ev {n d : Nat} (hd : 0 < d) (hd2 : d ≤ 65536) (hsz : (dgs 65536 n).length ≤ 35184372088832) : Ev (fun k => heraldref04_small.f k (dgs 65536 n) (d : Int)) (dgs 65536 (n / d), ((n % d : Nat) : Int)) := by
  have h := small_loop n d (dgs 65536 n).length hd hd2 (lt_pow_len (by omega)) rfl (by omega) (dgs 65536 n).length (Nat.le_refl _)
  have hz : n / 65536 ^ (dgs 65536 n).length = 0 := Nat.div_eq_of_lt (lt_pow_len (by omega))
  rw [hz, Nat.zero_div, Nat.zero_mod, Nat.mul_zero] at h
  refine Ev.congr (fun k => ?_) h
  unfold heraldref04_small.f
  rw [if_pos (by omega), if_pos (by omega), wrap_in (a := ((dgs 65536 n).length : Int) - 1) (by omega) (by omega), rep_dn 65536 (dgs 65536 n).length _ rfl]
  rfl
/-- A product with a small number, and a sum. -/
theorem times_loop (n m X L : Nat) (hm : m < 4294967296) (hL : L = (dgs 4294967296 n).length) (hsz : L ≤ 72057594037927936) (hX : X < 4294967296 ^ (L + 1)) : ∀ (j i c : Nat), j = L - i → i ≤ L → c < 4294967296 → X / 4294967296 ^ i = m * (n / 4294967296 ^ i) + c →
    Ev (fun k => nat_Nat_times.l0 k (m : Int) (dn 4294967296 (L + 1) (mix 4294967296 i X 0)) (c : Int) (dgs 4294967296 n) (L : Int) (i : Int) (dgs 4294967296 n)) (dgs 4294967296 X) := by
  intro j
  induction j with
  | zero =>
    intro i c hj hi hc hv
    obtain rfl : i = L := by omega
    have hz : n / 4294967296 ^ i = 0 := Nat.div_eq_of_lt (by rw [hL]; exact lt_pow_len (by omega))
    rw [hz, Nat.mul_zero, Nat.zero_add] at hv
    have := (cut_dn (L := i + 1) (by omega) hX).bind (f := fun _ t => some t) (Ev.now _)
    refine Ev.step (fun k => ?_) this
    rw [nat_Nat_times.l0, if_neg (by omega), if_pos (by omega), dn_length, ← hL, if_pos (by omega), Int.toNat_natCast]
    have hs := dn_mix (b := 4294967296) (by omega) i (i + 1) X 0 (by omega)
    rw [hv, Nat.mod_eq_of_lt hc, mix_all hX (Nat.pow_pos (by omega))] at hs
    rw [show (c : Int) % 4294967296 = (c : Int) by omega, hs]
  | succ j ih =>
    intro i c hj hi hc hv
    have hx := Nat.mod_lt (n / 4294967296 ^ i) (show 0 < 4294967296 by omega)
    have hb := mac_small (o := 0) (p := m) (n := n / 4294967296 ^ i % 4294967296) (c := c) (show 0 < 4294967296 by omega) (by omega) hm hx hc
    have e1 : X / 4294967296 ^ (i + 1) = X / 4294967296 ^ i / 4294967296 := by rw [Nat.div_div_eq_div_mul, ← Nat.pow_succ]
    have e2 : n / 4294967296 ^ (i + 1) = n / 4294967296 ^ i / 4294967296 := by rw [Nat.div_div_eq_div_mul, ← Nat.pow_succ]
    have hmod := mac_mod 0 m (n / 4294967296 ^ i) c 4294967296
    have hdiv := mac_div (b := 4294967296) (by omega) 0 m (n / 4294967296 ^ i) c
    rw [Nat.zero_mod, Nat.zero_add, Nat.zero_add, ← hv] at hmod
    rw [Nat.zero_mod, Nat.zero_div, Nat.zero_add, Nat.zero_add, Nat.zero_add, ← hv, ← e1, ← e2] at hdiv
    rw [Nat.zero_add] at hb
    refine Ev.step (fun k => ?_) (ih (i + 1) ((m * (n / 4294967296 ^ i % 4294967296) + c) / 4294967296) (by omega) (by omega) (div_lt_of hb) hdiv.symm)
    rw [nat_Nat_times.l0, if_pos (by omega), if_pos (by omega), if_pos (by omega), dn_length, if_pos (by omega), rd_dgs (by omega), Int.toNat_natCast, wrap_in (a := (i : Int) + 1) (by omega) (by omega)]
    generalize hx' : n / 4294967296 ^ i % 4294967296 = x at *
    have hc2 : (x : Int) * (m : Int) = ((m * x : Nat) : Int) := by push_cast; rw [Int.mul_comm]
    rw [u64_in (a := (x : Int)) (by omega) (by omega), u64_in (a := (m : Int)) (by omega) (by omega), hc2, u64_in (a := ((m * x : Nat) : Int)) (by omega) (by omega), u64_in (a := (c : Int) + _) (by omega) (by omega)]
    rw [show (c : Int) + ((m * x : Nat) : Int) = ((m * x + c : Nat) : Int) by omega]
    rw [show ((m * x + c : Nat) : Int) % 4294967296 = (((m * x + c) % 4294967296 : Nat) : Int) by omega, show ((m * x + c : Nat) : Int) / 4294967296 = (((m * x + c) / 4294967296 : Nat) : Int) by omega, hmod]
    rw [dn_mix (b := 4294967296) (by omega) i (L + 1) X 0 (by omega)]
    rfl
theorem times_ev {n m a : Nat} (hm : m < 4294967296) (ha : a < 4294967296) (hsz : (dgs 4294967296 n).length ≤ 35184372088832) : Ev (fun k => nat_Nat_times.f k (dgs 4294967296 n) (m : Int) (a : Int)) (dgs 4294967296 (m * n + a)) := by
  have hX : m * n + a < 4294967296 ^ ((dgs 4294967296 n).length + 1) := by
    have h1 : n < 4294967296 ^ (dgs 4294967296 n).length := lt_pow_len (by omega)
    have h2 : m * (n + 1) ≤ 4294967295 * 4294967296 ^ (dgs 4294967296 n).length := Nat.mul_le_mul (by omega) h1
    have h3 : 0 < 4294967296 ^ (dgs 4294967296 n).length := Nat.pow_pos (by omega)
    have h4 : m * (n + 1) = m * n + m := Nat.mul_succ _ _
    have h5 : 4294967296 ≤ 4294967296 ^ (dgs 4294967296 n).length ∨ n = 0 := by
      by_cases hn : n = 0
      · exact .inr hn
      · left
        have := dgs_len_pos (b := 4294967296) (n := n) (by omega) hn
        have := Nat.pow_le_pow_right (show 0 < 4294967296 by omega) this
        simpa using this
    rw [Nat.pow_succ]
    rcases h5 with h5 | h5
    · omega
    · subst h5; omega
  have h := times_loop n m (m * n + a) (dgs 4294967296 n).length hm rfl (by omega) hX (dgs 4294967296 n).length 0 a (by omega) (by omega) ha (by simp)
  refine Ev.congr (fun k => ?_) h
  unfold nat_Nat_times.f
  rw [mix_zero, wrap_in (a := ((dgs 4294967296 n).length : Int) + 1) (by omega) (by omega), if_pos (by omega), if_pos (by omega), rep_dn 4294967296 ((dgs 4294967296 n).length + 1) _ (by omega), u64_in (a := (a : Int)) (by omega) (by omega)]
  rfl
end Go.Proofs.YtgcngbmkgjphpaaDoor.Nums
end

section
namespace Go.Proofs.YtgcngbmkgjphpaaDoor.PAll
open Go.RowKit Go.Proofs.YtgcngbmkgjphpaaDoorW.PrintWords Go.Proofs.YtgcngbmkgjphpaaDoorW.PrintLast Go.Proofs.YtgcngbmkgjphpaaDoorW.PrintMore
attribute [local go_sem] max2_int min2_int max_two min_two max_three min_three max_four min_four   -- for this text's walks alone
set_option linter.unusedVariables false
set_option linter.unusedSimpArgs false
def heraldref04_Words.l0 : Nat → List Int → List Int → Int → Int → Option (List Int)
  | 0, _, _, _, _ => none
  | k + 1, x3, x7, x8, x9 => if x9 < x8 then (if 0 ≤ x9 then (if x9 < (x7.length : Int) then ((some (([wrap64 (Int.tmod (rd x7 x9) 65536), (Int.tdiv (rd x7 x9) 65536) % 4294967296] : List Int) : List Int)).bind fun y364 => (if x3.length + y364.length < 17592186044416 then (heraldref04_Words.l0 k (x3 ++ y364) x7 x8 (wrap64 (x9 + 1))) else (none))) else (none)) else (none)) else ((heraldref04_cut.f k x3).bind fun t370 => (some t370))
def heraldref04_Words.f (k : Nat) (l0 : List Int) : Option (List Int) := heraldref04_Words.l0 k (([] : List Int)) l0 (l0.length : Int) 0
set_option maxHeartbeats 8000000 in
set_option maxRecDepth 100000 in
theorem heraldref04_Words.calls (k : Nat) (A0 : Option Addr) (c0 : Nat) (l0 : List Int) (r : List Int) (w : World) (hr0 : Kd.C (Kd.int .u32) w A0 l0.length l0) (hc0 : l0.length ≤ c0) (h : heraldref04_Words.f k l0 = some r) :
    Calls Tryd.prog 53 #[.slice A0 l0.length c0] w fun e w' => ∃ v0_ : Value, e = .returned (v0_) ∧ Kd.V (Kd.int .i64) 3 w' w.heap.size (fun k_ => (w.heap.size ≤ k_)) v0_ r ∧ Below w.heap.size w w' := by
  have HR0 := Aside0.mk hr0
  have HC0 := Aside0.mk hc0
  clear hr0 hc0
  have HB := Aside0.mk (Below.refl w.heap.size w)
  have H : (heraldref04_Words.l0 k (([] : List Int)) l0 (l0.length : Int) 0) = some r := h
  clear h
  obtain ⟨y360, hy360⟩ : ∃ y_ : List Int, y_ = (([] : List Int)) := ⟨_, rfl⟩
  replace H : (heraldref04_Words.l0 k y360 l0 (l0.length : Int) 0) = some r := by first | (rw [hy360]; with_reducible exact H) | (have H2_ := (Option.bind_some _ _).symm.trans H; rw [hy360]; with_reducible exact H2_) | (have H2_ := (Option.bind_some _ _).symm.trans H; with_reducible exact H2_) | with_reducible exact H | (rw [hy360]; exact H) | exact H
  have Ny360 := Aside0.mk hy360
  clear hy360
  have H' := Aside0.mk H
  clear H
  go_enter Tryd.func53, Tryd.ntmps53
  go_wp2_with (first | ((with_reducible refine gate_dst (N := 6) rfl ?_); refine Kd.R_lit (Kd.int .i64) _ 3 ?hg (N := 6) ?hd (xs := ([] : List Int)) (inner := []) (ok := fun _ => True) (okp := fun _ => True) ?hr ?hp (fun _ hk => hk) trivial (Below.refl _ _) (Nat.le_refl _) (by simp) ?_; (case hd => rfl); (case hg => rfl); (case hr => first | (go_simp; done) | (go_simp; rfl)); (case hp => exact (Reps.none _ _)); intro v361 w2 ho3 hb hg_ hnew_; clear hg_ hnew_; (first | rw [← Ny360.out] at ho3 | (simp only [Int.reduceToNat] at ho3; rw [← Ny360.out] at ho3)); have n0_ := Aside0.mk (Kd.R_lower (Kd.R_newM (M := fun k_ => (w.heap.size ≤ k_)) ho3 (below_size (by repeat (first | (with_reducible first | exact HB.out | apply below_alloc | apply pw_below_drewN | apply below_drew1) | exact HB.out))) (fun k_ h_ => h_)) (below_size (by repeat (first | (with_reducible first | exact HB.out | apply below_alloc | apply pw_below_drewN | apply below_drew1) | exact HB.out)))); have n1_ := Aside0.mk (below_step (by repeat (first | (with_reducible first | exact HB.out | apply below_alloc | apply pw_below_drewN | apply below_drew1) | exact HB.out)) hb); clear HB; have HO362 := n0_; have HB := n1_; clear n0_ n1_; clear hb ho3))
  go_loopg [3, 9] k (fun kq v3 v9 w' => ∃ (x3_1 : List Int) (x9_1 : Int), v9 = .int .i64 x9_1 ∧ Aside0 (heraldref04_Words.l0 kq x3_1 l0 (l0.length : Int) x9_1 = some r) ∧ Aside0 (kq ≤ k) ∧ Aside0 (Kd.R (Kd.int .i64) 3 w' w.heap.size (fun k_ => (w.heap.size ≤ k_)) v3 x3_1) ∧ Aside0 (Below w.heap.size w w'))
  case atStart => exact ⟨(y360), (0), (by first | rfl | (simp; done) | (simp [*]; done) | (simp [i64_w]; done) | (simp [*, i64_w]; done)), H', ⟨Nat.le_refl _⟩, ⟨by (with_reducible repeat (first | apply Kd.R_alloc | apply Kd.R_drewN | apply Kd.R_drew)); exact Kd.R_mono HO362.out (fun _ hk => hk.1)⟩, ⟨by repeat (first | (with_reducible first | exact HB.out | apply below_alloc | apply pw_below_drewN | apply below_drew1) | exact HB.out)⟩⟩
  case round =>
    clear H'
    try clear p2
    obtain ⟨x3_1, x9_1, rfl, HA, HK1, HO_3, HB⟩ := hrel
    cases gk with
    | zero => exact absurd HA.out (by simp [heraldref04_Words.l0])
    | succ k1 =>
      have H := HA.out
      clear HA
      simp only [heraldref04_Words.l0] at H
      by_cases c4 : x9_1 < (l0.length : Int)
      · rw [if_pos c4] at H
        have c4b0 : decide (x9_1 < (l0.length : Int)) = true := decide_eq_true c4
        clear c4
        by_cases c5 : 0 ≤ x9_1
        · rw [if_pos c5] at H
          have c5b0 : decide (0 ≤ x9_1) = true := decide_eq_true c5
          clear c5
          by_cases c6 : x9_1 < (l0.length : Int)
          · rw [if_pos c6] at H
            have c6b0 : decide (x9_1 < (l0.length : Int)) = true := decide_eq_true c6
            clear c6
            obtain ⟨y364, hy364⟩ : ∃ y_ : List Int, y_ = (([wrap64 (Int.tmod (rd l0 x9_1) 65536), (Int.tdiv (rd l0 x9_1) 65536) % 4294967296] : List Int)) := ⟨_, rfl⟩
            replace H : (if x3_1.length + y364.length < 17592186044416 then (heraldref04_Words.l0 k1 (x3_1 ++ y364) l0 (l0.length : Int) (wrap64 (x9_1 + 1))) else (none)) = some r := by first | (rw [hy364]; with_reducible exact H) | (have H2_ := (Option.bind_some _ _).symm.trans H; rw [hy364]; with_reducible exact H2_) | (have H2_ := (Option.bind_some _ _).symm.trans H; with_reducible exact H2_) | with_reducible exact H | (rw [hy364]; exact H) | exact H
            have Ny364 := Aside0.mk hy364
            clear hy364
            by_cases c7 : x3_1.length + y364.length < 17592186044416
            · rw [if_pos c7] at H
              have LMc7 := Aside0.mk c7
              clear c7
              obtain ⟨y367, hy367⟩ : ∃ y_ : List Int, y_ = (x3_1 ++ y364) := ⟨_, rfl⟩
              replace H : (heraldref04_Words.l0 k1 y367 l0 (l0.length : Int) (wrap64 (x9_1 + 1))) = some r := by first | (rw [hy367]; with_reducible exact H) | (have H2_ := (Option.bind_some _ _).symm.trans H; rw [hy367]; with_reducible exact H2_) | (have H2_ := (Option.bind_some _ _).symm.trans H; with_reducible exact H2_) | with_reducible exact H | (rw [hy367]; exact H) | exact H
              have Ny367 := Aside0.mk hy367
              clear hy367
              have H' := Aside0.mk H
              clear H
              have p363 : 0 ≤ (x9_1 : Int) := of_decide_eq_true (by first | (with_reducible assumption) | assumption)
              have q363 : x9_1 < (l0.length : Int) := of_decide_eq_true (by first | (with_reducible assumption) | assumption)
              obtain ⟨ad363, e363, hx363_0⟩ := Kd.at_int HR0.out x9_1 p363 q363
              cases e363
              replace hx363_0 := (HB.out.cell (World.block_lt_of_cell? w _ hx363_0)).trans hx363_0
              replace p363 := eq_true p363
              replace q363 := eq_true q363
              go_wp2_with (first | ((with_reducible refine gate_dst (N := 20) rfl ?_); refine Kd.R_lit (Kd.int .i64) _ 3 ?hg (N := 20) ?hd (xs := ([wrap64 (Int.tmod (rd l0 x9_1) 65536), (Int.tdiv (rd l0 x9_1) 65536) % 4294967296] : List Int)) (inner := [.int .i64 (wrap64 (Int.tmod (rd l0 x9_1) 65536)), .int .i64 ((Int.tdiv (rd l0 x9_1) 65536) % 4294967296)]) (ok := fun _ => True) (okp := fun _ => True) ?hr ?hp (fun _ hk => hk) trivial (Below.refl _ _) (Nat.le_refl _) (by simp) ?_; (case hd => rfl); (case hg => rfl); (case hr => first | (go_simp; done) | (go_simp; rfl)); (case hp => exact (Reps.one (show Kd.M (Kd.int .i64) _ _ _ (wrap64 (Int.tmod (rd l0 x9_1) 65536)) [.int .i64 (wrap64 (Int.tmod (rd l0 x9_1) 65536))] from rfl) (Reps.one (show Kd.M (Kd.int .i64) _ _ _ ((Int.tdiv (rd l0 x9_1) 65536) % 4294967296) [.int .i64 ((Int.tdiv (rd l0 x9_1) 65536) % 4294967296)] from rfl) (Reps.none _ _)))); intro v365 w8 ho9 hb hg_ hnew_; clear hg_ hnew_; (first | rw [← Ny364.out] at ho9 | (simp only [Int.reduceToNat] at ho9; rw [← Ny364.out] at ho9)); have n0_ := Aside0.mk (Kd.R_elder' (by (with_reducible repeat (first | apply Kd.R_alloc | apply Kd.R_drewN | apply Kd.R_drew)); exact HO_3.out) (Kd.R_base ho9) hb); have n1_ := Aside0.mk (Kd.R_lower (Kd.R_new' (Kd.R_newM (M := fun k_ => (w.heap.size ≤ k_)) ho9 (below_size (by repeat (first | (with_reducible first | exact HB.out | apply below_alloc | apply pw_below_drewN | apply below_drew1) | exact HB.out))) (fun k_ h_ => h_)) (Kd.R_lt (by (with_reducible repeat (first | apply Kd.R_alloc | apply Kd.R_drewN | apply Kd.R_drew)); exact HO_3.out))) (below_size (by repeat (first | (with_reducible first | exact HB.out | apply below_alloc | apply pw_below_drewN | apply below_drew1) | exact HB.out)))); have n2_ := Aside0.mk (below_step (by repeat (first | (with_reducible first | exact HB.out | apply below_alloc | apply pw_below_drewN | apply below_drew1) | exact HB.out)) hb); clear HO_3; clear HB; have HO_3 := n0_; have HO366 := n1_; have HB := n2_; clear n0_ n1_ n2_; clear hb ho9; obtain ⟨Ao11, co11, eo11⟩ := Kd.R_slice HO366.out; subst eo11) | ((with_reducible refine gate_builtin (b := .append) (xs := #[.tmp 13, .tmp 20]) rfl ?_); at_builtin; refine Kd.R_append_rows (Kd.int .i64) (w0 := w) w.heap.size rfl (.tmp 13) (.tmp 20) 32 3 (.int .i64 0) 8 rfl Tryd.underlying32 info3 rfl (by decide) (by omega) u3 x3_1 y364 _ _ _ (fun k_ => (w.heap.size ≤ k_) ∧ some k_ ≠ (.slice Ao11 y364.length co11 : Value).ownBlock) (fun _ => False) rfl rfl ?aO ?aR (fun _ _ h => h) (fun _ h => h.elim) ?aF ?aB ?aS ?aL ?_; (case aR => repeat (first | exact (Kd.R_reads' HO366.out).2.2 | (with_reducible refine Kd.C_alloc ?_ _) | (with_reducible refine Kd.C_drewN ?_ _) | (with_reducible refine Kd.C_drew ?_))); (case aB => exact (by repeat (first | (with_reducible first | exact HB.out | apply below_alloc | apply pw_below_drewN | apply below_drew1) | exact HB.out))); (case aF => exact (fun k_ hk => ⟨(Nat.le_trans (below_size (by repeat (first | (with_reducible first | exact HB.out | apply below_alloc | apply pw_below_drewN | apply below_drew1) | exact HB.out))) hk), Kd.fresh' (Kd.R_lt (by (with_reducible repeat (first | apply Kd.R_alloc | apply Kd.R_drewN | apply Kd.R_drew)); exact HO366.out)) k_ hk⟩)); (case aO => exact (by (with_reducible repeat (first | apply Kd.R_alloc | apply Kd.R_drewN | apply Kd.R_drew)); exact HO_3.out)); (case aS => exact (below_size (by repeat (first | (with_reducible first | exact HB.out | apply below_alloc | apply pw_below_drewN | apply below_drew1) | exact HB.out)))); (case aL => have := LMc7.out; omega); intro v368 w10 ho hb hg hat; rw [← Ny367.out] at ho; have n0_ := Aside0.mk (Kd.R_after (ok := (fun k_ => (w.heap.size ≤ k_))) (by (with_reducible repeat (first | apply Kd.R_alloc | apply Kd.R_drewN | apply Kd.R_drew)); exact Kd.R_mono HO366.out (fun _ hk => ⟨hk.1.1, hk.2⟩)) hg hat); have n1_ := Aside0.mk (hb); have n2_ := Aside0.mk (ho); clear HO366; clear HB; clear HO_3; have HO366 := n0_; have HB := n1_; have HO369 := n2_; clear n0_ n1_ n2_; clear ho hb hg hat))
              go_roundg k1
              case measure => have := HK1.out; omega
              case rel => exact ⟨(y367), (wrap64 (x9_1 + 1)), (by first | rfl | (simp; done) | (simp [*]; done) | (simp [i64_w]; done) | (simp [*, i64_w]; done)), H', ⟨by have := HK1.out; omega⟩, ⟨by (with_reducible repeat (first | apply Kd.R_alloc | apply Kd.R_drewN | apply Kd.R_drew)); exact Kd.R_mono HO369.out (fun _ hk => hk.1)⟩, ⟨by repeat (first | (with_reducible first | exact HB.out | apply below_alloc | apply pw_below_drewN | apply below_drew1) | exact HB.out)⟩⟩
            · rw [if_neg c7] at H
              exact absurd H (by simp)
          · rw [if_neg c6] at H
            exact absurd H (by simp)
        · rw [if_neg c5] at H
          exact absurd H (by simp)
      · rw [if_neg c4] at H
        have c4b0 : decide (x9_1 < (l0.length : Int)) = false := decide_eq_false c4
        clear c4
        replace H := Option.bind_eq_some_iff.mp H
        obtain ⟨t370, A120, H⟩ := H
        replace H : (some t370) = some r := H
        have A12 := Aside0.mk A120
        clear A120
        obtain rfl := Option.some.inj H
        obtain ⟨Ao13, co13, eo13⟩ := Kd.R_slice HO_3.out
        subst eo13
        go_wp2_with (first | ((with_reducible refine gate_callee (f := 50) rfl ?_); refine goesL_ (some 24) rfl rfl Tryd.func50 (by kernel_rfl) rfl #[.slice Ao13 x3_1.length co13] rfl (by (try simp only [List.map_toArray, List.map_cons, List.map_nil]); first | done | rfl | (simp only [List.length_drop, List.length_take]; rfl)) ?_; (with_reducible refine (heraldref04_cut.calls k1 (fun k_ => some k_ = (.slice Ao13 x3_1.length co13 : Value).ownBlock) _ _ x3_1 t370 _ ?side1 A12.out).mono ?_); (case side1 => exact Kd.R_V (Kd.R_tight rfl (HO_3.out))); rintro e w14 ⟨v371, rfl, ho0, hb⟩; refine ⟨_, rfl, ?_⟩; have n0_ := Aside0.mk (Kd.R_below (by (with_reducible repeat (first | apply Kd.R_alloc | apply Kd.R_drewN | apply Kd.R_drew)); exact HO_3.out) hb); have n1_ := Aside0.mk (Kd.V_lower (Kd.V_mono (ok' := fun k_ => (w.heap.size ≤ k_)) ho0 (fun k_ hk_ => Or.elim hk_ (fun hs_ => ((HO_3.out).1 k_ hs_.symm)) (fun hn_ => (Nat.le_trans (below_size (by repeat (first | (with_reducible first | exact HB.out | apply below_alloc | apply pw_below_drewN | apply below_drew1) | exact HB.out))) hn_)))) (below_size (by repeat (first | (with_reducible first | exact HB.out | apply below_alloc | apply pw_below_drewN | apply below_drew1) | exact HB.out)))); have n2_ := Aside0.mk (below_step (by repeat (first | (with_reducible first | exact HB.out | apply below_alloc | apply pw_below_drewN | apply below_drew1) | exact HB.out)) hb); clear HO_3; clear HB; have HO_3 := n0_; have HO372 := n1_; have HB := n2_; clear n0_ n1_ n2_; (try clear hb); (try clear hb2); (try clear hk); (try clear hi); (try clear ho0)))
        go_ret
        exact ⟨_, by first | rfl | (simp [errW_none, errW_some] <;> rfl) | (simp [*, errW_none, errW_some] <;> rfl), by (with_reducible repeat (first | apply Kd.V_alloc | apply Kd.V_drewN | apply Kd.V_drew)); exact HO372.out, by repeat (first | (with_reducible first | exact HB.out | apply below_alloc | apply pw_below_drewN | apply below_drew1) | exact HB.out)⟩
def heraldref04_Fit.f (k : Nat) (l0 : List Int) : Option (List Int × Int) := (heraldref04_Bits.f k l0).bind fun t373 => (if t373 > 65536 then (some (([] : List Int), 41)) else (some (l0, 0)))
set_option maxHeartbeats 8000000 in
set_option maxRecDepth 100000 in
theorem heraldref04_Fit.calls (k : Nat) (P0_ : Nat → Prop) (A0 : Option Addr) (c0 : Nat) (l0 : List Int) (r1 : List Int) (r2 : Int) (w : World) (hs0 : Kd.V (Kd.int .i64) 3 w w.heap.size (fun k_ => P0_ k_) (.slice A0 l0.length c0) l0) (h : heraldref04_Fit.f k l0 = some (r1, r2)) :
    Calls Tryd.prog 54 #[.slice A0 l0.length c0] w fun e w' => ∃ v0_ : Value, e = .returned (.tuple #[v0_, .int .i64 r2]) ∧ Kd.V (Kd.int .i64) 3 w' w.heap.size (fun k_ => (P0_ k_ ∨ w.heap.size ≤ k_)) v0_ r1 ∧ Below w.heap.size w w' := by
  have HO0 := Aside0.mk (show Kd.V (Kd.int .i64) 3 w w.heap.size (fun k_ => (P0_ k_ ∨ w.heap.size ≤ k_)) (.slice A0 l0.length c0) l0 from Kd.V_mono hs0 (fun k_ hk => .inl hk))
  have HB := Aside0.mk (Below.refl w.heap.size w)
  have H : ((heraldref04_Bits.f k l0).bind fun t373 => (if t373 > 65536 then (some (([] : List Int), 41)) else (some (l0, 0)))) = some (r1, r2) := h
  clear h
  replace H := Option.bind_eq_some_iff.mp H
  obtain ⟨t373, A20, H⟩ := H
  replace H : (if t373 > 65536 then (some (([] : List Int), 41)) else (some (l0, 0))) = some (r1, r2) := H
  have A2 := Aside0.mk A20
  clear A20
  by_cases c3 : t373 > 65536
  · rw [if_pos c3] at H
    have c3b0 : decide (65536 < t373) = true := decide_eq_true c3
    clear c3
    simp only [Option.some.injEq, Prod.mk.injEq] at H
    obtain ⟨rfl, rfl⟩ := H
    go_enter Tryd.func54, Tryd.ntmps54
    go_wp2_with (first | ((with_reducible refine gate_callee (f := 26) rfl ?_); refine goesL_ (some 5) rfl rfl Tryd.func26 (by kernel_rfl) rfl #[.slice A0 l0.length c0] rfl (by (try simp only [List.map_toArray, List.map_cons, List.map_nil]); first | done | rfl | (simp only [List.length_drop, List.length_take]; rfl)) ?_; (with_reducible refine (heraldref04_Bits.calls k _ _ l0 t373 _ ?side1 ?side2 A2.out).mono ?_); (case side1 => repeat (first | exact (Kd.V_reads' HO0.out).2.2 | (with_reducible refine Kd.C_alloc ?_ _) | (with_reducible refine Kd.C_drewN ?_ _) | (with_reducible refine Kd.C_drew ?_))); (case side2 => exact (Kd.V_reads' HO0.out).2.1); rintro e w' ⟨rfl, ⟨nd, rfl⟩⟩; refine ⟨_, rfl, ?_⟩))
    go_ret2
    exact ⟨_, by first | rfl | (simp [errW_none, errW_some] <;> rfl) | (simp [*, errW_none, errW_some] <;> rfl), Kd.V_mono (Kd.R_V (base := w.heap.size) (by first | exact Kd.R_nil _ _ _ _ (fun _ => False) | exact Kd.R_nil _ _ _ _ _ | exact Kd.N_nil _ _ _ _ _ | exact Kd.V_nil _ _ _ _ _ | exact Kd.Q_nil _ _ _ _ _ | exact Kd.S_nil _ _ _ _ _)) (fun k_ hk => by first | exact False.elim hk | exact ⟨(.inr (hk.1)), hk.2⟩ | exact (.inr (hk))), by repeat (first | (with_reducible first | exact HB.out | apply below_alloc | apply pw_below_drewN | apply below_drew1) | exact HB.out)⟩
  · rw [if_neg c3] at H
    have c3b0 : decide (65536 < t373) = false := decide_eq_false c3
    clear c3
    simp only [Option.some.injEq, Prod.mk.injEq] at H
    obtain ⟨rfl, rfl⟩ := H
    go_enter Tryd.func54, Tryd.ntmps54
    go_wp2_with (first | ((with_reducible refine gate_callee (f := 26) rfl ?_); refine goesL_ (some 5) rfl rfl Tryd.func26 (by kernel_rfl) rfl #[.slice A0 l0.length c0] rfl (by (try simp only [List.map_toArray, List.map_cons, List.map_nil]); first | done | rfl | (simp only [List.length_drop, List.length_take]; rfl)) ?_; (with_reducible refine (heraldref04_Bits.calls k _ _ l0 t373 _ ?side1 ?side2 A2.out).mono ?_); (case side1 => repeat (first | exact (Kd.V_reads' HO0.out).2.2 | (with_reducible refine Kd.C_alloc ?_ _) | (with_reducible refine Kd.C_drewN ?_ _) | (with_reducible refine Kd.C_drew ?_))); (case side2 => exact (Kd.V_reads' HO0.out).2.1); rintro e w' ⟨rfl, ⟨nd, rfl⟩⟩; refine ⟨_, rfl, ?_⟩))
    go_ret2
    exact ⟨_, by first | rfl | (simp [errW_none, errW_some] <;> rfl) | (simp [*, errW_none, errW_some] <;> rfl), by (with_reducible repeat (first | apply Kd.V_alloc | apply Kd.V_drewN | apply Kd.V_drew)); exact HO0.out, by repeat (first | (with_reducible first | exact HB.out | apply below_alloc | apply pw_below_drewN | apply below_drew1) | exact HB.out)⟩
end Go.Proofs.YtgcngbmkgjphpaaDoor.PAll
end

section
namespace Go.Proofs.YtgcngbmkgjphpaaDoor.Nums
open Go.RowKit Go.Proofs.YtgcngbmkgjphpaaDoor.PAll Go.Proofs.YtgcngbmkgjphpaaDoorW.PrintWords Go.Proofs.YtgcngbmkgjphpaaDoorW.PrintLast Go.Proofs.YtgcngbmkgjphpaaDoorW.PrintMore
set_option linter.unusedVariables false
set_option linter.unusedSimpArgs false
theorem bl_mul {x y : Nat} (hx : x ≠ 0) (hy : y ≠ 0) : bl x + bl y ≤ bl (x * y) + 1 := by
  have h1 := bl_pos.mpr hx
  have h2 := bl_pos.mpr hy
  have a1 : 2 ^ (bl x - 1) ≤ x := lt_bl.mp (by omega)
  have a2 : 2 ^ (bl y - 1) ≤ y := lt_bl.mp (by omega)
  have a3 := Nat.mul_le_mul a1 a2
  rw [← Nat.pow_add] at a3
  have := lt_bl.mpr a3
  omega
theorem bl_half {t : Nat} (h : t ≠ 0) : bl t = 1 + bl (t / 2) := by
  by_cases g : t / 2 = 0
  · have : t = 1 := by omega
    subst this; rfl
  · have := bl_split (n := t) (w := 1) (p := 1) (by rw [Nat.pow_one]; exact g)
    rwa [Nat.pow_one] at this
/-- One row of the program's product. -/
theorem mul_row (x y i Lt V W p : Nat) (R : List Int × Int) (hp : p < 4294967296) (hW : W = V + 4294967296 ^ i * (p * y)) (hV : V < 4294967296 ^ (i + (dgs 4294967296 y).length)) (hWlt : W < 4294967296 ^ (i + (dgs 4294967296 y).length + 1)) (hLt : i + (dgs 4294967296 y).length < Lt) (hsz : Lt ≤ 72057594037927936)
    (hR : Ev (fun k => nat_Nat_Mul.l0 k (dn 4294967296 Lt W) (dgs 4294967296 x) ((dgs 4294967296 x).length : Int) ((i + 1 : Nat) : Int) (dgs 4294967296 y)) R) : ∀ (jj j c : Nat), jj = (dgs 4294967296 y).length - j → j ≤ (dgs 4294967296 y).length → c < 4294967296 → W / 4294967296 ^ (i + j) = V / 4294967296 ^ (i + j) + p * (y / 4294967296 ^ j) + c →
    Ev (fun k => nat_Nat_Mul.l1 k (dn 4294967296 Lt (mix 4294967296 (i + j) W V)) (i : Int) (p : Int) (c : Int) (dgs 4294967296 x) ((dgs 4294967296 x).length : Int) (i : Int) (dgs 4294967296 y) ((dgs 4294967296 y).length : Int) (j : Int) (dgs 4294967296 y)) R := by
  intro jj
  induction jj with
  | zero =>
    intro j c hj hjl hc hv
    obtain rfl : j = (dgs 4294967296 y).length := by omega
    have hz : y / 4294967296 ^ (dgs 4294967296 y).length = 0 := Nat.div_eq_of_lt (lt_pow_len (by omega))
    rw [hz, Nat.mul_zero, Nat.add_zero, Nat.div_eq_of_lt hV, Nat.zero_add] at hv
    refine Ev.step (fun k => ?_) hR
    have hs := dn_mix (b := 4294967296) (by omega) (i + (dgs 4294967296 y).length) Lt W V hLt
    rw [hv, Nat.mod_eq_of_lt hc, mix_all hWlt (Nat.lt_of_lt_of_le hV (Nat.pow_le_pow_right (by omega) (by omega)))] at hs
    rw [nat_Nat_Mul.l1, if_neg (by omega), wrap_in (a := (i : Int) + ((dgs 4294967296 y).length : Int)) (by omega) (by omega), dn_length, if_pos (by omega), if_pos (by omega), wrap_in (a := (i : Int) + 1) (by omega) (by omega)]
    rw [show ((i : Int) + ((dgs 4294967296 y).length : Int)).toNat = i + (dgs 4294967296 y).length by omega, show (c : Int) % 4294967296 = (c : Int) by omega, hs]
    rfl
  | succ jj ih =>
    intro j c hj hjl hc hv
    have hx := Nat.mod_lt (y / 4294967296 ^ j) (show 0 < 4294967296 by omega)
    have ho := Nat.mod_lt (V / 4294967296 ^ (i + j)) (show 0 < 4294967296 by omega)
    have hb := mac_small (o := V / 4294967296 ^ (i + j) % 4294967296) (p := p) (n := y / 4294967296 ^ j % 4294967296) (c := c) (show 0 < 4294967296 by omega) ho hp hx hc
    have e1 : W / 4294967296 ^ (i + (j + 1)) = W / 4294967296 ^ (i + j) / 4294967296 := by rw [Nat.div_div_eq_div_mul, ← Nat.pow_succ]; rfl
    have e2 : y / 4294967296 ^ (j + 1) = y / 4294967296 ^ j / 4294967296 := by rw [Nat.div_div_eq_div_mul, ← Nat.pow_succ]
    have e3 : V / 4294967296 ^ (i + (j + 1)) = V / 4294967296 ^ (i + j) / 4294967296 := by rw [Nat.div_div_eq_div_mul, ← Nat.pow_succ]; rfl
    have hmod := mac_mod (V / 4294967296 ^ (i + j)) p (y / 4294967296 ^ j) c 4294967296
    have hdiv := mac_div (b := 4294967296) (by omega) (V / 4294967296 ^ (i + j)) p (y / 4294967296 ^ j) c
    rw [← hv] at hmod
    rw [← hv, ← e1, ← e2, ← e3] at hdiv
    refine Ev.step (fun k => ?_) (ih (j + 1) ((V / 4294967296 ^ (i + j) % 4294967296 + p * (y / 4294967296 ^ j % 4294967296) + c) / 4294967296) (by omega) (by omega) (div_lt_of hb) hdiv.symm)
    rw [nat_Nat_Mul.l1, if_pos (by omega), if_pos (by omega), if_pos (by omega), wrap_in (a := (i : Int) + (j : Int)) (by omega) (by omega), dn_length, if_pos (by omega), if_pos (by omega), rd_dgs (by omega), wrap_in (a := (j : Int) + 1) (by omega) (by omega)]
    rw [show (i : Int) + (j : Int) = ((i + j : Nat) : Int) by omega, rd_dn (by omega), mix_get (by omega), Int.toNat_natCast]
    generalize hx' : y / 4294967296 ^ j % 4294967296 = X at *
    generalize hy' : V / 4294967296 ^ (i + j) % 4294967296 = O at *
    have hc2 : (p : Int) * (X : Int) = ((p * X : Nat) : Int) := by push_cast; rfl
    rw [u64_in (a := (X : Int)) (by omega) (by omega), u64_in (a := (p : Int)) (by omega) (by omega), u64_in (a := (O : Int)) (by omega) (by omega), hc2, u64_in (a := ((p * X : Nat) : Int)) (by omega) (by omega), u64_in (a := ((p * X : Nat) : Int) + (O : Int)) (by omega) (by omega), u64_in (a := (c : Int) + _) (by omega) (by omega)]
    rw [show (c : Int) + (((p * X : Nat) : Int) + (O : Int)) = ((O + p * X + c : Nat) : Int) by omega]
    rw [show ((O + p * X + c : Nat) : Int) % 4294967296 = (((O + p * X + c) % 4294967296 : Nat) : Int) by omega, show ((O + p * X + c : Nat) : Int) / 4294967296 = (((O + p * X + c) / 4294967296 : Nat) : Int) by omega, hmod]
    rw [dn_mix (b := 4294967296) (by omega) (i + j) Lt W V (by omega)]
    rfl
theorem mul_loop (x y Lt : Nat) (R : List Int × Int) (hLt : Lt = (dgs 4294967296 x).length + (dgs 4294967296 y).length) (hsz : Lt ≤ 72057594037927936)
    (hR : Ev (fun k => (nat_cut.f k (dn 4294967296 Lt (x * y))).bind fun t157 => ((nat_checked.f t157).bind fun bt160 => some (bt160.1, bt160.2))) R) : ∀ (m i : Nat), m = (dgs 4294967296 x).length - i → i ≤ (dgs 4294967296 x).length →
    Ev (fun k => nat_Nat_Mul.l0 k (dn 4294967296 Lt (x % 4294967296 ^ i * y)) (dgs 4294967296 x) ((dgs 4294967296 x).length : Int) (i : Int) (dgs 4294967296 y)) R := by
  intro m
  induction m with
  | zero =>
    intro i hm hi
    obtain rfl : i = (dgs 4294967296 x).length := by omega
    refine Ev.step (fun k => ?_) hR
    rw [nat_Nat_Mul.l0, if_neg (by omega), Nat.mod_eq_of_lt (lt_pow_len (by omega))]
  | succ m ih =>
    intro i hm hi
    have hx := Nat.mod_lt (x / 4294967296 ^ i) (show 0 < 4294967296 by omega)
    have hp : 0 < 4294967296 ^ i := Nat.pow_pos (by omega)
    have hp1 : 0 < 4294967296 ^ (i + 1) := Nat.pow_pos (by omega)
    have hV := mul_lt_pow (b := 4294967296) (Nat.mod_lt x hp) (lt_pow_len (b := 4294967296) (n := y) (by omega))
    have hW := mul_lt_pow (b := 4294967296) (Nat.mod_lt x hp1) (lt_pow_len (b := 4294967296) (n := y) (by omega))
    have hWV : x % 4294967296 ^ (i + 1) * y = x % 4294967296 ^ i * y + 4294967296 ^ i * (x / 4294967296 ^ i % 4294967296 * y) := by
      rw [Nat.mod_pow_succ, Nat.add_mul, Nat.mul_assoc]
    have h := mul_row x y i Lt (x % 4294967296 ^ i * y) (x % 4294967296 ^ (i + 1) * y) (x / 4294967296 ^ i % 4294967296) R hx hWV hV (by rw [show i + (dgs 4294967296 y).length + 1 = i + 1 + (dgs 4294967296 y).length by omega]; exact hW) (by omega) hsz (ih (i + 1) (by omega) (by omega)) (dgs 4294967296 y).length 0 0 (by omega) (by omega) (by omega)
      (by rw [Nat.add_zero i, Nat.add_zero, hWV, Nat.add_mul_div_left _ _ hp, Nat.pow_zero, Nat.div_one, Nat.add_zero])
    refine Ev.step (fun k => ?_) h
    rw [nat_Nat_Mul.l0, if_pos (by omega), if_pos (by omega), if_pos (by omega), rd_dgs (by omega)]
    congr 1
    rw [Nat.add_zero]
    congr 1
    unfold mix
    rw [hWV, Nat.add_mul_mod_self_left]
    exact (Nat.mod_add_div _ _).symm
theorem mul_len (b x y : Nat) (hb : 2 ≤ b) : (dgs b (x * y)).length ≤ (dgs b x).length + (dgs b y).length := (dgs_len_le hb).mpr (mul_lt_pow (lt_pow_len hb) (lt_pow_len hb))
theorem cut_mul (x y : Nat) (h : (dgs 4294967296 x).length + (dgs 4294967296 y).length ≤ 9223372036854775807) : Ev (fun k => nat_cut.f k (dn 4294967296 ((dgs 4294967296 x).length + (dgs 4294967296 y).length) (x * y))) (dgs 4294967296 (x * y)) := cut_dn h (mul_lt_pow (lt_pow_len (by omega)) (lt_pow_len (by omega)))
/-- The program's product. -/
theorem mul_f (k : Nat) (l0 l1 : List Int) (a b : Int) (h0 : nat_Nat_Bits.f l0 = some a) (h1 : nat_Nat_Bits.f l1 = some b) (hw : wrap64 (a + b) = a + b) (hn : wrap64 ((l0.length : Int) + (l1.length : Int)) = (l0.length : Int) + (l1.length : Int)) (hm : l0.length + l1.length ≤ 4096) :
    nat_Nat_Mul.f k l0 l1 = if a + b > 65537 then some ([], 41) else nat_Nat_Mul.l0 k (List.replicate (((l0.length : Int) + (l1.length : Int)).toNat) 0) l0 (l0.length : Int) 0 l1 := by
  unfold nat_Nat_Mul.f
  rw [h0, h1]
  simp only [Option.bind_some]
  rw [hw, hn, if_pos (c := (0 : Int) ≤ _) (by omega), if_pos (c := Int.toNat _ ≤ _) (by omega)]
theorem mul_head {x y : Nat} (hx : bl x ≤ 65536) (hy : bl y ≤ 65536) (k : Nat) : nat_Nat_Mul.f k (dgs 4294967296 x) (dgs 4294967296 y) = if ((bl x : Nat) : Int) + ((bl y : Nat) : Int) > 65537 then some ([], 41) else nat_Nat_Mul.l0 k (dn 4294967296 ((dgs 4294967296 x).length + (dgs 4294967296 y).length) 0) (dgs 4294967296 x) ((dgs 4294967296 x).length : Int) 0 (dgs 4294967296 y) := by
  have lx := pd_len (n := x) (k := 2048) (by omega)
  have ly := pd_len (n := y) (k := 2048) (by omega)
  rw [mul_f k _ _ _ _ (bits_some (by omega)) (bits_some (by omega)) (wrap_in (by omega) (by omega)) (wrap_in (by omega) (by omega)) (by omega), rep_dn 4294967296 ((dgs 4294967296 x).length + (dgs 4294967296 y).length) _ (by omega)]
theorem mul_checked (x y : Nat) (h : (dgs 4294967296 x).length + (dgs 4294967296 y).length ≤ 4096) (g : bl (x * y) ≤ 65536) : Ev (fun k => (nat_cut.f k (dn 4294967296 ((dgs 4294967296 x).length + (dgs 4294967296 y).length) (x * y))).bind fun t157 => ((nat_checked.f t157).bind fun bt160 => some (bt160.1, bt160.2))) (dgs 4294967296 (x * y), 0) := by
  have hlen := mul_len 4294967296 x y (by omega)
  refine (cut_mul x y (by omega)).bind ?_
  refine Ev.congr (fun k => ?_) (Ev.now _)
  rw [checked_some (by omega), if_pos g]
  rfl
theorem mul_over (x y : Nat) (h : (dgs 4294967296 x).length + (dgs 4294967296 y).length ≤ 4096) (g : ¬ bl (x * y) ≤ 65536) : Ev (fun k => (nat_cut.f k (dn 4294967296 ((dgs 4294967296 x).length + (dgs 4294967296 y).length) (x * y))).bind fun t157 => ((nat_checked.f t157).bind fun bt160 => some (bt160.1, bt160.2))) ([], 41) := by
  have hlen := mul_len 4294967296 x y (by omega)
  refine (cut_mul x y (by omega)).bind ?_
  refine Ev.congr (fun k => ?_) (Ev.now _)
  rw [checked_some (by omega), if_neg g]
  rfl
theorem mul_all (x y : Nat) (R : List Int × Int) (h : (dgs 4294967296 x).length + (dgs 4294967296 y).length ≤ 4096) (hR : Ev (fun k => (nat_cut.f k (dn 4294967296 ((dgs 4294967296 x).length + (dgs 4294967296 y).length) (x * y))).bind fun t157 => ((nat_checked.f t157).bind fun bt160 => some (bt160.1, bt160.2))) R) : Ev (fun k => nat_Nat_Mul.l0 k (dn 4294967296 ((dgs 4294967296 x).length + (dgs 4294967296 y).length) 0) (dgs 4294967296 x) ((dgs 4294967296 x).length : Int) 0 (dgs 4294967296 y)) R := by
  have h := mul_loop x y ((dgs 4294967296 x).length + (dgs 4294967296 y).length) R rfl (by omega) hR (dgs 4294967296 x).length 0 (by omega) (by omega)
  rw [Nat.pow_zero, Nat.mod_one, Nat.zero_mul] at h
  exact h
theorem mul_fits {x y : Nat} (hx : bl x ≤ 65536) (hy : bl y ≤ 65536) (g : bl (x * y) ≤ 65536) : Ev (fun k => nat_Nat_Mul.f k (dgs 4294967296 x) (dgs 4294967296 y)) (dgs 4294967296 (x * y), 0) := by
  have lx := pd_len (n := x) (k := 2048) (by omega)
  have ly := pd_len (n := y) (k := 2048) (by omega)
  refine Ev.congr (fun k => ?_) (mul_all x y _ (by omega) (mul_checked x y (by omega) g))
  rw [mul_head hx hy, if_neg]
  intro hbig
  have h1 : x ≠ 0 := by rintro rfl; rw [bl_zero] at hbig; omega
  have h2 : y ≠ 0 := by rintro rfl; rw [bl_zero] at hbig; omega
  have := bl_mul h1 h2
  omega
theorem mul_big {x y : Nat} (hx : bl x ≤ 65536) (hy : bl y ≤ 65536) (g : ¬ bl (x * y) ≤ 65536) : Ev (fun k => nat_Nat_Mul.f k (dgs 4294967296 x) (dgs 4294967296 y)) ([], 41) := by
  have lx := pd_len (n := x) (k := 2048) (by omega)
  have ly := pd_len (n := y) (k := 2048) (by omega)
  by_cases c : ((bl x : Nat) : Int) + ((bl y : Nat) : Int) > 65537
  · refine Ev.congr (fun k => ?_) (Ev.now _)
    rw [mul_head hx hy, if_pos c]
  · refine Ev.congr (fun k => ?_) (mul_all x y _ (by omega) (mul_over x y (by omega) g))
    rw [mul_head hx hy, if_neg c]
/-- The reference's bits. -/
theorem rbits_loop : ∀ (t : Nat) (a : Int), t < 4294967296 → 0 ≤ a → a + (bl t : Nat) ≤ 4611686018427387904 → Ev (fun k => heraldref04_Bits.l0 k a (t : Int)) (a + (bl t : Nat)) := by
  intro t
  induction t using Nat.strongRecOn with
  | ind t ih =>
    intro a ht h0 h1
    by_cases h : t = 0
    · subst h
      refine Ev.step (f := fun _ => some (a + (bl 0 : Nat))) (fun k => ?_) (Ev.now _)
      rw [heraldref04_Bits.l0, if_neg (by omega)]
      simp [bl_zero]
    · have hh := bl_half h
      refine Ev.step (fun k => ?_) (by
        have := ih (t / 2) (by omega) (a + 1) (by omega) (by omega) (by omega)
        rw [show a + 1 + ((bl (t / 2) : Nat) : Int) = a + ((bl t : Nat) : Int) by omega] at this
        exact this)
      rw [heraldref04_Bits.l0, if_pos (by omega), wrap_in (by omega) (by omega), show (2 : Int) = ((2 : Nat) : Int) from rfl, ← Int.ofNat_tdiv, wrap_in (by omega) (by omega)]
theorem rbits_ev {n : Nat} (hsz : (dgs 65536 n).length ≤ 72057594037927936) : Ev (fun k => heraldref04_Bits.f k (dgs 65536 n)) ((bl n : Nat) : Int) := by
  by_cases hn : n = 0
  · subst hn
    refine Ev.congr (fun k => ?_) (Ev.now _)
    unfold heraldref04_Bits.f
    rw [if_pos (by simp [dgs_zero])]
    rfl
  · have h0 := dgs_len_pos (b := 65536) (n := n) (by omega) hn
    have hbl := bl_dgs (w := 16) (n := n) (by omega) hn
    rw [show (2 : Nat) ^ 16 = 65536 from rfl] at hbl
    have hlt := Nat.mod_lt (n / 65536 ^ ((dgs 65536 n).length - 1)) (show 0 < 65536 by omega)
    obtain ⟨T, hT⟩ : ∃ T, n / 65536 ^ ((dgs 65536 n).length - 1) % 65536 = T := ⟨_, rfl⟩
    rw [hT] at hbl hlt
    have hb16 : bl T ≤ 16 := bl_le.mpr (by rw [show (2 : Nat) ^ 16 = 65536 from rfl]; exact hlt)
    have h := rbits_loop T (((16 * ((dgs 65536 n).length - 1) : Nat)) : Int) (by omega) (by omega) (by omega)
    rw [show (((16 * ((dgs 65536 n).length - 1) : Nat)) : Int) + ((bl T : Nat) : Int) = ((bl n : Nat) : Int) by omega] at h
    refine Ev.congr (fun k => ?_) h
    have hw : wrap64 (((dgs 65536 n).length : Int) - 1) = (((dgs 65536 n).length - 1 : Nat) : Int) := by rw [wrap_in (by omega) (by omega)]; omega
    unfold heraldref04_Bits.f
    rw [if_neg (by omega), hw, if_pos (by omega), if_pos (by omega), rd_dgs (by omega), hT, wrap_in (by omega) (by omega)]
    congr 1
theorem fit_ev {n : Nat} (hsz : (dgs 65536 n).length ≤ 72057594037927936) : Ev (fun k => heraldref04_Fit.f k (dgs 65536 n)) (if bl n ≤ 65536 then (dgs 65536 n, 0) else ([], 41)) := by
  refine (rbits_ev hsz).bind ?_
  refine Ev.congr (fun k => ?_) (Ev.now _)
  by_cases g : bl n ≤ 65536
  · rw [if_neg (by omega), if_pos g]
  · rw [if_pos (by omega), if_neg g]
end Go.Proofs.YtgcngbmkgjphpaaDoor.Nums
end

section
namespace Go.Proofs.YtgcngbmkgjphpaaDoor.PAll
open Go.RowKit Go.Proofs.YtgcngbmkgjphpaaDoorW.PrintWords Go.Proofs.YtgcngbmkgjphpaaDoorW.PrintLast Go.Proofs.YtgcngbmkgjphpaaDoorW.PrintMore
set_option linter.unusedVariables false
set_option linter.unusedSimpArgs false
def strings_TrimLeft.f (k : Nat) (a0 a1 : ByteArray) : Option ByteArray := if a1 = (⟨#[48]⟩ : ByteArray) then strings_trimLeftByte.f k a0 48 else none
set_option maxRecDepth 20000 in
set_option maxHeartbeats 800000 in
theorem strings_TrimLeft.calls (k : Nat) (a0 a1 : ByteArray) (r : ByteArray) (w : World) (h : strings_TrimLeft.f k a0 a1 = some r) :
    Calls Tryd.prog 52 #[.string a0, .string a1] w fun e w' => e = .returned (.string r) ∧ Drawn0 w w' := by
  unfold strings_TrimLeft.f at h
  split at h
  case isFalse => simp at h
  case isTrue hr =>
  subst hr
  by_cases c : a0.toList = ([] : List UInt8)
  · obtain rfl : a0 = (⟨#[]⟩ : ByteArray) := by
      rw [ByteArray.toList_eq] at c
      cases a0 with | mk d => cases d with | mk l => simp at c; rw [c]
    obtain rfl : (⟨#[]⟩ : ByteArray) = r := by
      cases k with
      | zero => exact absurd h (by simp [strings_trimLeftByte.f, strings_trimLeftByte.l0])
      | succ k =>
        have h2 : strings_trimLeftByte.l0 (k + 1) (⟨#[]⟩ : ByteArray) 48 = some r := h
        rw [strings_trimLeftByte.l0, if_neg (by decide)] at h2
        exact Option.some.inj h2
    clear h
    go_enter Tryd.func52, Tryd.ntmps52
    go_wp2
    go_ret
    exact ⟨rfl, by repeat (first | exact Drawn0.refl _ | apply Drawn0.step)⟩
  · have c0 : (a0.toList == ([] : List UInt8)) = false := beq_eq_false_iff_ne.mpr c
    have H := Aside0.mk h
    clear h c
    go_enter Tryd.func52, Tryd.ntmps52
    go_wp2_with (go_at_call 64; refine (strings_trimLeftByte.calls k a0 48 r _ H.out).mono ?_; rintro e w' ⟨rfl, hd⟩)
    go_ret
    exact ⟨rfl, by first | exact hd | (repeat (first | exact Drawn0.refl _ | exact hd | apply Drawn0.step))⟩
end Go.Proofs.YtgcngbmkgjphpaaDoor.PAll
end

section
namespace Go.Proofs.YtgcngbmkgjphpaaDoor.PAll
open Go.RowKit Go.Proofs.YtgcngbmkgjphpaaDoorW.PrintWords Go.Proofs.YtgcngbmkgjphpaaDoorW.PrintLast Go.Proofs.YtgcngbmkgjphpaaDoorW.PrintMore
attribute [local go_sem] max2_int min2_int max_two min_two max_three min_three max_four min_four   -- for this text's walks alone
set_option linter.unusedVariables false
set_option linter.unusedSimpArgs false
mutual
def nat_Nat_Text.l0 : Nat → List Int → List Int → Option (ByteArray)
  | 0, _, _ => none
  | k + 1, x3, x130000 => if (x130000.length : Int) > 0 then ((nat_Nat_by.f k x130000 1000000000).bind fun bt130 => (nat_Nat_Text.l1 k x3 bt130.2 0 bt130.1)) else (if 0 ≤ (x3.length : Int) then (if ((x3.length : Int) : Int).toNat ≤ 281474976710656 then (nat_Nat_Text.l2 k x3 (List.replicate ((x3.length : Int) : Int).toNat 0) x3 (x3.length : Int) 0) else (none)) else (none))
def nat_Nat_Text.l1 : Nat → List Int → Int → Int → List Int → Option (ByteArray)
  | 0, _, _, _, _ => none
  | k + 1, x3, x4, x21, x130000 => if x21 < 9 then (if x3.length < 140737488355328 then (nat_Nat_Text.l1 k (x3 ++ [(48 + ((Int.tmod x4 10) % 256)) % 256]) ((Int.tdiv x4 10) % 4294967296) (wrap64 (x21 + 1)) x130000) else (none)) else (nat_Nat_Text.l0 k x3 x130000)
def nat_Nat_Text.l2 : Nat → List Int → List Int → List Int → Int → Int → Option (ByteArray)
  | 0, _, _, _, _, _ => none
  | k + 1, x3, x5, x36, x37, x38 => if x38 < x37 then (if 0 ≤ x38 then (if x38 < (x36.length : Int) then (if 0 ≤ (wrap64 ((wrap64 ((x3.length : Int) - 1)) - x38)) then (if (wrap64 ((wrap64 ((x3.length : Int) - 1)) - x38)) < (x5.length : Int) then (nat_Nat_Text.l2 k x3 (x5.set ((wrap64 ((wrap64 ((x3.length : Int) - 1)) - x38)) : Int).toNat (rd x36 x38)) x36 x37 (wrap64 (x38 + 1))) else (none)) else (none)) else (none)) else (none)) else ((strings_TrimLeft.f k (strOfNums x5) (⟨#[48]⟩ : ByteArray)).bind fun t142 => (some t142))
end
def nat_Nat_Text.f (k : Nat) (l0_0 : List Int) : Option (ByteArray) := if (l0_0.length : Int) = 0 then (some (⟨#[48]⟩ : ByteArray)) else (nat_Nat_Text.l0 k ([] : List Int) l0_0)
set_option maxHeartbeats 8000000 in
set_option maxRecDepth 100000 in
theorem nat_Nat_Text.calls (k : Nat) (P0_0_ : Nat → Prop) (A0_0 : Option Addr) (c0_0 : Nat) (l0_0 : List Int) (r : ByteArray) (w : World) (hs0_0 : Kd.V (Kd.int .u32) 79 w w.heap.size (fun k_ => P0_0_ k_) (.slice A0_0 l0_0.length c0_0) l0_0) (h : nat_Nat_Text.f k l0_0 = some r) :
    Calls Tryd.prog 20 #[.agg #[.slice A0_0 l0_0.length c0_0]] w fun e w' => e = .returned (.string r) ∧ Below w.heap.size w w' := by
  have hu26 := Tryd.underlying26
  have HO0_0 := Aside0.mk (show Kd.V (Kd.int .u32) 79 w w.heap.size (fun k_ => (P0_0_ k_ ∨ w.heap.size ≤ k_)) (.slice A0_0 l0_0.length c0_0) l0_0 from Kd.V_mono hs0_0 (fun k_ hk => .inl hk))
  have HB := Aside0.mk (Below.refl w.heap.size w)
  have H : (if (l0_0.length : Int) = 0 then (some (⟨#[48]⟩ : ByteArray)) else (nat_Nat_Text.l0 k ([] : List Int) l0_0)) = some r := h
  clear h
  by_cases c2 : (l0_0.length : Int) = 0
  · rw [if_pos c2] at H
    have c2b0 : ((l0_0.length : Int) == 0) = true := beq_iff_eq.mpr c2
    have c2b1 : ((l0_0.length : Int) != 0) = false := bne_eq_false_iff_eq.mpr c2
    clear c2
    obtain rfl := Option.some.inj H
    go_enter Tryd.func20, Tryd.ntmps20
    go_wp2_with (first | ((with_reducible refine gate_dst (N := 1) rfl ?_); refine box_event ?hg (N := 1) ?hd (cs := #[.slice A0_0 l0_0.length c0_0]) (t := 26) ?hr ?_; (case hd => rfl); (case hg => rfl); (case hr => first | (go_simp; done) | (go_simp; rfl)); intro gb129 hg w3 hbox hb; have n0_ := Aside0.mk (Kd.V_below (Kd.V_elderB (by (with_reducible repeat (first | apply Kd.V_alloc | apply Kd.V_drewN | apply Kd.V_drew)); exact HO0_0.out) gb129 (Nat.le_of_eq hg.symm)) hb); have n1_ := Aside0.mk (below_step (by repeat (first | (with_reducible first | exact HB.out | apply below_alloc | apply pw_below_drewN | apply below_drew1) | exact HB.out)) hb); have n2_ := Aside0.mk (hbox); have n3_ := Aside0.mk ((by rw [hg]; exact (below_size (by repeat (first | (with_reducible first | exact HB.out | apply below_alloc | apply pw_below_drewN | apply below_drew1) | exact HB.out))) : w.heap.size ≤ gb129)); have n4_ := Aside0.mk ((by rw [hg]; exact (below_size (by repeat (first | (with_reducible first | exact HB.out | apply below_alloc | apply pw_below_drewN | apply below_drew1) | exact HB.out))) : w.heap.size ≤ gb129)); clear HO0_0; clear HB; have HO0_0 := n0_; have HB := n1_; have BK129 := n2_; have GW129 := n3_; have GE129 := n4_; clear n0_ n1_ n2_ n3_ n4_; clear hb hbox hg; have hcz4_0 : w3.cell? ⟨gb129, 0, none⟩ = some (.slice A0_0 l0_0.length c0_0) := (blk_cell BK129.out 0).trans rfl; have hfz4_0 := blk_frozen BK129.out 0))
    go_ret
    exact ⟨by first | rfl | (simp [errW_none, errW_some] <;> rfl) | (simp [*, errW_none, errW_some] <;> rfl), by repeat (first | (with_reducible first | exact HB.out | apply below_alloc | apply pw_below_drewN | apply below_drew1 | refine below_set ?_ GE129.out) | exact HB.out)⟩
  · rw [if_neg c2] at H
    have c2b0 : ((l0_0.length : Int) == 0) = false := beq_eq_false_iff_ne.mpr c2
    have c2b1 : ((l0_0.length : Int) != 0) = true := bne_iff_ne.mpr c2
    have c2b2 : ¬ (l0_0 = []) := fun h_ => c2 (by rw [h_]; rfl)
    have H' := Aside0.mk H
    clear H
    go_enter Tryd.func20, Tryd.ntmps20
    go_wp2_with (first | ((with_reducible refine gate_dst (N := 1) rfl ?_); refine box_event ?hg (N := 1) ?hd (cs := #[.slice A0_0 l0_0.length c0_0]) (t := 26) ?hr ?_; (case hd => rfl); (case hg => rfl); (case hr => first | (go_simp; done) | (go_simp; rfl)); intro gb129 hg w5 hbox hb; have n0_ := Aside0.mk (Kd.V_below (Kd.V_elderB (by (with_reducible repeat (first | apply Kd.V_alloc | apply Kd.V_drewN | apply Kd.V_drew)); exact HO0_0.out) gb129 (Nat.le_of_eq hg.symm)) hb); have n1_ := Aside0.mk (below_step (by repeat (first | (with_reducible first | exact HB.out | apply below_alloc | apply pw_below_drewN | apply below_drew1) | exact HB.out)) hb); have n2_ := Aside0.mk (hbox); have n3_ := Aside0.mk ((by rw [hg]; exact (below_size (by repeat (first | (with_reducible first | exact HB.out | apply below_alloc | apply pw_below_drewN | apply below_drew1) | exact HB.out))) : w.heap.size ≤ gb129)); have n4_ := Aside0.mk ((by rw [hg]; exact (below_size (by repeat (first | (with_reducible first | exact HB.out | apply below_alloc | apply pw_below_drewN | apply below_drew1) | exact HB.out))) : w.heap.size ≤ gb129)); clear HO0_0; clear HB; have HO0_0 := n0_; have HB := n1_; have BK129 := n2_; have GW129 := n3_; have GE129 := n4_; clear n0_ n1_ n2_ n3_ n4_; clear hb hbox hg; have hcz6_0 : w5.cell? ⟨gb129, 0, none⟩ = some (.slice A0_0 l0_0.length c0_0) := (blk_cell BK129.out 0).trans rfl; have hfz6_0 := blk_frozen BK129.out 0))
    go_loopg [3] k (fun kq v3 w' => ∃ (x3_1 : List Int) (x130000_1 : List Int) (u130000 : Value), Aside0 (nat_Nat_Text.l0 kq x3_1 x130000_1 = some r) ∧ Aside0 (kq ≤ k) ∧ Aside0 (Kd.R (Kd.int .u8) 5 w' w.heap.size (fun k_ => (w.heap.size ≤ k_)) v3 x3_1) ∧ Aside0 (Kd.V (Kd.int .u32) 79 w' w.heap.size (fun k_ => (P0_0_ k_ ∨ w.heap.size ≤ k_) ∧ some k_ ≠ (v3 : Value).ownBlock ∧ k_ ≠ gb129) u130000 x130000_1) ∧ Aside0 (w'.heap[gb129]? = some (.cells #[u130000] 26 (0, 0))) ∧ Aside0 (Below w.heap.size w w'))
    case atStart => exact ⟨(([] : List Int)), (l0_0), (.slice A0_0 l0_0.length c0_0), H', ⟨Nat.le_refl _⟩, ⟨by first | exact Kd.R_nil _ _ _ _ _ | exact Kd.N_nil _ _ _ _ _ | exact Kd.V_nil _ _ _ _ _ | exact Kd.Q_nil _ _ _ _ _ | exact Kd.S_nil _ _ _ _ _⟩, ⟨by (with_reducible repeat (first | apply Kd.V_alloc | apply Kd.V_drewN | apply Kd.V_drew)); exact Kd.V_mono HO0_0.out (fun _ hk => ⟨hk.1, ⟨(by simp [Value.ownBlock]), hk.2⟩⟩)⟩, ⟨by (with_reducible repeat (first | refine blk_drewN ?_ _ | refine blk_drew ?_ | refine blk_alloc ?_ _)); exact BK129.out⟩, ⟨by repeat (first | (with_reducible first | exact HB.out | apply below_alloc | apply pw_below_drewN | apply below_drew1 | refine below_set ?_ GE129.out) | exact HB.out)⟩⟩
    case round =>
      clear H'
      try clear c2
      try clear c2b0
      try clear c2b1
      try clear c2b2
      try clear p2
      try clear hcz4_0
      try clear hcz6_0
      try clear hfz4_0
      try clear hfz6_0
      obtain ⟨x3_1, x130000_1, u130000, HA, HK1, HO_3, HO_130000, BK129, HB⟩ := hrel
      cases gk with
      | zero => exact absurd HA.out (by simp [nat_Nat_Text.l0])
      | succ k1 =>
        have H := HA.out
        clear HA
        simp only [nat_Nat_Text.l0] at H
        by_cases c7 : (x130000_1.length : Int) > 0
        · rw [if_pos c7] at H
          have c7b0 : decide (0 < (x130000_1.length : Int)) = true := decide_eq_true c7
          have c7b1 : decide (0 < x130000_1.length) = true := decide_eq_true (by omega)
          clear c7
          replace H := Option.bind_eq_some_iff.mp H
          obtain ⟨⟨t130, t133⟩, A80, H⟩ := H
          replace H : (nat_Nat_Text.l1 k1 x3_1 t133 0 t130) = some r := H
          have A8 := Aside0.mk A80
          clear A80
          have H' := Aside0.mk H
          clear H
          have hcz9_0 : wr.cell? ⟨gb129, 0, none⟩ = some (u130000) := (blk_cell BK129.out 0).trans rfl
          have hfz9_0 := blk_frozen BK129.out 0
          obtain ⟨Ao10, co10, eo10⟩ := Kd.V_slice HO_130000.out
          subst eo10
          go_wp2_with (first | ((with_reducible refine gate_callee (f := 51) rfl ?_); refine goesL_ (some 18) rfl rfl Tryd.func51 (by kernel_rfl) rfl #[.agg #[.slice Ao10 x130000_1.length co10], .int .u32 1000000000] rfl (by (try simp only [List.map_toArray, List.map_cons, List.map_nil]); first | done | rfl | (simp only [List.length_drop, List.length_take]; rfl)) ?_; (with_reducible refine (nat_Nat_by.calls k1 _ _ x130000_1 1000000000 t130 t133 _ ?side1 ?side2 A8.out).mono ?_); (case side1 => repeat (first | exact (Kd.V_reads' HO_130000.out).2.2 | (with_reducible refine Kd.C_alloc ?_ _) | (with_reducible refine Kd.C_drewN ?_ _) | (with_reducible refine Kd.C_drew ?_))); (case side2 => exact (Kd.V_reads' HO_130000.out).2.1); rintro e w11 ⟨v131, rfl, ho0, hb⟩; refine ⟨_, rfl, ?_⟩; have n0_ := Aside0.mk (Kd.R_below (by (with_reducible repeat (first | apply Kd.R_alloc | apply Kd.R_drewN | apply Kd.R_drew)); exact HO_3.out) hb); have n1_ := Aside0.mk (Kd.V_below (by (with_reducible repeat (first | apply Kd.V_alloc | apply Kd.V_drewN | apply Kd.V_drew)); exact HO_130000.out) hb); have n2_ := Aside0.mk (Kd.V_lower (Kd.V_mono (ok' := fun k_ => (P0_0_ k_ ∨ w.heap.size ≤ k_) ∧ some k_ ≠ (u3 : Value).ownBlock ∧ k_ ≠ gb129) ho0 (fun k_ hk_ => ⟨(.inr (Nat.le_trans (below_size (by repeat (first | (with_reducible first | exact HB.out | apply below_alloc | apply pw_below_drewN | apply below_drew1 | refine below_set ?_ GE129.out) | exact HB.out))) hk_)), (Kd.fresh' (Kd.R_lt (by (with_reducible repeat (first | apply Kd.R_alloc | apply Kd.R_drewN | apply Kd.R_drew)); exact HO_3.out)) k_ hk_), (Kd.freshB (g := gb129) (o := .cells #[.slice Ao10 x130000_1.length co10] 26 (0, 0)) (by (with_reducible repeat (first | refine blk_drewN ?_ _ | refine blk_drew ?_ | refine blk_alloc ?_ _)); exact BK129.out) k_ hk_)⟩)) (below_size (by repeat (first | (with_reducible first | exact HB.out | apply below_alloc | apply pw_below_drewN | apply below_drew1 | refine below_set ?_ GE129.out) | exact HB.out)))); have n3_ := Aside0.mk (blk_below (g := gb129) (o := .cells #[.slice Ao10 x130000_1.length co10] 26 (0, 0)) (by (with_reducible repeat (first | refine blk_drewN ?_ _ | refine blk_drew ?_ | refine blk_alloc ?_ _)); exact BK129.out) hb); have n4_ := Aside0.mk (below_step (by repeat (first | (with_reducible first | exact HB.out | apply below_alloc | apply pw_below_drewN | apply below_drew1 | refine below_set ?_ GE129.out) | exact HB.out)) hb); clear HO_3; clear HO_130000; clear BK129; clear HB; have HO_3 := n0_; have HO_130000 := n1_; have HO132 := n2_; have BK129 := n3_; have HB := n4_; clear n0_ n1_ n2_ n3_ n4_; (try clear hb); (try clear hb2); (try clear hk); (try clear hi); (try clear ho0); obtain ⟨Ao12, co12, eo12⟩ := Kd.V_slice HO132.out; subst eo12; have hcz13_0 : w11.cell? ⟨gb129, 0, none⟩ = some (.slice Ao10 x130000_1.length co10) := (blk_cell BK129.out 0).trans rfl; have hfz13_0 := blk_frozen BK129.out 0))
          go_loopg [3, 4, 21] k1 (fun kq v3 v4 v21 w' => ∃ (x3_2 : List Int) (x4_2 : Int) (x21_2 : Int), v4 = .int .u32 x4_2 ∧ v21 = .int .i64 x21_2 ∧ Aside0 (nat_Nat_Text.l1 kq x3_2 x4_2 x21_2 t130 = some r) ∧ Aside0 (kq ≤ k1) ∧ Aside0 (Kd.R (Kd.int .u8) 5 w' w.heap.size (fun k_ => (w.heap.size ≤ k_)) v3 x3_2) ∧ Aside0 (Kd.V (Kd.int .u32) 79 w' w.heap.size (fun k_ => (P0_0_ k_ ∨ w.heap.size ≤ k_) ∧ some k_ ≠ (v3 : Value).ownBlock ∧ k_ ≠ gb129) (.slice Ao12 t130.length co12) t130) ∧ Aside0 (w'.heap[gb129]? = some (.cells #[(.slice Ao12 t130.length co12)] 26 (0, 0))) ∧ Aside0 (Below w.heap.size w w'))
          case atStart => exact ⟨(x3_1), (t133), (0), (by first | rfl | (simp; done) | (simp [*]; done) | (simp [i64_w]; done) | (simp [*, i64_w]; done)), (by first | rfl | (simp; done) | (simp [*]; done) | (simp [i64_w]; done) | (simp [*, i64_w]; done)), H', ⟨Nat.le_refl _⟩, ⟨by (with_reducible repeat (first | apply Kd.R_alloc | apply Kd.R_drewN | apply Kd.R_drew)); exact Kd.R_mono (Kd.R_far (p := ⟨gb129, 0, none⟩) (Kd.R_types HO_3.out BK129.out (by decide)) (fun _ hk => hk.2) (.slice Ao12 t130.length co12)) (fun _ hk => hk.1)⟩, ⟨by (with_reducible repeat (first | apply Kd.V_alloc | apply Kd.V_drewN | apply Kd.V_drew)); exact Kd.V_mono (Kd.V_far (p := ⟨gb129, 0, none⟩) (Kd.V_mono HO132.out (fun k_ hk => (⟨hk, hk.2.2⟩ : _ ∧ k_ ≠ gb129))) (fun _ hk => hk.2) (.slice Ao12 t130.length co12)) (fun _ hk => ⟨hk.1.1, ⟨hk.1.2.1, hk.1.2.2⟩⟩)⟩, ⟨by (with_reducible repeat (first | refine blk_drewN ?_ _ | refine blk_drew ?_ | refine blk_alloc ?_ _)); refine blk_put (cs := #[.slice Ao10 x130000_1.length co10]) ?_ 0 _ rfl; (with_reducible repeat (first | refine blk_drewN ?_ _ | refine blk_drew ?_ | refine blk_alloc ?_ _)); exact BK129.out⟩, ⟨by repeat (first | (with_reducible first | exact HB.out | apply below_alloc | apply pw_below_drewN | apply below_drew1 | refine below_set ?_ GE129.out) | exact HB.out)⟩⟩
          case round =>
            clear H'
            try clear c2
            try clear c2b0
            try clear c2b1
            try clear c2b2
            try clear p2
            try clear c5
            try clear c7
            try clear c7b0
            try clear c7b1
            try clear hcz13_0
            try clear hcz4_0
            try clear hcz6_0
            try clear hcz9_0
            try clear hfz13_0
            try clear hfz4_0
            try clear hfz6_0
            try clear hfz9_0
            try clear p2
            obtain ⟨x3_2, x4_2, x21_2, rfl, rfl, HA, HK2, HO_3, HO_130000, BK129, HB⟩ := hrel
            cases gk with
            | zero => exact absurd HA.out (by simp [nat_Nat_Text.l1])
            | succ k2 =>
              have H := HA.out
              clear HA
              simp only [nat_Nat_Text.l1] at H
              by_cases c14 : x21_2 < 9
              · rw [if_pos c14] at H
                have c14b0 : decide (x21_2 < 9) = true := decide_eq_true c14
                clear c14
                by_cases c15 : x3_2.length < 140737488355328
                · rw [if_pos c15] at H
                  have LMc15 := Aside0.mk c15
                  clear c15
                  obtain ⟨y134, hy134⟩ : ∃ y_ : List Int, y_ = (x3_2 ++ [(48 + ((Int.tmod x4_2 10) % 256)) % 256]) := ⟨_, rfl⟩
                  replace H : (nat_Nat_Text.l1 k2 y134 ((Int.tdiv x4_2 10) % 4294967296) (wrap64 (x21_2 + 1)) t130) = some r := by first | (rw [hy134]; with_reducible exact H) | (have H2_ := (Option.bind_some _ _).symm.trans H; rw [hy134]; with_reducible exact H2_) | (have H2_ := (Option.bind_some _ _).symm.trans H; with_reducible exact H2_) | with_reducible exact H | (rw [hy134]; exact H) | exact H
                  have Ny134 := Aside0.mk hy134
                  clear hy134
                  have H' := Aside0.mk H
                  clear H
                  go_wp2_with (first | ((with_reducible refine gate_builtin (b := .append) (xs := #[.tmp 23, .tmp 28]) rfl ?_); at_builtin; refine Kd.R_append (Kd.int .u8) (w0 := w) w.heap.size rfl (.tmp 23) (.tmp 28) 77 5 (.int .u8 0) 1 rfl Tryd.underlying77 info5 rfl (by decide) (by omega) u3 x3_2 ((48 + (Int.tmod x4_2 10)) % 256) [.int .u8 ((48 + (Int.tmod x4_2 10)) % 256)] (fun k_ => (w.heap.size ≤ k_)) (fun _ => False) rfl rfl ?aP (fun _ hk => hk.elim) ?aF ?aO ?aB ?aS ?aL ?_; (case aP => exact rfl); (case aB => exact (by repeat (first | (with_reducible first | exact HB.out | apply below_alloc | apply pw_below_drewN | apply below_drew1 | refine below_set ?_ GE129.out) | exact HB.out))); (case aF => exact (fun k_ hk => (Nat.le_trans (below_size (by repeat (first | (with_reducible first | exact HB.out | apply below_alloc | apply pw_below_drewN | apply below_drew1 | refine below_set ?_ GE129.out) | exact HB.out))) hk))); (case aO => exact (by (with_reducible repeat (first | apply Kd.R_alloc | apply Kd.R_drewN | apply Kd.R_drew)); exact HO_3.out)); (case aS => exact (below_size (by repeat (first | (with_reducible first | exact HB.out | apply below_alloc | apply pw_below_drewN | apply below_drew1 | refine below_set ?_ GE129.out) | exact HB.out)))); (case aL => have := LMc15.out; omega); intro v135 w16 ho hb hg hat; rw [show (48 + Int.tmod x4_2 10) % 256 = (48 + ((Int.tmod x4_2 10) % 256)) % 256 from by omega, ← Ny134.out] at ho; have n0_ := Aside0.mk (Kd.V_afterv (ok := (fun k_ => (P0_0_ k_ ∨ w.heap.size ≤ k_) ∧ k_ ≠ gb129)) (by (with_reducible repeat (first | apply Kd.V_alloc | apply Kd.V_drewN | apply Kd.V_drew)); exact Kd.V_mono HO_130000.out (fun _ hk => ⟨⟨hk.1, hk.2.2⟩, hk.2.1⟩)) hg hat); have n1_ := Aside0.mk (blk_grown (g := gb129) (o := .cells #[.slice Ao12 t130.length co12] 26 (0, 0)) (by (with_reducible repeat (first | refine blk_drewN ?_ _ | refine blk_drew ?_ | refine blk_alloc ?_ _)); exact BK129.out) hg (Kd.R_ne HO_3.out BK129.out (by decide))); have n2_ := Aside0.mk (hb); have n3_ := Aside0.mk (ho); clear HO_130000; clear BK129; clear HB; clear HO_3; have HO_130000 := n0_; have BK129 := n1_; have HB := n2_; have HO136 := n3_; clear n0_ n1_ n2_ n3_; clear ho hb hg hat))
                  go_roundg k2
                  case measure => have := HK1.out; have := HK2.out; omega
                  case rel => exact ⟨(y134), ((Int.tdiv x4_2 10) % 4294967296), (wrap64 (x21_2 + 1)), (by first | rfl | (simp; done) | (simp [*]; done) | (simp [i64_w]; done) | (simp [*, i64_w]; done)), (by first | rfl | (simp; done) | (simp [*]; done) | (simp [i64_w]; done) | (simp [*, i64_w]; done)), H', ⟨by have := HK1.out; have := HK2.out; omega⟩, ⟨by (with_reducible repeat (first | apply Kd.R_alloc | apply Kd.R_drewN | apply Kd.R_drew)); exact HO136.out⟩, ⟨by (with_reducible repeat (first | apply Kd.V_alloc | apply Kd.V_drewN | apply Kd.V_drew)); exact Kd.V_mono HO_130000.out (fun _ hk => ⟨hk.1.1, ⟨hk.2, hk.1.2⟩⟩)⟩, ⟨by (with_reducible repeat (first | refine blk_drewN ?_ _ | refine blk_drew ?_ | refine blk_alloc ?_ _)); exact BK129.out⟩, ⟨by repeat (first | (with_reducible first | exact HB.out | apply below_alloc | apply pw_below_drewN | apply below_drew1 | refine below_set ?_ GE129.out) | exact HB.out)⟩⟩
                · rw [if_neg c15] at H
                  exact absurd H (by simp)
              · rw [if_neg c14] at H
                have c14b0 : decide (x21_2 < 9) = false := decide_eq_false c14
                clear c14
                have H' := Aside0.mk H
                clear H
                go_wp2
                go_roundg k2
                case measure => have := HK1.out; have := HK2.out; omega
                case rel => exact ⟨(x3_2), (t130), (.slice Ao12 t130.length co12), H', ⟨by have := HK1.out; have := HK2.out; omega⟩, ⟨by (with_reducible repeat (first | apply Kd.R_alloc | apply Kd.R_drewN | apply Kd.R_drew)); exact HO_3.out⟩, ⟨by (with_reducible repeat (first | apply Kd.V_alloc | apply Kd.V_drewN | apply Kd.V_drew)); exact HO_130000.out⟩, ⟨by (with_reducible repeat (first | refine blk_drewN ?_ _ | refine blk_drew ?_ | refine blk_alloc ?_ _)); exact BK129.out⟩, ⟨by repeat (first | (with_reducible first | exact HB.out | apply below_alloc | apply pw_below_drewN | apply below_drew1 | refine below_set ?_ GE129.out) | exact HB.out)⟩⟩
        · rw [if_neg c7] at H
          have c7b0 : decide (0 < (x130000_1.length : Int)) = false := decide_eq_false c7
          have c7b1 : decide (0 < x130000_1.length) = false := decide_eq_false (by omega)
          clear c7
          by_cases c17 : 0 ≤ (x3_1.length : Int)
          · rw [if_pos c17] at H
            have c17b0 := eq_true c17
            have c17b1 : decide (0 ≤ (x3_1.length : Int)) = true := decide_eq_true c17
            clear c17
            by_cases c18 : ((x3_1.length : Int) : Int).toNat ≤ 281474976710656
            · rw [if_pos c18] at H
              have c18b0 := eq_true c18
              have c18b1 : decide (((x3_1.length : Int) : Int).toNat ≤ 281474976710656) = true := decide_eq_true c18
              clear c18
              obtain ⟨y137, hy137⟩ : ∃ y_ : List Int, y_ = (List.replicate ((x3_1.length : Int) : Int).toNat 0) := ⟨_, rfl⟩
              replace H : (nat_Nat_Text.l2 k1 x3_1 y137 x3_1 (x3_1.length : Int) 0) = some r := by first | (rw [hy137]; with_reducible exact H) | (have H2_ := (Option.bind_some _ _).symm.trans H; rw [hy137]; with_reducible exact H2_) | (have H2_ := (Option.bind_some _ _).symm.trans H; with_reducible exact H2_) | with_reducible exact H | (rw [hy137]; exact H) | exact H
              have Ny137 := Aside0.mk hy137
              clear hy137
              have H' := Aside0.mk H
              clear H
              have hcz19_0 : wr.cell? ⟨gb129, 0, none⟩ = some (u130000) := (blk_cell BK129.out 0).trans rfl
              have hfz19_0 := blk_frozen BK129.out 0
              obtain ⟨Ao20, co20, eo20⟩ := Kd.V_slice HO_130000.out
              subst eo20
              obtain ⟨Ao21, co21, eo21⟩ := Kd.R_slice HO_3.out
              subst eo21
              go_wp2_with (first | ((with_reducible refine gate_dst (N := 35) rfl ?_); refine Kd.R_make (Kd.int .u8) _ 5 rfl (N := 35) rfl 77 _ _ rfl (x3_1.length : Int) rfl rfl Tryd.underlying77 (.int .u8 0) 1 info5 rfl (by decide) (by omega) 0 (ok := fun _ => True) (okp := fun _ => True) rfl (fun _ hk => hk) trivial (of_decide_eq_true (by first | (with_reducible assumption) | assumption)) (Nat.le_trans (Nat.mul_le_mul_right _ (of_decide_eq_true (by first | (with_reducible assumption) | assumption) : (x3_1.length : Int).toNat ≤ 281474976710656)) (by omega)) (Below.refl _ _) (Nat.le_refl _) ?_; intro v138 w22 ho23 hb hg_ hnew_; clear hg_ hnew_; (first | rw [← Ny137.out] at ho23 | (simp only [Int.reduceToNat] at ho23; rw [← Ny137.out] at ho23)); have n0_ := Aside0.mk (Kd.R_elder' (by (with_reducible repeat (first | apply Kd.R_alloc | apply Kd.R_drewN | apply Kd.R_drew)); exact HO_3.out) (Kd.R_base ho23) hb); have n1_ := Aside0.mk (Kd.V_elder' (by (with_reducible repeat (first | apply Kd.V_alloc | apply Kd.V_drewN | apply Kd.V_drew)); exact HO_130000.out) (Kd.R_base ho23) hb); have n2_ := Aside0.mk (Kd.R_lower (Kd.R_new' (Kd.R_newM (M := fun k_ => (w.heap.size ≤ k_)) ho23 (below_size (by repeat (first | (with_reducible first | exact HB.out | apply below_alloc | apply pw_below_drewN | apply below_drew1 | refine below_set ?_ GE129.out) | exact HB.out))) (fun k_ h_ => h_)) (Kd.R_lt (by (with_reducible repeat (first | apply Kd.R_alloc | apply Kd.R_drewN | apply Kd.R_drew)); exact HO_3.out))) (below_size (by repeat (first | (with_reducible first | exact HB.out | apply below_alloc | apply pw_below_drewN | apply below_drew1 | refine below_set ?_ GE129.out) | exact HB.out)))); have n3_ := Aside0.mk (blk_below (g := gb129) (o := .cells #[.slice Ao20 x130000_1.length co20] 26 (0, 0)) (by (with_reducible repeat (first | refine blk_drewN ?_ _ | refine blk_drew ?_ | refine blk_alloc ?_ _)); exact BK129.out) hb); have n4_ := Aside0.mk (below_step (by repeat (first | (with_reducible first | exact HB.out | apply below_alloc | apply pw_below_drewN | apply below_drew1 | refine below_set ?_ GE129.out) | exact HB.out)) hb); clear HO_3; clear HO_130000; clear BK129; clear HB; have HO_3 := n0_; have HO_130000 := n1_; have HO139 := n2_; have BK129 := n3_; have HB := n4_; clear n0_ n1_ n2_ n3_ n4_; clear hb ho23))
              go_loopg [38] k1 (fun kq v38 w' => ∃ (x5_2 : List Int) (x38_2 : Int), v38 = .int .i64 x38_2 ∧ Aside0 (nat_Nat_Text.l2 kq x3_1 x5_2 x3_1 (x3_1.length : Int) x38_2 = some r) ∧ Aside0 (kq ≤ k1) ∧ Aside0 (Kd.R (Kd.int .u8) 5 w' w.heap.size (fun k_ => (w.heap.size ≤ k_) ∧ some k_ ≠ (v138 : Value).ownBlock) (.slice Ao21 x3_1.length co21) x3_1) ∧ Aside0 (Kd.R (Kd.int .u8) 5 w' w.heap.size (fun k_ => (w.heap.size ≤ k_) ∧ some k_ ≠ ((.slice Ao21 x3_1.length co21) : Value).ownBlock ∧ some k_ ≠ ((.slice Ao21 x3_1.length co21) : Value).ownBlock) v138 x5_2) ∧ Aside0 (Kd.R (Kd.int .u8) 5 w' w.heap.size (fun k_ => (w.heap.size ≤ k_) ∧ some k_ ≠ (v138 : Value).ownBlock) (.slice Ao21 x3_1.length co21) x3_1) ∧ Aside0 (Kd.V (Kd.int .u32) 79 w' w.heap.size (fun k_ => (P0_0_ k_ ∨ w.heap.size ≤ k_) ∧ some k_ ≠ ((.slice Ao21 x3_1.length co21) : Value).ownBlock ∧ some k_ ≠ (v138 : Value).ownBlock ∧ some k_ ≠ ((.slice Ao21 x3_1.length co21) : Value).ownBlock ∧ k_ ≠ gb129) (.slice Ao20 x130000_1.length co20) x130000_1) ∧ Aside0 (w'.heap[gb129]? = some (.cells #[(.slice Ao20 x130000_1.length co20)] 26 (0, 0))) ∧ Aside0 (Below w.heap.size w w'))
              case atStart => exact ⟨(y137), (0), (by first | rfl | (simp; done) | (simp [*]; done) | (simp [i64_w]; done) | (simp [*, i64_w]; done)), H', ⟨Nat.le_refl _⟩, ⟨by (with_reducible repeat (first | apply Kd.R_alloc | apply Kd.R_drewN | apply Kd.R_drew)); exact HO_3.out⟩, ⟨by (with_reducible repeat (first | apply Kd.R_alloc | apply Kd.R_drewN | apply Kd.R_drew)); exact Kd.R_mono HO139.out (fun _ hk => ⟨hk.1.1, ⟨hk.2, hk.2⟩⟩)⟩, ⟨by (with_reducible repeat (first | apply Kd.R_alloc | apply Kd.R_drewN | apply Kd.R_drew)); exact HO_3.out⟩, ⟨by (with_reducible repeat (first | apply Kd.V_alloc | apply Kd.V_drewN | apply Kd.V_drew)); exact Kd.V_mono HO_130000.out (fun _ hk => ⟨hk.1.1, ⟨hk.1.2.1, ⟨hk.2, ⟨hk.1.2.1, hk.1.2.2⟩⟩⟩⟩)⟩, ⟨by (with_reducible repeat (first | refine blk_drewN ?_ _ | refine blk_drew ?_ | refine blk_alloc ?_ _)); exact BK129.out⟩, ⟨by repeat (first | (with_reducible first | exact HB.out | apply below_alloc | apply pw_below_drewN | apply below_drew1 | refine below_set ?_ GE129.out) | exact HB.out)⟩⟩
              case round =>
                clear H'
                try clear c1
                try clear c2
                try clear c2b0
                try clear c2b1
                try clear c2b2
                try clear p2
                try clear c5
                try clear p6
                try clear c7
                try clear c7b0
                try clear c7b1
                try clear c14
                try clear c14b0
                try clear c15
                try clear c17
                try clear c17b0
                try clear c17b1
                try clear c18
                try clear c18b0
                try clear c18b1
                try clear c20
                try clear hcz13_0
                try clear hcz19_0
                try clear hcz4_0
                try clear hcz6_0
                try clear hcz9_0
                try clear hfz13_0
                try clear hfz19_0
                try clear hfz4_0
                try clear hfz6_0
                try clear hfz9_0
                try clear p2
                obtain ⟨x5_2, x38_2, rfl, HA, HK2, HO_3, HO_5, HO_36, HO_130000, BK129, HB⟩ := hrel
                cases gk with
                | zero => exact absurd HA.out (by simp [nat_Nat_Text.l2])
                | succ k2 =>
                  have H := HA.out
                  clear HA
                  simp only [nat_Nat_Text.l2] at H
                  by_cases c24 : x38_2 < (x3_1.length : Int)
                  · rw [if_pos c24] at H
                    have c24b0 : decide (x38_2 < (x3_1.length : Int)) = true := decide_eq_true c24
                    clear c24
                    by_cases c25 : 0 ≤ x38_2
                    · rw [if_pos c25] at H
                      have c25b0 : decide (0 ≤ x38_2) = true := decide_eq_true c25
                      clear c25
                      by_cases c26 : x38_2 < (x3_1.length : Int)
                      · rw [if_pos c26] at H
                        have c26b0 : decide (x38_2 < (x3_1.length : Int)) = true := decide_eq_true c26
                        clear c26
                        obtain ⟨ji27, hji27⟩ : ∃ j_ : Int, (wrap64 ((wrap64 ((x3_1.length : Int) - 1)) - x38_2)) = j_ := ⟨_, rfl⟩
                        replace H : (if 0 ≤ (ji27) then (if (ji27) < (x5_2.length : Int) then (nat_Nat_Text.l2 k2 x3_1 (x5_2.set ((ji27) : Int).toNat (rd x3_1 x38_2)) x3_1 (x3_1.length : Int) (wrap64 (x38_2 + 1))) else (none)) else (none)) = some r := by first | (rw [hji27] at H; exact H) | (simp only [hji27] at H ⊢; exact H)
                        have hji27w : (IntKind.i64.wrap ((wrap64 ((x3_1.length : Int) - 1)) - x38_2)) = ji27 := (i64_w _).trans hji27
                        by_cases c28 : 0 ≤ (ji27)
                        · rw [if_pos c28] at H
                          have c28b0 : decide (0 ≤ (ji27)) = true := decide_eq_true c28
                          clear c28
                          by_cases c29 : (ji27) < (x5_2.length : Int)
                          · rw [if_pos c29] at H
                            have c29b0 : decide ((ji27) < (x5_2.length : Int)) = true := decide_eq_true c29
                            clear c29
                            obtain ⟨y141, hy141⟩ : ∃ y_ : List Int, y_ = (x5_2.set ((ji27) : Int).toNat (rd x3_1 x38_2)) := ⟨_, rfl⟩
                            replace H : (nat_Nat_Text.l2 k2 x3_1 y141 x3_1 (x3_1.length : Int) (wrap64 (x38_2 + 1))) = some r := by first | (rw [hy141]; with_reducible exact H) | (have H2_ := (Option.bind_some _ _).symm.trans H; rw [hy141]; with_reducible exact H2_) | (have H2_ := (Option.bind_some _ _).symm.trans H; with_reducible exact H2_) | with_reducible exact H | (rw [hy141]; exact H) | exact H
                            have Ny141 := Aside0.mk hy141
                            clear hy141
                            have H' := Aside0.mk H
                            clear H
                            have p140 : 0 ≤ (x38_2 : Int) := of_decide_eq_true (by first | (with_reducible assumption) | assumption)
                            have q140 : x38_2 < (x3_1.length : Int) := of_decide_eq_true (by first | (with_reducible assumption) | assumption)
                            obtain ⟨ad140, e140, hx140_0⟩ := Kd.at_int (Kd.R_reads' HO_36.out).2.2 x38_2 p140 q140
                            cases e140
                            replace p140 := eq_true p140
                            replace q140 := eq_true q140
                            have p30 : 0 ≤ ((ji27) : Int) := of_decide_eq_true (by first | (with_reducible assumption) | assumption)
                            have q30 : ((ji27) : Int) < ((x5_2.length : Int) : Int) := of_decide_eq_true (by first | (with_reducible assumption) | assumption)
                            obtain ⟨go30, co30, eo30, gb30, gl30, cl30, HG30⟩ := Kd.R_form HO_5.out (by omega)
                            (first | cases eo30 | (injection eo30 with ea_ en_ ec_; (first | subst ea_ | (injection ea_ with ea_; subst ea_)); subst ec_; clear en_))
                            have GB30 := Aside0.mk gb30
                            have GG30 := Aside0.mk HG30
                            clear gb30 gl30 HG30
                            obtain ⟨hx30_0, hf30_0⟩ := Kd.R_celln 0 HO_5.out ((ji27) : Int) p30 q30
                            replace p30 := eq_true p30
                            replace q30 := eq_true q30
                            have HP31 := Kd.R_putg HO_5.out ((ji27) : Int) (rd x3_1 x38_2)
                            go_wp2_with (first | ((with_reducible refine gate_store (t := 5) (p := 50) rfl ?_); refine store_event (t := 5) (p := 50) (v := ?vo_w32) (w1 := (wr.setCell ⟨go30, ((ji27) : Int).toNat, none⟩ (.int .u8 (rd x3_1 x38_2)))) ?hg ?ho ?hn ?hr ?_; (case ho => rfl); (case hg => rfl); (case hn => rfl); (case hr => first | (go_simp; done) | (go_simp; rfl)); intro w32 hw; have hg : wr.grownBy w32 (some go30) := (by rw [hw]; exact HP31.2); have hp_ : Kd.R (Kd.int .u8) 5 w32 w.heap.size (fun k_ => (w.heap.size ≤ k_) ∧ some k_ ≠ (.slice (some ad140) x3_1.length co21 : Value).ownBlock ∧ some k_ ≠ (.slice (some ad140) x3_1.length co21 : Value).ownBlock) (.slice (some ⟨go30, 0, none⟩) x5_2.length co30) y141 := (by rw [hw, Ny141.out]; exact HP31.1); clear HP31; have n0_ := Aside0.mk (Kd.R_after (v := (.slice (some ⟨go30, 0, none⟩) x5_2.length co30)) (v1 := (.slice (some ⟨go30, 0, none⟩) x5_2.length co30)) (ok := (fun k_ => (w.heap.size ≤ k_))) (by (with_reducible repeat (first | apply Kd.R_alloc | apply Kd.R_drewN | apply Kd.R_drew)); exact HO_3.out) hg (.inl rfl)); have n1_ := Aside0.mk (hp_); have n2_ := Aside0.mk (Kd.R_after (v := (.slice (some ⟨go30, 0, none⟩) x5_2.length co30)) (v1 := (.slice (some ⟨go30, 0, none⟩) x5_2.length co30)) (ok := (fun k_ => (w.heap.size ≤ k_))) (by (with_reducible repeat (first | apply Kd.R_alloc | apply Kd.R_drewN | apply Kd.R_drew)); exact HO_36.out) hg (.inl rfl)); have n3_ := Aside0.mk (Kd.V_afterv (v := (.slice (some ⟨go30, 0, none⟩) x5_2.length co30)) (v1 := (.slice (some ⟨go30, 0, none⟩) x5_2.length co30)) (ok := (fun k_ => (P0_0_ k_ ∨ w.heap.size ≤ k_) ∧ some k_ ≠ (.slice (some ad140) x3_1.length co21 : Value).ownBlock ∧ some k_ ≠ (.slice (some ad140) x3_1.length co21 : Value).ownBlock ∧ k_ ≠ gb129)) (by (with_reducible repeat (first | apply Kd.V_alloc | apply Kd.V_drewN | apply Kd.V_drew)); exact Kd.V_mono HO_130000.out (fun _ hk => ⟨⟨hk.1, ⟨hk.2.1, ⟨hk.2.2.2.1, hk.2.2.2.2⟩⟩⟩, hk.2.2.1⟩)) hg (.inl rfl)); have n4_ := Aside0.mk (blk_grown (g := gb129) (o := .cells #[.slice Ao20 x130000_1.length co20] 26 (0, 0)) (by (with_reducible repeat (first | refine blk_drewN ?_ _ | refine blk_drew ?_ | refine blk_alloc ?_ _)); exact BK129.out) hg (Kd.R_ne HO_5.out BK129.out (by decide))); have n5_ := Aside0.mk ((by rw [hw]; exact below_set (HB.out) GB30.out : Below w.heap.size w w32)); clear HO_3; clear HO_5; clear HO_36; clear HO_130000; clear BK129; clear HB; have HO_3 := n0_; have HO_5 := n1_; have HO_36 := n2_; have HO_130000 := n3_; have BK129 := n4_; have HB := n5_; clear n0_ n1_ n2_ n3_ n4_ n5_; clear hg hw hp_))
                            go_roundg k2
                            case measure => have := HK1.out; have := HK2.out; omega
                            case rel => exact ⟨(y141), (wrap64 (x38_2 + 1)), (by first | rfl | (simp; done) | (simp [*]; done) | (simp [i64_w]; done) | (simp [*, i64_w]; done)), H', ⟨by have := HK1.out; have := HK2.out; omega⟩, ⟨by (with_reducible repeat (first | apply Kd.R_alloc | apply Kd.R_drewN | apply Kd.R_drew)); exact HO_3.out⟩, ⟨by (with_reducible repeat (first | apply Kd.R_alloc | apply Kd.R_drewN | apply Kd.R_drew)); exact HO_5.out⟩, ⟨by (with_reducible repeat (first | apply Kd.R_alloc | apply Kd.R_drewN | apply Kd.R_drew)); exact HO_36.out⟩, ⟨by (with_reducible repeat (first | apply Kd.V_alloc | apply Kd.V_drewN | apply Kd.V_drew)); exact Kd.V_mono HO_130000.out (fun _ hk => ⟨hk.1.1, ⟨hk.1.2.1, ⟨hk.2, ⟨hk.1.2.2.1, hk.1.2.2.2⟩⟩⟩⟩)⟩, ⟨by (with_reducible repeat (first | refine blk_drewN ?_ _ | refine blk_drew ?_ | refine blk_alloc ?_ _)); exact BK129.out⟩, ⟨by repeat (first | (with_reducible first | exact HB.out | apply below_alloc | apply pw_below_drewN | apply below_drew1 | refine below_set ?_ GE129.out) | exact HB.out)⟩⟩
                          · rw [if_neg c29] at H
                            exact absurd H (by simp)
                        · rw [if_neg c28] at H
                          exact absurd H (by simp)
                      · rw [if_neg c26] at H
                        exact absurd H (by simp)
                    · rw [if_neg c25] at H
                      exact absurd H (by simp)
                  · rw [if_neg c24] at H
                    have c24b0 : decide (x38_2 < (x3_1.length : Int)) = false := decide_eq_false c24
                    clear c24
                    replace H := Option.bind_eq_some_iff.mp H
                    obtain ⟨t142, A330, H⟩ := H
                    replace H : (some t142) = some r := H
                    have A33 := Aside0.mk A330
                    clear A330
                    obtain rfl := Option.some.inj H
                    have hcv34 := own_string (P := Tryd.prog) Tryd.underlying77 Tryd.underlying5 Tryd.underlying9 (Kd.own_of_R HO_5.out)
                    go_wp2_with (first | ((with_reducible refine gate_callee (f := 52) rfl ?_); refine goesL_ (some 54) rfl rfl Tryd.func52 (by kernel_rfl) rfl #[.string (strOfNums x5_2), .string (⟨#[48]⟩ : ByteArray)] rfl (by (try simp only [List.map_toArray, List.map_cons, List.map_nil]); first | done | rfl | (simp only [List.length_drop, List.length_take]; rfl)) ?_; (with_reducible refine (strings_TrimLeft.calls k2 (strOfNums x5_2) (⟨#[48]⟩ : ByteArray) t142 _ A33.out).mono ?_); rintro e w' ⟨rfl, ⟨nd, rfl⟩⟩; refine ⟨_, rfl, ?_⟩))
                    go_ret
                    exact ⟨by first | rfl | (simp [errW_none, errW_some] <;> rfl) | (simp [*, errW_none, errW_some] <;> rfl), by repeat (first | (with_reducible first | exact HB.out | apply below_alloc | apply pw_below_drewN | apply below_drew1 | refine below_set ?_ GE129.out) | exact HB.out)⟩
            · rw [if_neg c18] at H
              exact absurd H (by simp)
          · rw [if_neg c17] at H
            exact absurd H (by simp)
end Go.Proofs.YtgcngbmkgjphpaaDoor.PAll
end
