/- Texts of this session and printed texts, merged, what is not needed left out: PAllx11, HParse, PAllx23, Dig, TxA, TxP, TxM, TxW, TxS, SgA, SgNear, SgStick, SgJoin, TxQ. -/
import Derived.Test.YteecekhfpfnepaaDoorTtD0
import Derived.Test.YteecekhfpfnepaaDoorTtD1
import Derived.Test.YteecekhfpfnepaaDoorTtD2
import Derived.Test.YteecekhfpfnepaaDoorTtD3
import Derived.Test.YteecekhfpfnepaaDoorTtD4
import Ieee.Arith
section
namespace Go.Proofs.YteecekhfpfnepaaDoor.PAll
open Go.RowKit Go.Proofs.YteecekhfpfnepaaDoorW.PrintWords Go.Proofs.YteecekhfpfnepaaDoorW.PrintLast Go.Proofs.YteecekhfpfnepaaDoorW.PrintMore
attribute [local go_sem] max2_int min2_int max_two min_two max_three min_three max_four min_four   -- for this text's walks alone
set_option linter.unusedVariables false
set_option linter.unusedSimpArgs false
mutual
def single_nearest.j0 : Nat → ByteArray → Int → Bool → Option (Int)
  | 0, _, _, _ => none
  | k + 1, x0, x1, x11 => if x11 = true then (some 0) else (if (wrap64 ((x0.size : Int) + x1)) > 60 then (some 2139095040) else ((conv_bytes.f x0).bind fun t209 => (single_nearest.l0 k x1 (([] : List Int)) (([1] : List Int)) t209 (t209.length : Int) 0)))
def single_nearest.l0 : Nat → Int → List Int → List Int → List Int → Int → Int → Option (Int)
  | 0, _, _, _, _, _, _ => none
  | k + 1, x1, x5, x6, x30, x31, x32 => if x32 < x31 then (if 0 ≤ x32 then (if x32 < (x30.length : Int) then ((single_wide_timesAnd.f k x5 10 (((rd x30 x32) - 48) % 256)).bind fun t213 => (single_nearest.l0 k x1 t213 x6 x30 x31 (wrap64 (x32 + 1)))) else (none)) else (none)) else (single_nearest.l1 k x1 x5 x6 x1 0)
def single_nearest.l1 : Nat → Int → List Int → List Int → Int → Int → Option (Int)
  | 0, _, _, _, _, _ => none
  | k + 1, x1, x5, x6, x42, x43 => if x43 < x42 then ((single_wide_timesAnd.f k x5 10 0).bind fun t216 => (single_nearest.l1 k x1 t216 x6 x42 (wrap64 (x43 + 1)))) else (single_nearest.l2 k x5 x6 (wrap64 (-x1)) 0)
def single_nearest.l2 : Nat → List Int → List Int → Int → Int → Option (Int)
  | 0, _, _, _, _ => none
  | k + 1, x5, x6, x49, x50 => if x50 < x49 then ((single_wide_timesAnd.f k x6 10 0).bind fun t219 => (single_nearest.l2 k x5 t219 x49 (wrap64 (x50 + 1)))) else ((single_ratio.f k x5 x6).bind fun t222 => (some t222))
end
def single_nearest.f (k : Nat) (a0 : ByteArray) (a1 : Int) : Option (Int) := (strings_TrimLeft.f k a0 (⟨#[48]⟩ : ByteArray)).bind fun t202 => (if t202.toList = ([] : List UInt8) then (single_nearest.j0 k t202 a1 true) else (single_nearest.j0 k t202 a1 (decide ((wrap64 ((t202.size : Int) + a1)) < (-60)))))
set_option maxHeartbeats 8000000 in
set_option maxRecDepth 100000 in
theorem single_nearest.calls (k : Nat) (a0 : ByteArray) (a1 : Int) (r : Int) (w : World) (h : single_nearest.f k a0 a1 = some r) :
    Calls Tryd.prog 48 #[.string a0, .int .i64 a1] w fun e w' => e = .returned (.int .u32 r) ∧ Below w.heap.size w w' := by
  have HB := Aside0.mk (Below.refl w.heap.size w)
  have H : ((strings_TrimLeft.f k a0 (⟨#[48]⟩ : ByteArray)).bind fun t202 => (if t202.toList = ([] : List UInt8) then (single_nearest.j0 k t202 a1 true) else (single_nearest.j0 k t202 a1 (decide ((wrap64 ((t202.size : Int) + a1)) < (-60)))))) = some r := h
  clear h
  replace H := Option.bind_eq_some_iff.mp H
  obtain ⟨t202, A30, H⟩ := H
  replace H : (if t202.toList = ([] : List UInt8) then (single_nearest.j0 k t202 a1 true) else (single_nearest.j0 k t202 a1 (decide ((wrap64 ((t202.size : Int) + a1)) < (-60))))) = some r := H
  have A3 := Aside0.mk A30
  clear A30
  have HC4 := Aside0.mk H
  clear H
  go_enter Tryd.func48, Tryd.ntmps48
  go_upto_region 2 with (first | ((with_reducible refine gate_callee (f := 67) rfl ?_); refine goesL_ (some 10) rfl rfl Tryd.func67 (by kernel_rfl) rfl #[.string a0, .string (⟨#[48]⟩ : ByteArray)] rfl (by (try simp only [List.map_toArray, List.map_cons, List.map_nil]); first | done | rfl | (simp only [List.length_drop, List.length_take]; rfl)) ?_; (with_reducible refine (strings_TrimLeft.calls k a0 (⟨#[48]⟩ : ByteArray) t202 _ A3.out).mono ?_); rintro e w' ⟨rfl, ⟨nd, rfl⟩⟩; refine ⟨_, rfl, ?_⟩))
  (try simp only [Act.put, List.setIfInBounds_toArray, List.set_cons_zero, List.set_cons_succ])
  go_cut [11] (fun v11 wc => ∃ (kq : Nat) (x11_3 : Bool), v11 = .bool x11_3 ∧ Aside0 (single_nearest.j0 kq t202 a1 x11_3 = some r) ∧ Aside0 (kq ≤ k) ∧ Aside0 (Below w.heap.size w wc))
  case first =>
    have H := HC4.out
    clear HC4
    by_cases c5 : t202.toList = ([] : List UInt8)
    · rw [if_pos c5] at H
      have c5b0 : (t202.toList == ([] : List UInt8)) = true := beq_iff_eq.mpr c5
      have c5b1 : (t202.toList != ([] : List UInt8)) = false := bne_eq_false_iff_eq.mpr c5
      clear c5
      (first | rw [c5b0] | (simp only [i64_w, i32_w]; rw [c5b0]) | skip)
      have H' := Aside0.mk H
      clear H
      go_wp2
      go_meet
      case rel => exact ⟨_, (true), (by first | rfl | (simp; done) | (simp [*]; done) | (simp [i64_w]; done) | (simp [*, i64_w]; done)), H', ⟨by first | omega | exact Nat.le_refl _⟩, ⟨by repeat (first | (with_reducible first | exact HB.out | apply below_alloc | apply pw_below_drewN | apply below_drew1) | exact HB.out)⟩⟩
    · rw [if_neg c5] at H
      have c5b0 : (t202.toList == ([] : List UInt8)) = false := beq_eq_false_iff_ne.mpr c5
      have c5b1 : (t202.toList != ([] : List UInt8)) = true := bne_iff_ne.mpr c5
      (first | rw [c5b0] | (simp only [i64_w, i32_w]; rw [c5b0]) | skip)
      have H' := Aside0.mk H
      clear H
      go_wp2
      go_meet
      case rel => exact ⟨_, (decide ((wrap64 ((t202.size : Int) + a1)) < (-60))), (by first | rfl | (simp; done) | (simp [*]; done) | (simp [i64_w]; done) | (simp [*, i64_w]; done)), H', ⟨by first | omega | exact Nat.le_refl _⟩, ⟨by repeat (first | (with_reducible first | exact HB.out | apply below_alloc | apply pw_below_drewN | apply below_drew1) | exact HB.out)⟩⟩
  case rest =>
    clear HC4
    try clear p2
    try clear c4
    try clear c5
    try clear c5b0
    try clear c5b1
    obtain ⟨kq, x11_3, rfl, HA, HJ3, HB⟩ := hcut
    cases kq with
    | zero => exact absurd HA.out (by simp [single_nearest.j0])
    | succ kj3 =>
      have H := HA.out
      clear HA
      simp only [single_nearest.j0] at H
      by_cases c6 : x11_3 = true
      · subst c6
        have H1 : (some 0) = some r := by rw [if_pos rfl] at H; exact H
        clear H
        have H := H1
        clear H1
        obtain rfl := Option.some.inj H
        go_wp2
        go_ret
        exact ⟨by first | rfl | (simp [errW_none, errW_some] <;> rfl) | (simp [*, errW_none, errW_some] <;> rfl), by repeat (first | (with_reducible first | exact HB.out | apply below_alloc | apply pw_below_drewN | apply below_drew1) | exact HB.out)⟩
      · replace c6 := Bool.eq_false_iff.mpr c6
        subst c6
        have H1 : (if (wrap64 ((t202.size : Int) + a1)) > 60 then (some 2139095040) else ((conv_bytes.f t202).bind fun t209 => (single_nearest.l0 kj3 a1 (([] : List Int)) (([1] : List Int)) t209 (t209.length : Int) 0))) = some r := by rw [if_neg (show ¬ (false = true) by decide)] at H; exact H
        clear H
        have H := H1
        clear H1
        by_cases c7 : (wrap64 ((t202.size : Int) + a1)) > 60
        · rw [if_pos c7] at H
          have c7b0 : decide (60 < (wrap64 ((t202.size : Int) + a1))) = true := decide_eq_true c7
          clear c7
          obtain rfl := Option.some.inj H
          go_wp2
          go_ret
          exact ⟨by first | rfl | (simp [errW_none, errW_some] <;> rfl) | (simp [*, errW_none, errW_some] <;> rfl), by repeat (first | (with_reducible first | exact HB.out | apply below_alloc | apply pw_below_drewN | apply below_drew1) | exact HB.out)⟩
        · rw [if_neg c7] at H
          have c7b0 : decide (60 < (wrap64 ((t202.size : Int) + a1))) = false := decide_eq_false c7
          clear c7
          obtain ⟨y203, hy203⟩ : ∃ y_ : List Int, y_ = (([] : List Int)) := ⟨_, rfl⟩
          replace H : ((conv_bytes.f t202).bind fun t209 => (single_nearest.l0 kj3 a1 y203 (([1] : List Int)) t209 (t209.length : Int) 0)) = some r := by first | (rw [hy203]; with_reducible exact H) | (have H2_ := (Option.bind_some _ _).symm.trans H; rw [hy203]; with_reducible exact H2_) | (have H2_ := (Option.bind_some _ _).symm.trans H; with_reducible exact H2_) | with_reducible exact H | (rw [hy203]; exact H) | exact H
          have Ny203 := Aside0.mk hy203
          clear hy203
          obtain ⟨y206, hy206⟩ : ∃ y_ : List Int, y_ = (([1] : List Int)) := ⟨_, rfl⟩
          replace H : ((conv_bytes.f t202).bind fun t209 => (single_nearest.l0 kj3 a1 y203 y206 t209 (t209.length : Int) 0)) = some r := by first | (rw [hy206]; with_reducible exact H) | (have H2_ := (Option.bind_some _ _).symm.trans H; rw [hy206]; with_reducible exact H2_) | (have H2_ := (Option.bind_some _ _).symm.trans H; with_reducible exact H2_) | with_reducible exact H | (rw [hy206]; exact H) | exact H
          have Ny206 := Aside0.mk hy206
          clear hy206
          replace H := Option.bind_eq_some_iff.mp H
          obtain ⟨t209, A80, H⟩ := H
          replace H : (single_nearest.l0 kj3 a1 y203 y206 t209 (t209.length : Int) 0) = some r := H
          have A8 := Aside0.mk A80
          clear A80
          have H' := Aside0.mk H
          clear H
          go_wp2_with (first | ((with_reducible refine gate_dst (N := 27) rfl ?_); (try (refine gate_guard (by rfl) ?_; dsimp only)); refine Kd.R_lit (Kd.int .u32) _ 22 ?hg (N := 27) ?hd (xs := ([] : List Int)) (inner := []) (ok := fun _ => True) (okp := fun _ => True) ?hr ?hp (fun _ hk => hk) trivial (Below.refl _ _) (Nat.le_refl _) (by simp) ?_; (case hd => rfl); (case hg => rfl); (case hr => first | (go_simp; done) | (go_simp; rfl)); (case hp => exact (Reps.none _ _)); intro v204 w9 ho10 hb hg_ hnew_; clear hg_ hnew_; (first | rw [← Ny203.out] at ho10 | (simp only [Int.reduceToNat] at ho10; rw [← Ny203.out] at ho10)); have n0_ := Aside0.mk (Kd.R_lower ho10 (below_size (by repeat (first | (with_reducible first | exact HB.out | apply below_alloc | apply pw_below_drewN | apply below_drew1) | exact HB.out)))); have n1_ := Aside0.mk (below_step (by repeat (first | (with_reducible first | exact HB.out | apply below_alloc | apply pw_below_drewN | apply below_drew1) | exact HB.out)) hb); clear HB; have HO205 := n0_; have HB := n1_; clear n0_ n1_; clear hb ho10) | ((with_reducible refine gate_dst (N := 28) rfl ?_); (try (refine gate_guard (by rfl) ?_; dsimp only)); refine Kd.R_lit (Kd.int .u32) _ 22 ?hg (N := 28) ?hd (xs := ([1] : List Int)) (inner := [.int .u32 1]) (ok := fun _ => True) (okp := fun _ => True) ?hr ?hp (fun _ hk => hk) trivial (Below.refl _ _) (Nat.le_refl _) (by simp) ?_; (case hd => rfl); (case hg => rfl); (case hr => first | (go_simp; done) | (go_simp; rfl)); (case hp => exact (Reps.one (show Kd.M (Kd.int .u32) _ _ _ 1 [.int .u32 1] from rfl) (Reps.none _ _))); intro v207 w11 ho12 hb hg_ hnew_; clear hg_ hnew_; (first | rw [← Ny206.out] at ho12 | (simp only [Int.reduceToNat] at ho12; rw [← Ny206.out] at ho12)); have n0_ := Aside0.mk (Kd.R_elder' (by (with_reducible repeat (first | apply Kd.R_alloc | apply Kd.R_drewN | apply Kd.R_drew)); exact HO205.out) (Kd.R_base ho12) hb); have n1_ := Aside0.mk (Kd.R_lower (Kd.R_new' ho12 (Kd.R_lt (by (with_reducible repeat (first | apply Kd.R_alloc | apply Kd.R_drewN | apply Kd.R_drew)); exact HO205.out))) (below_size (by repeat (first | (with_reducible first | exact HB.out | apply below_alloc | apply pw_below_drewN | apply below_drew1) | exact HB.out)))); have n2_ := Aside0.mk (below_step (by repeat (first | (with_reducible first | exact HB.out | apply below_alloc | apply pw_below_drewN | apply below_drew1) | exact HB.out)) hb); clear HO205; clear HB; have HO205 := n0_; have HO208 := n1_; have HB := n2_; clear n0_ n1_ n2_; clear hb ho12) | ((with_reducible refine gate_ (.convert 9 109 (.tmp 29)) rfl ?_); refine conv_event (s := t202) rfl rfl rfl A8.out ?_; intro v210 w13 ho0 hb; have n0_ := Aside0.mk (Kd.R_below (by (with_reducible repeat (first | apply Kd.R_alloc | apply Kd.R_drewN | apply Kd.R_drew)); exact HO205.out) hb); have n1_ := Aside0.mk (Kd.R_below (by (with_reducible repeat (first | apply Kd.R_alloc | apply Kd.R_drewN | apply Kd.R_drew)); exact HO208.out) hb); have n2_ := Aside0.mk (Kd.V_lower (Kd.V_mono (ok' := fun k_ => some k_ ≠ (v204 : Value).ownBlock ∧ some k_ ≠ (v207 : Value).ownBlock) (ho0) (fun k_ hk_ => ⟨(Kd.fresh' (Kd.R_lt (by (with_reducible repeat (first | apply Kd.R_alloc | apply Kd.R_drewN | apply Kd.R_drew)); exact HO205.out)) k_ hk_.2.1), (Kd.fresh' (Kd.R_lt (by (with_reducible repeat (first | apply Kd.R_alloc | apply Kd.R_drewN | apply Kd.R_drew)); exact HO208.out)) k_ hk_.2.1)⟩)) (below_size (by repeat (first | (with_reducible first | exact HB.out | apply below_alloc | apply pw_below_drewN | apply below_drew1) | exact HB.out)))); have n3_ := Aside0.mk (below_step (by repeat (first | (with_reducible first | exact HB.out | apply below_alloc | apply pw_below_drewN | apply below_drew1) | exact HB.out)) hb); clear HO205; clear HO208; clear HB; have HO205 := n0_; have HO208 := n1_; have HO211 := n2_; have HB := n3_; clear n0_ n1_ n2_ n3_; (try clear hb); (try clear hb2); (try clear hk); (try clear hi); (try clear ho0); obtain ⟨Ao14, co14, eo14⟩ := Kd.V_slice HO211.out; subst eo14))
          go_loopg [5, 32] kj3 (fun kq v5 v32 w' => ∃ (x5_2 : List Int) (x32_2 : Int), v32 = .int .i64 x32_2 ∧ Aside0 (single_nearest.l0 kq a1 x5_2 y206 t209 (t209.length : Int) x32_2 = some r) ∧ Aside0 (kq ≤ kj3) ∧ Aside0 (Kd.V (Kd.int .u32) 22 w' w.heap.size (fun _ => True) v5 x5_2) ∧ Aside0 (Kd.V (Kd.int .u32) 22 w' w.heap.size (fun _ => True) v207 y206) ∧ Aside0 (Kd.V (Kd.int .u8) 5 w' w.heap.size (fun _ => True) (.slice Ao14 t209.length co14) t209) ∧ Aside0 (Below w.heap.size w w'))
          case atStart => exact ⟨(y203), (0), (by first | rfl | (simp; done) | (simp [*]; done) | (simp [i64_w]; done) | (simp [*, i64_w]; done)), H', ⟨Nat.le_refl _⟩, ⟨Kd.R_V (by (with_reducible repeat (first | apply Kd.R_alloc | apply Kd.R_drewN | apply Kd.R_drew)); exact Kd.R_mono HO205.out (fun _ hk => trivial))⟩, ⟨Kd.R_V (by (with_reducible repeat (first | apply Kd.R_alloc | apply Kd.R_drewN | apply Kd.R_drew)); exact Kd.R_mono HO208.out (fun _ hk => trivial))⟩, ⟨by (with_reducible repeat (first | apply Kd.V_alloc | apply Kd.V_drewN | apply Kd.V_drew)); exact Kd.V_mono HO211.out (fun _ hk => trivial)⟩, ⟨by repeat (first | (with_reducible first | exact HB.out | apply below_alloc | apply pw_below_drewN | apply below_drew1) | exact HB.out)⟩⟩
          case round =>
            clear H'
            try clear p2
            try clear c4
            try clear c5
            try clear c5b0
            try clear c5b1
            try clear c6
            try clear p6
            try clear c7
            try clear c7b0
            try clear c9
            try clear p2
            obtain ⟨x5_2, x32_2, rfl, HA, HK2, HO_5, HO_6, HO_30, HB⟩ := hrel
            cases gk with
            | zero => exact absurd HA.out (by simp [single_nearest.l0])
            | succ k2 =>
              have H := HA.out
              clear HA
              simp only [single_nearest.l0] at H
              by_cases c15 : x32_2 < (t209.length : Int)
              · rw [if_pos c15] at H
                have c15b0 : decide (x32_2 < (t209.length : Int)) = true := decide_eq_true c15
                clear c15
                by_cases c16 : 0 ≤ x32_2
                · rw [if_pos c16] at H
                  have c16b0 : decide (0 ≤ x32_2) = true := decide_eq_true c16
                  clear c16
                  by_cases c17 : x32_2 < (t209.length : Int)
                  · rw [if_pos c17] at H
                    have c17b0 : decide (x32_2 < (t209.length : Int)) = true := decide_eq_true c17
                    clear c17
                    replace H := Option.bind_eq_some_iff.mp H
                    obtain ⟨t213, A180, H⟩ := H
                    replace H : (single_nearest.l0 k2 a1 t213 y206 t209 (t209.length : Int) (wrap64 (x32_2 + 1))) = some r := H
                    have A18 := Aside0.mk A180
                    clear A180
                    have H' := Aside0.mk H
                    clear H
                    have p212 : 0 ≤ (x32_2 : Int) := of_decide_eq_true (by first | (with_reducible assumption) | assumption)
                    have q212 : x32_2 < (t209.length : Int) := of_decide_eq_true (by first | (with_reducible assumption) | assumption)
                    obtain ⟨ad212, e212, hx212_0⟩ := Kd.at_int (Kd.V_reads' HO_30.out).2.2 x32_2 p212 q212
                    cases e212
                    replace p212 := eq_true p212
                    replace q212 := eq_true q212
                    obtain ⟨Ao19, co19, eo19⟩ := Kd.V_slice HO_5.out
                    subst eo19
                    go_wp2_with (first | ((with_reducible refine gate_callee (f := 68) rfl ?_); refine goesL_ (some 40) rfl rfl Tryd.func68 (by kernel_rfl) rfl #[.slice Ao19 x5_2.length co19, .int .u32 10, .int .u32 (((rd t209 x32_2) - 48) % 256)] rfl (by (try simp only [List.map_toArray, List.map_cons, List.map_nil]); first | done | rfl | (simp only [List.length_drop, List.length_take]; rfl)) ?_; (with_reducible refine (single_wide_timesAnd.calls k2 _ _ x5_2 10 (((rd t209 x32_2) - 48) % 256) t213 _ ?side1 ?side2 A18.out).mono ?_); (case side1 => repeat (first | exact (Kd.V_reads' HO_5.out).2.2 | (with_reducible refine Kd.C_alloc ?_ _) | (with_reducible refine Kd.C_drewN ?_ _) | (with_reducible refine Kd.C_drew ?_))); (case side2 => exact (Kd.V_reads' HO_5.out).2.1); rintro e w20 ⟨v214, rfl, ho0, hb⟩; refine ⟨_, rfl, ?_⟩; have n0_ := Aside0.mk (Kd.V_below (by (with_reducible repeat (first | apply Kd.V_alloc | apply Kd.V_drewN | apply Kd.V_drew)); exact HO_5.out) hb); have n1_ := Aside0.mk (Kd.V_below (by (with_reducible repeat (first | apply Kd.V_alloc | apply Kd.V_drewN | apply Kd.V_drew)); exact HO_6.out) hb); have n2_ := Aside0.mk (Kd.V_below (by (with_reducible repeat (first | apply Kd.V_alloc | apply Kd.V_drewN | apply Kd.V_drew)); exact HO_30.out) hb); have n3_ := Aside0.mk (Kd.V_lower (Kd.V_mono (ok' := fun k_ => True) ho0 (fun k_ hk_ => trivial)) (below_size (by repeat (first | (with_reducible first | exact HB.out | apply below_alloc | apply pw_below_drewN | apply below_drew1) | exact HB.out)))); have n4_ := Aside0.mk (below_step (by repeat (first | (with_reducible first | exact HB.out | apply below_alloc | apply pw_below_drewN | apply below_drew1) | exact HB.out)) hb); clear HO_5; clear HO_6; clear HO_30; clear HB; have HO_5 := n0_; have HO_6 := n1_; have HO_30 := n2_; have HO215 := n3_; have HB := n4_; clear n0_ n1_ n2_ n3_ n4_; (try clear hb); (try clear hb2); (try clear hk); (try clear hi); (try clear ho0)))
                    go_roundg k2
                    case measure => have := HJ3.out; have := HK2.out; omega
                    case rel => exact ⟨(t213), (wrap64 (x32_2 + 1)), (by first | rfl | (simp; done) | (simp [*]; done) | (simp [i64_w]; done) | (simp [*, i64_w]; done)), H', ⟨by have := HJ3.out; have := HK2.out; omega⟩, ⟨by (with_reducible repeat (first | apply Kd.V_alloc | apply Kd.V_drewN | apply Kd.V_drew)); exact HO215.out⟩, ⟨by (with_reducible repeat (first | apply Kd.V_alloc | apply Kd.V_drewN | apply Kd.V_drew)); exact HO_6.out⟩, ⟨by (with_reducible repeat (first | apply Kd.V_alloc | apply Kd.V_drewN | apply Kd.V_drew)); exact HO_30.out⟩, ⟨by repeat (first | (with_reducible first | exact HB.out | apply below_alloc | apply pw_below_drewN | apply below_drew1) | exact HB.out)⟩⟩
                  · rw [if_neg c17] at H
                    exact absurd H (by simp)
                · rw [if_neg c16] at H
                  exact absurd H (by simp)
              · rw [if_neg c15] at H
                have c15b0 : decide (x32_2 < (t209.length : Int)) = false := decide_eq_false c15
                clear c15
                have H' := Aside0.mk H
                clear H
                go_wp2
                go_loopg [5, 43] k2 (fun kq v5 v43 w' => ∃ (x5_3 : List Int) (x43_3 : Int), v43 = .int .i64 x43_3 ∧ Aside0 (single_nearest.l1 kq a1 x5_3 y206 a1 x43_3 = some r) ∧ Aside0 (kq ≤ k2) ∧ Aside0 (Kd.V (Kd.int .u32) 22 w' w.heap.size (fun _ => True) v5 x5_3) ∧ Aside0 (Kd.V (Kd.int .u32) 22 w' w.heap.size (fun _ => True) v207 y206) ∧ Aside0 (Below w.heap.size w w'))
                case atStart => exact ⟨(x5_2), (0), (by first | rfl | (simp; done) | (simp [*]; done) | (simp [i64_w]; done) | (simp [*, i64_w]; done)), H', ⟨Nat.le_refl _⟩, ⟨by (with_reducible repeat (first | apply Kd.V_alloc | apply Kd.V_drewN | apply Kd.V_drew)); exact HO_5.out⟩, ⟨by (with_reducible repeat (first | apply Kd.V_alloc | apply Kd.V_drewN | apply Kd.V_drew)); exact HO_6.out⟩, ⟨by repeat (first | (with_reducible first | exact HB.out | apply below_alloc | apply pw_below_drewN | apply below_drew1) | exact HB.out)⟩⟩
                case round =>
                  clear H'
                  try clear c1
                  try clear p2
                  try clear q2
                  try clear hx2
                  try clear c4
                  try clear c5
                  try clear c5b0
                  try clear c5b1
                  try clear c6
                  try clear p6
                  try clear c7
                  try clear c7b0
                  try clear c9
                  try clear c15
                  try clear c15b0
                  try clear c16
                  try clear c16b0
                  try clear c17
                  try clear c17b0
                  try clear hx212_0
                  try clear p2
                  try clear p212
                  try clear p6
                  try clear q212
                  obtain ⟨x5_3, x43_3, rfl, HA, HK3, HO_5, HO_6, HB⟩ := hrel
                  cases gk with
                  | zero => exact absurd HA.out (by simp [single_nearest.l1])
                  | succ k3 =>
                    have H := HA.out
                    clear HA
                    simp only [single_nearest.l1] at H
                    by_cases c21 : x43_3 < a1
                    · rw [if_pos c21] at H
                      have c21b0 : decide (x43_3 < a1) = true := decide_eq_true c21
                      clear c21
                      replace H := Option.bind_eq_some_iff.mp H
                      obtain ⟨t216, A220, H⟩ := H
                      replace H : (single_nearest.l1 k3 a1 t216 y206 a1 (wrap64 (x43_3 + 1))) = some r := H
                      have A22 := Aside0.mk A220
                      clear A220
                      have H' := Aside0.mk H
                      clear H
                      obtain ⟨Ao23, co23, eo23⟩ := Kd.V_slice HO_5.out
                      subst eo23
                      go_wp2_with (first | ((with_reducible refine gate_callee (f := 68) rfl ?_); refine goesL_ (some 46) rfl rfl Tryd.func68 (by kernel_rfl) rfl #[.slice Ao23 x5_3.length co23, .int .u32 10, .int .u32 0] rfl (by (try simp only [List.map_toArray, List.map_cons, List.map_nil]); first | done | rfl | (simp only [List.length_drop, List.length_take]; rfl)) ?_; (with_reducible refine (single_wide_timesAnd.calls k3 _ _ x5_3 10 0 t216 _ ?side1 ?side2 A22.out).mono ?_); (case side1 => repeat (first | exact (Kd.V_reads' HO_5.out).2.2 | (with_reducible refine Kd.C_alloc ?_ _) | (with_reducible refine Kd.C_drewN ?_ _) | (with_reducible refine Kd.C_drew ?_))); (case side2 => exact (Kd.V_reads' HO_5.out).2.1); rintro e w24 ⟨v217, rfl, ho0, hb⟩; refine ⟨_, rfl, ?_⟩; have n0_ := Aside0.mk (Kd.V_below (by (with_reducible repeat (first | apply Kd.V_alloc | apply Kd.V_drewN | apply Kd.V_drew)); exact HO_5.out) hb); have n1_ := Aside0.mk (Kd.V_below (by (with_reducible repeat (first | apply Kd.V_alloc | apply Kd.V_drewN | apply Kd.V_drew)); exact HO_6.out) hb); have n2_ := Aside0.mk (Kd.V_lower (Kd.V_mono (ok' := fun k_ => True) ho0 (fun k_ hk_ => trivial)) (below_size (by repeat (first | (with_reducible first | exact HB.out | apply below_alloc | apply pw_below_drewN | apply below_drew1) | exact HB.out)))); have n3_ := Aside0.mk (below_step (by repeat (first | (with_reducible first | exact HB.out | apply below_alloc | apply pw_below_drewN | apply below_drew1) | exact HB.out)) hb); clear HO_5; clear HO_6; clear HB; have HO_5 := n0_; have HO_6 := n1_; have HO218 := n2_; have HB := n3_; clear n0_ n1_ n2_ n3_; (try clear hb); (try clear hb2); (try clear hk); (try clear hi); (try clear ho0)))
                      go_roundg k3
                      case measure => have := HJ3.out; have := HK2.out; have := HK3.out; omega
                      case rel => exact ⟨(t216), (wrap64 (x43_3 + 1)), (by first | rfl | (simp; done) | (simp [*]; done) | (simp [i64_w]; done) | (simp [*, i64_w]; done)), H', ⟨by have := HJ3.out; have := HK2.out; have := HK3.out; omega⟩, ⟨by (with_reducible repeat (first | apply Kd.V_alloc | apply Kd.V_drewN | apply Kd.V_drew)); exact HO218.out⟩, ⟨by (with_reducible repeat (first | apply Kd.V_alloc | apply Kd.V_drewN | apply Kd.V_drew)); exact HO_6.out⟩, ⟨by repeat (first | (with_reducible first | exact HB.out | apply below_alloc | apply pw_below_drewN | apply below_drew1) | exact HB.out)⟩⟩
                    · rw [if_neg c21] at H
                      have c21b0 : decide (x43_3 < a1) = false := decide_eq_false c21
                      clear c21
                      have H' := Aside0.mk H
                      clear H
                      go_wp2
                      go_loopg [6, 50] k3 (fun kq v6 v50 w' => ∃ (x6_4 : List Int) (x50_4 : Int), v50 = .int .i64 x50_4 ∧ Aside0 (single_nearest.l2 kq x5_3 x6_4 (wrap64 (-a1)) x50_4 = some r) ∧ Aside0 (kq ≤ k3) ∧ Aside0 (Kd.V (Kd.int .u32) 22 w' w.heap.size (fun _ => True) u5 x5_3) ∧ Aside0 (Kd.V (Kd.int .u32) 22 w' w.heap.size (fun _ => True) v6 x6_4) ∧ Aside0 (Below w.heap.size w w'))
                      case atStart => exact ⟨(y206), (0), (by first | rfl | (simp; done) | (simp [*]; done) | (simp [i64_w]; done) | (simp [*, i64_w]; done)), H', ⟨Nat.le_refl _⟩, ⟨by (with_reducible repeat (first | apply Kd.V_alloc | apply Kd.V_drewN | apply Kd.V_drew)); exact HO_5.out⟩, ⟨by (with_reducible repeat (first | apply Kd.V_alloc | apply Kd.V_drewN | apply Kd.V_drew)); exact HO_6.out⟩, ⟨by repeat (first | (with_reducible first | exact HB.out | apply below_alloc | apply pw_below_drewN | apply below_drew1) | exact HB.out)⟩⟩
                      case round =>
                        clear H'
                        try clear c1
                        try clear c2
                        try clear p2
                        try clear q2
                        try clear hx2
                        try clear c4
                        try clear c5
                        try clear c5b0
                        try clear c5b1
                        try clear c6
                        try clear p6
                        try clear c7
                        try clear c7b0
                        try clear c9
                        try clear c15
                        try clear c15b0
                        try clear c16
                        try clear c16b0
                        try clear c17
                        try clear c17b0
                        try clear c21
                        try clear c21b0
                        try clear p21
                        try clear q21
                        try clear hx21
                        try clear hx212_0
                        try clear p2
                        try clear p212
                        try clear p6
                        try clear q2
                        try clear q212
                        obtain ⟨x6_4, x50_4, rfl, HA, HK4, HO_5, HO_6, HB⟩ := hrel
                        cases gk with
                        | zero => exact absurd HA.out (by simp [single_nearest.l2])
                        | succ k4 =>
                          have H := HA.out
                          clear HA
                          simp only [single_nearest.l2] at H
                          by_cases c25 : x50_4 < (wrap64 (-a1))
                          · rw [if_pos c25] at H
                            have c25b0 : decide (x50_4 < (wrap64 (-a1))) = true := decide_eq_true c25
                            clear c25
                            replace H := Option.bind_eq_some_iff.mp H
                            obtain ⟨t219, A260, H⟩ := H
                            replace H : (single_nearest.l2 k4 x5_3 t219 (wrap64 (-a1)) (wrap64 (x50_4 + 1))) = some r := H
                            have A26 := Aside0.mk A260
                            clear A260
                            have H' := Aside0.mk H
                            clear H
                            obtain ⟨Ao27, co27, eo27⟩ := Kd.V_slice HO_6.out
                            subst eo27
                            go_wp2_with (first | ((with_reducible refine gate_callee (f := 68) rfl ?_); refine goesL_ (some 53) rfl rfl Tryd.func68 (by kernel_rfl) rfl #[.slice Ao27 x6_4.length co27, .int .u32 10, .int .u32 0] rfl (by (try simp only [List.map_toArray, List.map_cons, List.map_nil]); first | done | rfl | (simp only [List.length_drop, List.length_take]; rfl)) ?_; (with_reducible refine (single_wide_timesAnd.calls k4 _ _ x6_4 10 0 t219 _ ?side1 ?side2 A26.out).mono ?_); (case side1 => repeat (first | exact (Kd.V_reads' HO_6.out).2.2 | (with_reducible refine Kd.C_alloc ?_ _) | (with_reducible refine Kd.C_drewN ?_ _) | (with_reducible refine Kd.C_drew ?_))); (case side2 => exact (Kd.V_reads' HO_6.out).2.1); rintro e w28 ⟨v220, rfl, ho0, hb⟩; refine ⟨_, rfl, ?_⟩; have n0_ := Aside0.mk (Kd.V_below (by (with_reducible repeat (first | apply Kd.V_alloc | apply Kd.V_drewN | apply Kd.V_drew)); exact HO_5.out) hb); have n1_ := Aside0.mk (Kd.V_below (by (with_reducible repeat (first | apply Kd.V_alloc | apply Kd.V_drewN | apply Kd.V_drew)); exact HO_6.out) hb); have n2_ := Aside0.mk (Kd.V_lower (Kd.V_mono (ok' := fun k_ => True) ho0 (fun k_ hk_ => trivial)) (below_size (by repeat (first | (with_reducible first | exact HB.out | apply below_alloc | apply pw_below_drewN | apply below_drew1) | exact HB.out)))); have n3_ := Aside0.mk (below_step (by repeat (first | (with_reducible first | exact HB.out | apply below_alloc | apply pw_below_drewN | apply below_drew1) | exact HB.out)) hb); clear HO_5; clear HO_6; clear HB; have HO_5 := n0_; have HO_6 := n1_; have HO221 := n2_; have HB := n3_; clear n0_ n1_ n2_ n3_; (try clear hb); (try clear hb2); (try clear hk); (try clear hi); (try clear ho0)))
                            go_roundg k4
                            case measure => have := HJ3.out; have := HK2.out; have := HK3.out; have := HK4.out; omega
                            case rel => exact ⟨(t219), (wrap64 (x50_4 + 1)), (by first | rfl | (simp; done) | (simp [*]; done) | (simp [i64_w]; done) | (simp [*, i64_w]; done)), H', ⟨by have := HJ3.out; have := HK2.out; have := HK3.out; have := HK4.out; omega⟩, ⟨by (with_reducible repeat (first | apply Kd.V_alloc | apply Kd.V_drewN | apply Kd.V_drew)); exact HO_5.out⟩, ⟨by (with_reducible repeat (first | apply Kd.V_alloc | apply Kd.V_drewN | apply Kd.V_drew)); exact HO221.out⟩, ⟨by repeat (first | (with_reducible first | exact HB.out | apply below_alloc | apply pw_below_drewN | apply below_drew1) | exact HB.out)⟩⟩
                          · rw [if_neg c25] at H
                            have c25b0 : decide (x50_4 < (wrap64 (-a1))) = false := decide_eq_false c25
                            clear c25
                            replace H := Option.bind_eq_some_iff.mp H
                            obtain ⟨t222, A290, H⟩ := H
                            replace H : (some t222) = some r := H
                            have A29 := Aside0.mk A290
                            clear A290
                            obtain rfl := Option.some.inj H
                            obtain ⟨Ao30, co30, eo30⟩ := Kd.V_slice HO_5.out
                            subst eo30
                            obtain ⟨Ao31, co31, eo31⟩ := Kd.V_slice HO_6.out
                            subst eo31
                            go_wp2_with (first | ((with_reducible refine gate_callee (f := 69) rfl ?_); refine goesL_ (some 57) rfl rfl Tryd.func69 (by kernel_rfl) rfl #[.slice Ao30 x5_3.length co30, .slice Ao31 x6_4.length co31] rfl (by (try simp only [List.map_toArray, List.map_cons, List.map_nil]); first | done | rfl | (simp only [List.length_drop, List.length_take]; rfl)) ?_; (with_reducible refine (single_ratio.calls k4 (fun k_ => True) _ _ x5_3 (fun k_ => True) _ _ x6_4 t222 _ ?side1 ?side2 A29.out).mono ?_); (case side1 => exact HO_5.out); (case side2 => exact HO_6.out); rintro e w32 ⟨rfl, hb⟩; refine ⟨_, rfl, ?_⟩; have n0_ := Aside0.mk (Kd.V_below (by (with_reducible repeat (first | apply Kd.V_alloc | apply Kd.V_drewN | apply Kd.V_drew)); exact HO_5.out) hb); have n1_ := Aside0.mk (Kd.V_below (by (with_reducible repeat (first | apply Kd.V_alloc | apply Kd.V_drewN | apply Kd.V_drew)); exact HO_6.out) hb); have n2_ := Aside0.mk (below_step (by repeat (first | (with_reducible first | exact HB.out | apply below_alloc | apply pw_below_drewN | apply below_drew1) | exact HB.out)) hb); clear HO_5; clear HO_6; clear HB; have HO_5 := n0_; have HO_6 := n1_; have HB := n2_; clear n0_ n1_ n2_; (try clear hb); (try clear hb2); (try clear hk); (try clear hi)))
                            go_ret
                            exact ⟨by first | rfl | (simp [errW_none, errW_some] <;> rfl) | (simp [*, errW_none, errW_some] <;> rfl), by repeat (first | (with_reducible first | exact HB.out | apply below_alloc | apply pw_below_drewN | apply below_drew1) | exact HB.out)⟩
end Go.Proofs.YteecekhfpfnepaaDoor.PAll
end

section
namespace Go.Proofs.YteecekhfpfnepaaDoor.PAll
open Go.RowKit Go.Proofs.YteecekhfpfnepaaDoorW.PrintWords Go.Proofs.YteecekhfpfnepaaDoorW.PrintLast Go.Proofs.YteecekhfpfnepaaDoorW.PrintMore
attribute [local go_sem] max2_int min2_int max_two min_two max_three min_three max_four min_four   -- for this text's walks alone
set_option linter.unusedVariables false
set_option linter.unusedSimpArgs false
mutual
def single_ParseR.j0 : Nat → ByteArray → Int → ByteArray → Int → Option (Int × Int × Int × ByteArray × Int)
  | 0, _, _, _, _ => none
  | k + 1, x0, x6, x2000, x2001 => if x2001 < (x0.size : Int) then (if 0 ≤ x2001 then (single_ParseR.j1 k x0 x6 (bt x0 x2001) x2000 x2001) else (none)) else (single_ParseR.j1 k x0 x6 0 x2000 x2001)
def single_ParseR.j1 : Nat → ByteArray → Int → Int → ByteArray → Int → Option (Int × Int × Int × ByteArray × Int)
  | 0, _, _, _, _, _ => none
  | k + 1, x0, x6, x9, x2000, x2001 => if 0 < 8 then (if x9 = (bt (⟨#[105, 110, 102, 105, 110, 105, 116, 101]⟩ : ByteArray) 0) then ((single_reader_word.f k x2000 x2001 (⟨#[105, 110, 102, 105, 110, 105, 116, 101]⟩ : ByteArray)).bind fun bt227 => (if bt227.1 = true then (if bt227.2.2 < (x0.size : Int) then (some (0, bt227.2.2, 32, bt227.2.1, bt227.2.2)) else (some (Go.bits .or .u32 x6 2139095040, 0, 0, bt227.2.1, bt227.2.2))) else (some (0, bt227.2.2, 32, bt227.2.1, bt227.2.2)))) else (if 0 < 4 then (if x9 = (bt (⟨#[110, 111, 110, 101]⟩ : ByteArray) 0) then (single_ParseR.j2 k x0 x6 (x6 == 0) x2000 x2001) else (single_ParseR.j2 k x0 x6 false x2000 x2001)) else (none))) else (none)
def single_ParseR.j2 : Nat → ByteArray → Int → Bool → ByteArray → Int → Option (Int × Int × Int × ByteArray × Int)
  | 0, _, _, _, _, _ => none
  | k + 1, x0, x6, x55, x2000, x2001 => if x55 = true then ((single_reader_word.f k x2000 x2001 (⟨#[110, 111, 110, 101]⟩ : ByteArray)).bind fun bt230 => (if bt230.1 = true then (if bt230.2.2 < (x0.size : Int) then (some (0, bt230.2.2, 32, bt230.2.1, bt230.2.2)) else (some (Go.bits .or .u32 x6 2143289344, 0, 0, bt230.2.1, bt230.2.2))) else (some (0, bt230.2.2, 32, bt230.2.1, bt230.2.2)))) else ((single_reader_number.f k x2000 x2001).bind fun bt233 => (if bt233.2.2.1 = true then ((single_nearest.f k bt233.1 bt233.2.1).bind fun t238 => (if bt233.2.2.2.2 < (x0.size : Int) then (some (0, bt233.2.2.2.2, 32, bt233.2.2.2.1, bt233.2.2.2.2)) else (some (Go.bits .or .u32 x6 t238, 0, 0, bt233.2.2.2.1, bt233.2.2.2.2)))) else (some (0, bt233.2.2.2.2, 32, bt233.2.2.2.1, bt233.2.2.2.2))))
end
def single_ParseR.f (k : Nat) (a0 : ByteArray) (s1_0 : ByteArray) (s1_1 : Int) : Option (Int × Int × Int × ByteArray × Int) := if (a0.size : Int) > 200 then (some (0, 200, 33, s1_0, s1_1)) else ((single_reader_one.f s1_0 s1_1 (⟨#[45]⟩ : ByteArray)).bind fun bt223 => (if bt223.2.1 = true then (single_ParseR.j0 k a0 2147483648 bt223.2.2.1 bt223.2.2.2) else (single_ParseR.j0 k a0 0 bt223.2.2.1 bt223.2.2.2)))
theorem is79_new (w : World) (s : ByteArray) : IsS79 w (w.alloc (.cells #[.string s, .int .i64 0] 79)) w.heap.size s 0 := ⟨by rw [show (w.alloc (.cells #[.string s, .int .i64 0] 79)).heap = w.heap.push (.cells #[.string s, .int .i64 0] 79) from rfl]; exact Array.getElem?_push_size, Nat.le_refl _⟩
def single_Parse.f (k : Nat) (a0 : ByteArray) : Option (Int × Int × Int) := (single_ParseR.f k a0 a0 0).bind fun t => some (t.1, t.2.1, t.2.2.1)
set_option maxHeartbeats 8000000 in
set_option maxRecDepth 100000 in
theorem single_Parse.calls (k : Nat) (a0 : ByteArray) (r1 : Int) (r2 : Int) (r3 : Int) (w : World) (h : single_Parse.f k a0 = some (r1, r2, r3)) :
    Calls Tryd.prog 32 #[.string a0] w fun e w' => e = .returned (.tuple #[.int .u32 r1, .int .i64 r2, .int .i64 r3]) ∧ Below w.heap.size w w' := by
  unfold single_Parse.f at h
  replace h := Option.bind_eq_some_iff.mp h
  obtain ⟨⟨q1, q2, q3, r4, r5⟩, h, hq⟩ := h
  obtain ⟨rfl, rfl, rfl⟩ : q1 = r1 ∧ q2 = r2 ∧ q3 = r3 := by simpa using hq
  clear hq
  have HK := Aside0.mk (KeepBut.refl w w.heap.size none)
  have HW0 := Aside0.mk (Nat.le_refl w.heap.size)
  have HB := Aside0.mk (Below.refl w.heap.size w)
  have HI1 := Aside0.mk True.intro
  have H : (if (a0.size : Int) > 200 then (some (0, 200, 33, a0, 0)) else ((single_reader_one.f a0 0 (⟨#[45]⟩ : ByteArray)).bind fun bt223 => (if bt223.2.1 = true then (single_ParseR.j0 k a0 2147483648 bt223.2.2.1 bt223.2.2.2) else (single_ParseR.j0 k a0 0 bt223.2.2.1 bt223.2.2.2)))) = some (q1, q2, q3, r4, r5) := h
  clear h
  by_cases c3 : (a0.size : Int) > 200
  · rw [if_pos c3] at H
    have c3b0 : decide (200 < (a0.size : Int)) = true := decide_eq_true c3
    have c3b1 : decide (200 < a0.size) = true := decide_eq_true (by omega)
    clear c3
    simp only [Option.some.injEq, Prod.mk.injEq] at H
    obtain ⟨rfl, rfl, rfl, rfl, rfl⟩ := H
    go_enter Tryd.func32, Tryd.ntmps32
    go_wp2
    repeat (go_quiet (fail); try go_wp2)
    go_ret3
    exact ⟨by first | rfl | (simp [errW_none, errW_some] <;> rfl) | (simp [*, errW_none, errW_some] <;> rfl), by repeat (first | (with_reducible first | exact HB.out | apply below_alloc | apply pw_below_drewN | apply below_drew1 | refine below_set ?_ (IsS79.ge HI1.out)) | exact HB.out)⟩
  · rw [if_neg c3] at H
    have c3b0 : decide (200 < (a0.size : Int)) = false := decide_eq_false c3
    have c3b1 : decide (200 < a0.size) = false := decide_eq_false (by omega)
    clear c3
    replace H := Option.bind_eq_some_iff.mp H
    obtain ⟨⟨t223, t224, t225, t226⟩, A40, H⟩ := H
    replace H : (if t224 = true then (single_ParseR.j0 k a0 2147483648 t225 t226) else (single_ParseR.j0 k a0 0 t225 t226)) = some (q1, q2, q3, r4, r5) := H
    have A4 := Aside0.mk A40
    clear A40
    have HC5 := Aside0.mk H
    clear H
    go_enter Tryd.func32, Tryd.ntmps32
    go_upto_if 25 with (first | (go_at_call 45; (with_reducible refine (single_reader_one.calls w.heap.size a0 0 (⟨#[45]⟩ : ByteArray) t223 t224 t225 t226 w _ ?side1 ?side2 A4.out).mono ?_); (case side1 => repeat (first | exact is79_new _ _ | apply IsS79.drewN | apply IsS79.drew)); (case side2 => repeat (first | (with_reducible first | exact HB.out | apply below_alloc | apply pw_below_drewN | apply below_drew1 | refine below_set ?_ (IsS79.ge HI1.out)) | exact HB.out)); rintro e w6 ⟨rfl, hi, hb, hk⟩; have n0_ := Aside0.mk (KeepBut.trans (by repeat (first | (with_reducible first | exact HK.out | apply KeepBut.set_ | apply keep_drewN | apply keep_drew | apply keep_alloc) | exact HK.out)) hk (.inl rfl)); have n1_ := Aside0.mk (hb); have n2_ := Aside0.mk (hi); clear HK; clear HB; clear HI1; have HK := n0_; have HB := n1_; have HI1 := n2_; clear n0_ n1_ n2_; (try clear hb); (try clear hb2); (try clear hk); (try clear hi)))
    repeat (go_quiet (first | (go_at_call 45; (with_reducible refine (single_reader_one.calls w.heap.size a0 0 (⟨#[45]⟩ : ByteArray) t223 t224 t225 t226 w _ ?side1 ?side2 A4.out).mono ?_); (case side1 => repeat (first | exact is79_new _ _ | apply IsS79.drewN | apply IsS79.drew)); (case side2 => repeat (first | (with_reducible first | exact HB.out | apply below_alloc | apply pw_below_drewN | apply below_drew1 | refine below_set ?_ (IsS79.ge HI1.out)) | exact HB.out)); rintro e w6 ⟨rfl, hi, hb, hk⟩; have n0_ := Aside0.mk (KeepBut.trans (by repeat (first | (with_reducible first | exact HK.out | apply KeepBut.set_ | apply keep_drewN | apply keep_drew | apply keep_alloc) | exact HK.out)) hk (.inl rfl)); have n1_ := Aside0.mk (hb); have n2_ := Aside0.mk (hi); clear HK; clear HB; clear HI1; have HK := n0_; have HB := n1_; have HI1 := n2_; clear n0_ n1_ n2_; (try clear hb); (try clear hb2); (try clear hk); (try clear hi))); go_upto_if 25 with (first | (go_at_call 45; (with_reducible refine (single_reader_one.calls w.heap.size a0 0 (⟨#[45]⟩ : ByteArray) t223 t224 t225 t226 w _ ?side1 ?side2 A4.out).mono ?_); (case side1 => repeat (first | exact is79_new _ _ | apply IsS79.drewN | apply IsS79.drew)); (case side2 => repeat (first | (with_reducible first | exact HB.out | apply below_alloc | apply pw_below_drewN | apply below_drew1 | refine below_set ?_ (IsS79.ge HI1.out)) | exact HB.out)); rintro e w6 ⟨rfl, hi, hb, hk⟩; have n0_ := Aside0.mk (KeepBut.trans (by repeat (first | (with_reducible first | exact HK.out | apply KeepBut.set_ | apply keep_drewN | apply keep_drew | apply keep_alloc) | exact HK.out)) hk (.inl rfl)); have n1_ := Aside0.mk (hb); have n2_ := Aside0.mk (hi); clear HK; clear HB; clear HI1; have HK := n0_; have HB := n1_; have HI1 := n2_; clear n0_ n1_ n2_; (try clear hb); (try clear hb2); (try clear hk); (try clear hi))))
    (try simp only [Act.put, List.setIfInBounds_toArray, List.set_cons_zero, List.set_cons_succ])
    go_cut [6] (fun v6 wc => ∃ (kq : Nat) (x6_4 : Int), v6 = .int .u32 x6_4 ∧ Aside0 (single_ParseR.j0 kq a0 x6_4 t225 t226 = some (q1, q2, q3, r4, r5)) ∧ Aside0 (kq ≤ k) ∧ Aside0 (IsS79 w wc w.heap.size t225 t226) ∧ Aside0 (KeepBut w wc w.heap.size none) ∧ Aside0 (Below w.heap.size w wc))
    case first =>
      have H := HC5.out
      clear HC5
      by_cases c7 : t224 = true
      · subst c7
        have H1 : (single_ParseR.j0 k a0 2147483648 t225 t226) = some (q1, q2, q3, r4, r5) := by rw [if_pos rfl] at H; exact H
        clear H
        have H := H1
        clear H1
        have H' := Aside0.mk H
        clear H
        go_wp2
        repeat (go_quiet (fail); try go_wp2)
        go_meet
        case rel => exact ⟨_, (2147483648), (by first | rfl | (simp; done) | (simp [*]; done) | (simp [i64_w]; done) | (simp [*, i64_w]; done)), H', ⟨by first | omega | exact Nat.le_refl _⟩, ⟨by repeat (first | (with_reducible first | exact HI1.out | apply IsS79.alloc | apply IsS79.drewN | apply IsS79.drew | apply IsS79.set_0 | apply IsS79.set_1) | exact HI1.out)⟩, ⟨by repeat (first | (with_reducible first | exact HK.out | apply KeepBut.set_ | apply keep_drewN | apply keep_drew | apply keep_alloc) | exact HK.out)⟩, ⟨by repeat (first | (with_reducible first | exact HB.out | apply below_alloc | apply pw_below_drewN | apply below_drew1 | refine below_set ?_ (IsS79.ge HI1.out)) | exact HB.out)⟩⟩
      · replace c7 := Bool.eq_false_iff.mpr c7
        subst c7
        have H1 : (single_ParseR.j0 k a0 0 t225 t226) = some (q1, q2, q3, r4, r5) := by rw [if_neg (show ¬ (false = true) by decide)] at H; exact H
        clear H
        have H := H1
        clear H1
        have H' := Aside0.mk H
        clear H
        go_wp2
        repeat (go_quiet (fail); try go_wp2)
        go_meet
        case rel => exact ⟨_, (0), (by first | rfl | (simp; done) | (simp [*]; done) | (simp [i64_w]; done) | (simp [*, i64_w]; done)), H', ⟨by first | omega | exact Nat.le_refl _⟩, ⟨by repeat (first | (with_reducible first | exact HI1.out | apply IsS79.alloc | apply IsS79.drewN | apply IsS79.drew | apply IsS79.set_0 | apply IsS79.set_1) | exact HI1.out)⟩, ⟨by repeat (first | (with_reducible first | exact HK.out | apply KeepBut.set_ | apply keep_drewN | apply keep_drew | apply keep_alloc) | exact HK.out)⟩, ⟨by repeat (first | (with_reducible first | exact HB.out | apply below_alloc | apply pw_below_drewN | apply below_drew1 | refine below_set ?_ (IsS79.ge HI1.out)) | exact HB.out)⟩⟩
    case rest =>
      clear HC5
      try clear p2
      try clear c3
      try clear c3b0
      try clear c3b1
      try clear c7
      obtain ⟨kq, x6_4, rfl, HA, HJ4, HI1, HK, HB⟩ := hcut
      cases kq with
      | zero => exact absurd HA.out (by simp [single_ParseR.j0])
      | succ kj4 =>
        have H := HA.out
        clear HA
        simp only [single_ParseR.j0] at H
        have HC8 := Aside0.mk H
        clear H
        obtain ⟨HGz9, hgz9⟩ := HI1.out
        have hcz9_0 := cellS79_0 HGz9
        have hcz9_1 := cellS79_1 HGz9
        have hfz9_0 := blk_frozen HGz9 0
        have hfz9_1 := blk_frozen HGz9 1
        clear HGz9 hgz9
        go_upto_if 32 with (fail)
        repeat (go_quiet (fail); go_upto_if 32 with (fail))
        go_cut [9] (fun v9 wc => ∃ (kq : Nat) (x9_7 : Int), v9 = .int .u8 x9_7 ∧ Aside0 (single_ParseR.j1 kq a0 x6_4 x9_7 t225 t226 = some (q1, q2, q3, r4, r5)) ∧ Aside0 (kq ≤ kj4) ∧ Aside0 (IsS79 w wc w.heap.size t225 t226) ∧ Aside0 (KeepBut w wc w.heap.size none) ∧ Aside0 (Below w.heap.size w wc))
        case first =>
          have H := HC8.out
          clear HC8
          by_cases c10 : t226 < (a0.size : Int)
          · rw [if_pos c10] at H
            have c10b0 : decide (t226 < (a0.size : Int)) = true := decide_eq_true c10
            clear c10
            (first | rw [c10b0] | (simp only [i64_w, i32_w]; rw [c10b0]) | skip)
            by_cases c11 : 0 ≤ t226
            · rw [if_pos c11] at H
              have c11b0 : decide (0 ≤ t226) = true := decide_eq_true c11
              clear c11
              have H' := Aside0.mk H
              clear H
              obtain ⟨HGz13, hgz13⟩ := HI1.out
              have hcz13_0 := cellS79_0 HGz13
              have hcz13_1 := cellS79_1 HGz13
              have hfz13_0 := blk_frozen HGz13 0
              have hfz13_1 := blk_frozen HGz13 1
              clear HGz13 hgz13
              have p12 : 0 ≤ (t226 : Int) := of_decide_eq_true (by first | (with_reducible assumption) | assumption)
              have q12 : t226 < (a0.size : Int) := of_decide_eq_true (by first | (with_reducible assumption) | assumption)
              have hx12 := bt_at a0 t226
              replace p12 := eq_true p12
              replace q12 := eq_true q12
              go_wp2
              repeat (go_quiet (fail); try go_wp2)
              go_meet
              case rel => exact ⟨_, (bt a0 t226), (by first | rfl | (simp; done) | (simp [*]; done) | (simp [i64_w]; done) | (simp [*, i64_w]; done)), H', ⟨by have := HJ4.out; first | omega | exact Nat.le_refl _⟩, ⟨by repeat (first | (with_reducible first | exact HI1.out | apply IsS79.alloc | apply IsS79.drewN | apply IsS79.drew | apply IsS79.set_0 | apply IsS79.set_1) | exact HI1.out)⟩, ⟨by repeat (first | (with_reducible first | exact HK.out | apply KeepBut.set_ | apply keep_drewN | apply keep_drew | apply keep_alloc) | exact HK.out)⟩, ⟨by repeat (first | (with_reducible first | exact HB.out | apply below_alloc | apply pw_below_drewN | apply below_drew1 | refine below_set ?_ (IsS79.ge HI1.out)) | exact HB.out)⟩⟩
            · rw [if_neg c11] at H
              exact absurd H (by simp)
          · rw [if_neg c10] at H
            have c10b0 : decide (t226 < (a0.size : Int)) = false := decide_eq_false c10
            clear c10
            (first | rw [c10b0] | (simp only [i64_w, i32_w]; rw [c10b0]) | skip)
            have H' := Aside0.mk H
            clear H
            go_wp2
            repeat (go_quiet (fail); try go_wp2)
            go_meet
            case rel => exact ⟨_, (0), (by first | rfl | (simp; done) | (simp [*]; done) | (simp [i64_w]; done) | (simp [*, i64_w]; done)), H', ⟨by have := HJ4.out; first | omega | exact Nat.le_refl _⟩, ⟨by repeat (first | (with_reducible first | exact HI1.out | apply IsS79.alloc | apply IsS79.drewN | apply IsS79.drew | apply IsS79.set_0 | apply IsS79.set_1) | exact HI1.out)⟩, ⟨by repeat (first | (with_reducible first | exact HK.out | apply KeepBut.set_ | apply keep_drewN | apply keep_drew | apply keep_alloc) | exact HK.out)⟩, ⟨by repeat (first | (with_reducible first | exact HB.out | apply below_alloc | apply pw_below_drewN | apply below_drew1 | refine below_set ?_ (IsS79.ge HI1.out)) | exact HB.out)⟩⟩
        case rest =>
          clear HC8
          try clear c1
          try clear p1
          try clear q1
          try clear hx1
          try clear p2
          try clear c3
          try clear c3b0
          try clear c3b1
          try clear c7
          try clear c10
          try clear c10b0
          try clear c11
          try clear c11b0
          try clear p12
          try clear q12
          try clear hx12
          try clear hcz13_0
          try clear hcz13_1
          try clear hcz9_0
          try clear hcz9_1
          try clear hfz13_0
          try clear hfz13_1
          try clear hfz9_0
          try clear hfz9_1
          try clear p12
          try clear p2
          try clear q12
          obtain ⟨kq, x9_7, rfl, HA, HJ7, HI1, HK, HB⟩ := hcut
          cases kq with
          | zero => exact absurd HA.out (by simp [single_ParseR.j1])
          | succ kj7 =>
            have H := HA.out
            clear HA
            simp only [single_ParseR.j1] at H
            by_cases c14 : 0 < 8
            · rw [if_pos c14] at H
              have c14b0 : decide (0 < 8) = true := decide_eq_true c14
              clear c14
              by_cases c16 : x9_7 = (bt (⟨#[105, 110, 102, 105, 110, 105, 116, 101]⟩ : ByteArray) 0)
              · rw [if_pos c16] at H
                have c16b0 : (x9_7 == (bt (⟨#[105, 110, 102, 105, 110, 105, 116, 101]⟩ : ByteArray) 0)) = true := beq_iff_eq.mpr c16
                have c16b1 : (x9_7 != (bt (⟨#[105, 110, 102, 105, 110, 105, 116, 101]⟩ : ByteArray) 0)) = false := bne_eq_false_iff_eq.mpr c16
                clear c16
                replace H := Option.bind_eq_some_iff.mp H
                obtain ⟨⟨t227, t228, t229⟩, A170, H⟩ := H
                replace H : (if t227 = true then (if t229 < (a0.size : Int) then (some (0, t229, 32, t228, t229)) else (some (Go.bits .or .u32 x6_4 2139095040, 0, 0, t228, t229))) else (some (0, t229, 32, t228, t229))) = some (q1, q2, q3, r4, r5) := H
                have A17 := Aside0.mk A170
                clear A170
                by_cases c18 : t227 = true
                · subst c18
                  have H1 : (if t229 < (a0.size : Int) then (some (0, t229, 32, t228, t229)) else (some (Go.bits .or .u32 x6_4 2139095040, 0, 0, t228, t229))) = some (q1, q2, q3, r4, r5) := by rw [if_pos rfl] at H; exact H
                  clear H
                  have H := H1
                  clear H1
                  by_cases c19 : t229 < (a0.size : Int)
                  · rw [if_pos c19] at H
                    have c19b0 : decide (t229 < (a0.size : Int)) = true := decide_eq_true c19
                    clear c19
                    simp only [Option.some.injEq, Prod.mk.injEq] at H
                    obtain ⟨rfl, rfl, rfl, rfl, rfl⟩ := H
                    have p15 : 0 ≤ (0 : Int) := (by omega)
                    have q15 : 0 < (8 : Int) := (by omega)
                    have hx15 := bt_at (⟨#[105, 110, 102, 105, 110, 105, 116, 101]⟩ : ByteArray) 0
                    have hx15b : ((((⟨#[105, 110, 102, 105, 110, 105, 116, 101]⟩ : ByteArray)[0]'(by decide)).toNat : Nat) : Int) = bt (⟨#[105, 110, 102, 105, 110, 105, 116, 101]⟩ : ByteArray) 0 := by rfl
                    replace p15 := eq_true p15
                    replace q15 := eq_true q15
                    go_wp2_with (first | (go_at_call 46; (with_reducible refine (single_reader_word.calls kj7 w.heap.size t225 t226 (⟨#[105, 110, 102, 105, 110, 105, 116, 101]⟩ : ByteArray) true t228 t229 w _ ?side1 ?side2 A17.out).mono ?_); (case side1 => repeat (first | (with_reducible first | exact HI1.out | apply IsS79.alloc | apply IsS79.drewN | apply IsS79.drew | apply IsS79.set_0 | apply IsS79.set_1) | exact HI1.out)); (case side2 => repeat (first | (with_reducible first | exact HB.out | apply below_alloc | apply pw_below_drewN | apply below_drew1 | refine below_set ?_ (IsS79.ge HI1.out)) | exact HB.out)); rintro e w20 ⟨rfl, hi, hb, hk⟩; have n0_ := Aside0.mk (KeepBut.trans (by repeat (first | (with_reducible first | exact HK.out | apply KeepBut.set_ | apply keep_drewN | apply keep_drew | apply keep_alloc) | exact HK.out)) hk (.inl rfl)); have n1_ := Aside0.mk (hb); have n2_ := Aside0.mk (hi); clear HK; clear HB; clear HI1; have HK := n0_; have HB := n1_; have HI1 := n2_; clear n0_ n1_ n2_; (try clear hb); (try clear hb2); (try clear hk); (try clear hi); obtain ⟨HGz21, hgz21⟩ := HI1.out; have hcz21_0 := cellS79_0 HGz21; have hcz21_1 := cellS79_1 HGz21; have hfz21_0 := blk_frozen HGz21 0; have hfz21_1 := blk_frozen HGz21 1; clear HGz21 hgz21))
                    repeat (go_quiet (first | (go_at_call 46; (with_reducible refine (single_reader_word.calls kj7 w.heap.size t225 t226 (⟨#[105, 110, 102, 105, 110, 105, 116, 101]⟩ : ByteArray) true t228 t229 w _ ?side1 ?side2 A17.out).mono ?_); (case side1 => repeat (first | (with_reducible first | exact HI1.out | apply IsS79.alloc | apply IsS79.drewN | apply IsS79.drew | apply IsS79.set_0 | apply IsS79.set_1) | exact HI1.out)); (case side2 => repeat (first | (with_reducible first | exact HB.out | apply below_alloc | apply pw_below_drewN | apply below_drew1 | refine below_set ?_ (IsS79.ge HI1.out)) | exact HB.out)); rintro e w20 ⟨rfl, hi, hb, hk⟩; have n0_ := Aside0.mk (KeepBut.trans (by repeat (first | (with_reducible first | exact HK.out | apply KeepBut.set_ | apply keep_drewN | apply keep_drew | apply keep_alloc) | exact HK.out)) hk (.inl rfl)); have n1_ := Aside0.mk (hb); have n2_ := Aside0.mk (hi); clear HK; clear HB; clear HI1; have HK := n0_; have HB := n1_; have HI1 := n2_; clear n0_ n1_ n2_; (try clear hb); (try clear hb2); (try clear hk); (try clear hi); obtain ⟨HGz21, hgz21⟩ := HI1.out; have hcz21_0 := cellS79_0 HGz21; have hcz21_1 := cellS79_1 HGz21; have hfz21_0 := blk_frozen HGz21 0; have hfz21_1 := blk_frozen HGz21 1; clear HGz21 hgz21)); try go_wp2_with (first | (go_at_call 46; (with_reducible refine (single_reader_word.calls kj7 w.heap.size t225 t226 (⟨#[105, 110, 102, 105, 110, 105, 116, 101]⟩ : ByteArray) true t228 t229 w _ ?side1 ?side2 A17.out).mono ?_); (case side1 => repeat (first | (with_reducible first | exact HI1.out | apply IsS79.alloc | apply IsS79.drewN | apply IsS79.drew | apply IsS79.set_0 | apply IsS79.set_1) | exact HI1.out)); (case side2 => repeat (first | (with_reducible first | exact HB.out | apply below_alloc | apply pw_below_drewN | apply below_drew1 | refine below_set ?_ (IsS79.ge HI1.out)) | exact HB.out)); rintro e w20 ⟨rfl, hi, hb, hk⟩; have n0_ := Aside0.mk (KeepBut.trans (by repeat (first | (with_reducible first | exact HK.out | apply KeepBut.set_ | apply keep_drewN | apply keep_drew | apply keep_alloc) | exact HK.out)) hk (.inl rfl)); have n1_ := Aside0.mk (hb); have n2_ := Aside0.mk (hi); clear HK; clear HB; clear HI1; have HK := n0_; have HB := n1_; have HI1 := n2_; clear n0_ n1_ n2_; (try clear hb); (try clear hb2); (try clear hk); (try clear hi); obtain ⟨HGz21, hgz21⟩ := HI1.out; have hcz21_0 := cellS79_0 HGz21; have hcz21_1 := cellS79_1 HGz21; have hfz21_0 := blk_frozen HGz21 0; have hfz21_1 := blk_frozen HGz21 1; clear HGz21 hgz21)))
                    go_ret3
                    exact ⟨by first | rfl | (simp [errW_none, errW_some] <;> rfl) | (simp [*, errW_none, errW_some] <;> rfl), by repeat (first | (with_reducible first | exact HB.out | apply below_alloc | apply pw_below_drewN | apply below_drew1 | refine below_set ?_ (IsS79.ge HI1.out)) | exact HB.out)⟩
                  · rw [if_neg c19] at H
                    have c19b0 : decide (t229 < (a0.size : Int)) = false := decide_eq_false c19
                    clear c19
                    simp only [Option.some.injEq, Prod.mk.injEq] at H
                    obtain ⟨rfl, rfl, rfl, rfl, rfl⟩ := H
                    have p15 : 0 ≤ (0 : Int) := (by omega)
                    have q15 : 0 < (8 : Int) := (by omega)
                    have hx15 := bt_at (⟨#[105, 110, 102, 105, 110, 105, 116, 101]⟩ : ByteArray) 0
                    have hx15b : ((((⟨#[105, 110, 102, 105, 110, 105, 116, 101]⟩ : ByteArray)[0]'(by decide)).toNat : Nat) : Int) = bt (⟨#[105, 110, 102, 105, 110, 105, 116, 101]⟩ : ByteArray) 0 := by rfl
                    replace p15 := eq_true p15
                    replace q15 := eq_true q15
                    go_wp2_with (first | (go_at_call 46; (with_reducible refine (single_reader_word.calls kj7 w.heap.size t225 t226 (⟨#[105, 110, 102, 105, 110, 105, 116, 101]⟩ : ByteArray) true t228 t229 w _ ?side1 ?side2 A17.out).mono ?_); (case side1 => repeat (first | (with_reducible first | exact HI1.out | apply IsS79.alloc | apply IsS79.drewN | apply IsS79.drew | apply IsS79.set_0 | apply IsS79.set_1) | exact HI1.out)); (case side2 => repeat (first | (with_reducible first | exact HB.out | apply below_alloc | apply pw_below_drewN | apply below_drew1 | refine below_set ?_ (IsS79.ge HI1.out)) | exact HB.out)); rintro e w22 ⟨rfl, hi, hb, hk⟩; have n0_ := Aside0.mk (KeepBut.trans (by repeat (first | (with_reducible first | exact HK.out | apply KeepBut.set_ | apply keep_drewN | apply keep_drew | apply keep_alloc) | exact HK.out)) hk (.inl rfl)); have n1_ := Aside0.mk (hb); have n2_ := Aside0.mk (hi); clear HK; clear HB; clear HI1; have HK := n0_; have HB := n1_; have HI1 := n2_; clear n0_ n1_ n2_; (try clear hb); (try clear hb2); (try clear hk); (try clear hi); obtain ⟨HGz23, hgz23⟩ := HI1.out; have hcz23_0 := cellS79_0 HGz23; have hcz23_1 := cellS79_1 HGz23; have hfz23_0 := blk_frozen HGz23 0; have hfz23_1 := blk_frozen HGz23 1; clear HGz23 hgz23))
                    repeat (go_quiet (first | (go_at_call 46; (with_reducible refine (single_reader_word.calls kj7 w.heap.size t225 t226 (⟨#[105, 110, 102, 105, 110, 105, 116, 101]⟩ : ByteArray) true t228 t229 w _ ?side1 ?side2 A17.out).mono ?_); (case side1 => repeat (first | (with_reducible first | exact HI1.out | apply IsS79.alloc | apply IsS79.drewN | apply IsS79.drew | apply IsS79.set_0 | apply IsS79.set_1) | exact HI1.out)); (case side2 => repeat (first | (with_reducible first | exact HB.out | apply below_alloc | apply pw_below_drewN | apply below_drew1 | refine below_set ?_ (IsS79.ge HI1.out)) | exact HB.out)); rintro e w22 ⟨rfl, hi, hb, hk⟩; have n0_ := Aside0.mk (KeepBut.trans (by repeat (first | (with_reducible first | exact HK.out | apply KeepBut.set_ | apply keep_drewN | apply keep_drew | apply keep_alloc) | exact HK.out)) hk (.inl rfl)); have n1_ := Aside0.mk (hb); have n2_ := Aside0.mk (hi); clear HK; clear HB; clear HI1; have HK := n0_; have HB := n1_; have HI1 := n2_; clear n0_ n1_ n2_; (try clear hb); (try clear hb2); (try clear hk); (try clear hi); obtain ⟨HGz23, hgz23⟩ := HI1.out; have hcz23_0 := cellS79_0 HGz23; have hcz23_1 := cellS79_1 HGz23; have hfz23_0 := blk_frozen HGz23 0; have hfz23_1 := blk_frozen HGz23 1; clear HGz23 hgz23)); try go_wp2_with (first | (go_at_call 46; (with_reducible refine (single_reader_word.calls kj7 w.heap.size t225 t226 (⟨#[105, 110, 102, 105, 110, 105, 116, 101]⟩ : ByteArray) true t228 t229 w _ ?side1 ?side2 A17.out).mono ?_); (case side1 => repeat (first | (with_reducible first | exact HI1.out | apply IsS79.alloc | apply IsS79.drewN | apply IsS79.drew | apply IsS79.set_0 | apply IsS79.set_1) | exact HI1.out)); (case side2 => repeat (first | (with_reducible first | exact HB.out | apply below_alloc | apply pw_below_drewN | apply below_drew1 | refine below_set ?_ (IsS79.ge HI1.out)) | exact HB.out)); rintro e w22 ⟨rfl, hi, hb, hk⟩; have n0_ := Aside0.mk (KeepBut.trans (by repeat (first | (with_reducible first | exact HK.out | apply KeepBut.set_ | apply keep_drewN | apply keep_drew | apply keep_alloc) | exact HK.out)) hk (.inl rfl)); have n1_ := Aside0.mk (hb); have n2_ := Aside0.mk (hi); clear HK; clear HB; clear HI1; have HK := n0_; have HB := n1_; have HI1 := n2_; clear n0_ n1_ n2_; (try clear hb); (try clear hb2); (try clear hk); (try clear hi); obtain ⟨HGz23, hgz23⟩ := HI1.out; have hcz23_0 := cellS79_0 HGz23; have hcz23_1 := cellS79_1 HGz23; have hfz23_0 := blk_frozen HGz23 0; have hfz23_1 := blk_frozen HGz23 1; clear HGz23 hgz23)))
                    go_ret3
                    exact ⟨by first | rfl | (simp [errW_none, errW_some] <;> rfl) | (simp [*, errW_none, errW_some] <;> rfl), by repeat (first | (with_reducible first | exact HB.out | apply below_alloc | apply pw_below_drewN | apply below_drew1 | refine below_set ?_ (IsS79.ge HI1.out)) | exact HB.out)⟩
                · replace c18 := Bool.eq_false_iff.mpr c18
                  subst c18
                  have H1 : (some (0, t229, 32, t228, t229)) = some (q1, q2, q3, r4, r5) := by rw [if_neg (show ¬ (false = true) by decide)] at H; exact H
                  clear H
                  have H := H1
                  clear H1
                  simp only [Option.some.injEq, Prod.mk.injEq] at H
                  obtain ⟨rfl, rfl, rfl, rfl, rfl⟩ := H
                  have p15 : 0 ≤ (0 : Int) := (by omega)
                  have q15 : 0 < (8 : Int) := (by omega)
                  have hx15 := bt_at (⟨#[105, 110, 102, 105, 110, 105, 116, 101]⟩ : ByteArray) 0
                  have hx15b : ((((⟨#[105, 110, 102, 105, 110, 105, 116, 101]⟩ : ByteArray)[0]'(by decide)).toNat : Nat) : Int) = bt (⟨#[105, 110, 102, 105, 110, 105, 116, 101]⟩ : ByteArray) 0 := by rfl
                  replace p15 := eq_true p15
                  replace q15 := eq_true q15
                  go_wp2_with (first | (go_at_call 46; (with_reducible refine (single_reader_word.calls kj7 w.heap.size t225 t226 (⟨#[105, 110, 102, 105, 110, 105, 116, 101]⟩ : ByteArray) false t228 t229 w _ ?side1 ?side2 A17.out).mono ?_); (case side1 => repeat (first | (with_reducible first | exact HI1.out | apply IsS79.alloc | apply IsS79.drewN | apply IsS79.drew | apply IsS79.set_0 | apply IsS79.set_1) | exact HI1.out)); (case side2 => repeat (first | (with_reducible first | exact HB.out | apply below_alloc | apply pw_below_drewN | apply below_drew1 | refine below_set ?_ (IsS79.ge HI1.out)) | exact HB.out)); rintro e w24 ⟨rfl, hi, hb, hk⟩; have n0_ := Aside0.mk (KeepBut.trans (by repeat (first | (with_reducible first | exact HK.out | apply KeepBut.set_ | apply keep_drewN | apply keep_drew | apply keep_alloc) | exact HK.out)) hk (.inl rfl)); have n1_ := Aside0.mk (hb); have n2_ := Aside0.mk (hi); clear HK; clear HB; clear HI1; have HK := n0_; have HB := n1_; have HI1 := n2_; clear n0_ n1_ n2_; (try clear hb); (try clear hb2); (try clear hk); (try clear hi); obtain ⟨HGz25, hgz25⟩ := HI1.out; have hcz25_0 := cellS79_0 HGz25; have hcz25_1 := cellS79_1 HGz25; have hfz25_0 := blk_frozen HGz25 0; have hfz25_1 := blk_frozen HGz25 1; clear HGz25 hgz25))
                  repeat (go_quiet (first | (go_at_call 46; (with_reducible refine (single_reader_word.calls kj7 w.heap.size t225 t226 (⟨#[105, 110, 102, 105, 110, 105, 116, 101]⟩ : ByteArray) false t228 t229 w _ ?side1 ?side2 A17.out).mono ?_); (case side1 => repeat (first | (with_reducible first | exact HI1.out | apply IsS79.alloc | apply IsS79.drewN | apply IsS79.drew | apply IsS79.set_0 | apply IsS79.set_1) | exact HI1.out)); (case side2 => repeat (first | (with_reducible first | exact HB.out | apply below_alloc | apply pw_below_drewN | apply below_drew1 | refine below_set ?_ (IsS79.ge HI1.out)) | exact HB.out)); rintro e w24 ⟨rfl, hi, hb, hk⟩; have n0_ := Aside0.mk (KeepBut.trans (by repeat (first | (with_reducible first | exact HK.out | apply KeepBut.set_ | apply keep_drewN | apply keep_drew | apply keep_alloc) | exact HK.out)) hk (.inl rfl)); have n1_ := Aside0.mk (hb); have n2_ := Aside0.mk (hi); clear HK; clear HB; clear HI1; have HK := n0_; have HB := n1_; have HI1 := n2_; clear n0_ n1_ n2_; (try clear hb); (try clear hb2); (try clear hk); (try clear hi); obtain ⟨HGz25, hgz25⟩ := HI1.out; have hcz25_0 := cellS79_0 HGz25; have hcz25_1 := cellS79_1 HGz25; have hfz25_0 := blk_frozen HGz25 0; have hfz25_1 := blk_frozen HGz25 1; clear HGz25 hgz25)); try go_wp2_with (first | (go_at_call 46; (with_reducible refine (single_reader_word.calls kj7 w.heap.size t225 t226 (⟨#[105, 110, 102, 105, 110, 105, 116, 101]⟩ : ByteArray) false t228 t229 w _ ?side1 ?side2 A17.out).mono ?_); (case side1 => repeat (first | (with_reducible first | exact HI1.out | apply IsS79.alloc | apply IsS79.drewN | apply IsS79.drew | apply IsS79.set_0 | apply IsS79.set_1) | exact HI1.out)); (case side2 => repeat (first | (with_reducible first | exact HB.out | apply below_alloc | apply pw_below_drewN | apply below_drew1 | refine below_set ?_ (IsS79.ge HI1.out)) | exact HB.out)); rintro e w24 ⟨rfl, hi, hb, hk⟩; have n0_ := Aside0.mk (KeepBut.trans (by repeat (first | (with_reducible first | exact HK.out | apply KeepBut.set_ | apply keep_drewN | apply keep_drew | apply keep_alloc) | exact HK.out)) hk (.inl rfl)); have n1_ := Aside0.mk (hb); have n2_ := Aside0.mk (hi); clear HK; clear HB; clear HI1; have HK := n0_; have HB := n1_; have HI1 := n2_; clear n0_ n1_ n2_; (try clear hb); (try clear hb2); (try clear hk); (try clear hi); obtain ⟨HGz25, hgz25⟩ := HI1.out; have hcz25_0 := cellS79_0 HGz25; have hcz25_1 := cellS79_1 HGz25; have hfz25_0 := blk_frozen HGz25 0; have hfz25_1 := blk_frozen HGz25 1; clear HGz25 hgz25)))
                  go_ret3
                  exact ⟨by first | rfl | (simp [errW_none, errW_some] <;> rfl) | (simp [*, errW_none, errW_some] <;> rfl), by repeat (first | (with_reducible first | exact HB.out | apply below_alloc | apply pw_below_drewN | apply below_drew1 | refine below_set ?_ (IsS79.ge HI1.out)) | exact HB.out)⟩
              · rw [if_neg c16] at H
                have c16b0 : (x9_7 == (bt (⟨#[105, 110, 102, 105, 110, 105, 116, 101]⟩ : ByteArray) 0)) = false := beq_eq_false_iff_ne.mpr c16
                have c16b1 : (x9_7 != (bt (⟨#[105, 110, 102, 105, 110, 105, 116, 101]⟩ : ByteArray) 0)) = true := bne_iff_ne.mpr c16
                have HC26 := Aside0.mk H
                clear H
                have p15 : 0 ≤ (0 : Int) := (by omega)
                have q15 : 0 < (8 : Int) := (by omega)
                have hx15 := bt_at (⟨#[105, 110, 102, 105, 110, 105, 116, 101]⟩ : ByteArray) 0
                have hx15b : ((((⟨#[105, 110, 102, 105, 110, 105, 116, 101]⟩ : ByteArray)[0]'(by decide)).toNat : Nat) : Int) = bt (⟨#[105, 110, 102, 105, 110, 105, 116, 101]⟩ : ByteArray) 0 := by rfl
                replace p15 := eq_true p15
                replace q15 := eq_true q15
                go_upto_region 18 with (fail)
                repeat (go_quiet (fail); go_upto_region 18 with (fail))
                go_cut [55] (fun v55 wc => ∃ (kq : Nat) (x55_25 : Bool), v55 = .bool x55_25 ∧ Aside0 (single_ParseR.j2 kq a0 x6_4 x55_25 t225 t226 = some (q1, q2, q3, r4, r5)) ∧ Aside0 (kq ≤ kj7) ∧ Aside0 (IsS79 w wc w.heap.size t225 t226) ∧ Aside0 (KeepBut w wc w.heap.size none) ∧ Aside0 (Below w.heap.size w wc))
                case first =>
                  have H := HC26.out
                  clear HC26
                  by_cases c27 : 0 < 4
                  · rw [if_pos c27] at H
                    have c27b0 : decide (0 < 4) = true := decide_eq_true c27
                    clear c27
                    (first | rw [c27b0] | (simp only [i64_w, i32_w]; rw [c27b0]) | skip)
                    by_cases c29 : x9_7 = (bt (⟨#[110, 111, 110, 101]⟩ : ByteArray) 0)
                    · rw [if_pos c29] at H
                      have c29b0 : (x9_7 == (bt (⟨#[110, 111, 110, 101]⟩ : ByteArray) 0)) = true := beq_iff_eq.mpr c29
                      have c29b1 : (x9_7 != (bt (⟨#[110, 111, 110, 101]⟩ : ByteArray) 0)) = false := bne_eq_false_iff_eq.mpr c29
                      clear c29
                      have H' := Aside0.mk H
                      clear H
                      have p28 : 0 ≤ (0 : Int) := (by omega)
                      have q28 : 0 < (4 : Int) := (by omega)
                      have hx28 := bt_at (⟨#[110, 111, 110, 101]⟩ : ByteArray) 0
                      have hx28b : ((((⟨#[110, 111, 110, 101]⟩ : ByteArray)[0]'(by decide)).toNat : Nat) : Int) = bt (⟨#[110, 111, 110, 101]⟩ : ByteArray) 0 := by rfl
                      replace p28 := eq_true p28
                      replace q28 := eq_true q28
                      go_wp2
                      repeat (go_quiet (fail); try go_wp2)
                      go_meet
                      case rel => exact ⟨_, ((x6_4 == 0)), (by first | rfl | (simp; done) | (simp [*]; done) | (simp [i64_w]; done) | (simp [*, i64_w]; done)), H', ⟨by have := HJ4.out; have := HJ7.out; first | omega | exact Nat.le_refl _⟩, ⟨by repeat (first | (with_reducible first | exact HI1.out | apply IsS79.alloc | apply IsS79.drewN | apply IsS79.drew | apply IsS79.set_0 | apply IsS79.set_1) | exact HI1.out)⟩, ⟨by repeat (first | (with_reducible first | exact HK.out | apply KeepBut.set_ | apply keep_drewN | apply keep_drew | apply keep_alloc) | exact HK.out)⟩, ⟨by repeat (first | (with_reducible first | exact HB.out | apply below_alloc | apply pw_below_drewN | apply below_drew1 | refine below_set ?_ (IsS79.ge HI1.out)) | exact HB.out)⟩⟩
                    · rw [if_neg c29] at H
                      have c29b0 : (x9_7 == (bt (⟨#[110, 111, 110, 101]⟩ : ByteArray) 0)) = false := beq_eq_false_iff_ne.mpr c29
                      have c29b1 : (x9_7 != (bt (⟨#[110, 111, 110, 101]⟩ : ByteArray) 0)) = true := bne_iff_ne.mpr c29
                      have H' := Aside0.mk H
                      clear H
                      have p28 : 0 ≤ (0 : Int) := (by omega)
                      have q28 : 0 < (4 : Int) := (by omega)
                      have hx28 := bt_at (⟨#[110, 111, 110, 101]⟩ : ByteArray) 0
                      have hx28b : ((((⟨#[110, 111, 110, 101]⟩ : ByteArray)[0]'(by decide)).toNat : Nat) : Int) = bt (⟨#[110, 111, 110, 101]⟩ : ByteArray) 0 := by rfl
                      replace p28 := eq_true p28
                      replace q28 := eq_true q28
                      go_wp2
                      repeat (go_quiet (fail); try go_wp2)
                      go_meet
                      case rel => exact ⟨_, (false), (by first | rfl | (simp; done) | (simp [*]; done) | (simp [i64_w]; done) | (simp [*, i64_w]; done)), H', ⟨by have := HJ4.out; have := HJ7.out; first | omega | exact Nat.le_refl _⟩, ⟨by repeat (first | (with_reducible first | exact HI1.out | apply IsS79.alloc | apply IsS79.drewN | apply IsS79.drew | apply IsS79.set_0 | apply IsS79.set_1) | exact HI1.out)⟩, ⟨by repeat (first | (with_reducible first | exact HK.out | apply KeepBut.set_ | apply keep_drewN | apply keep_drew | apply keep_alloc) | exact HK.out)⟩, ⟨by repeat (first | (with_reducible first | exact HB.out | apply below_alloc | apply pw_below_drewN | apply below_drew1 | refine below_set ?_ (IsS79.ge HI1.out)) | exact HB.out)⟩⟩
                  · rw [if_neg c27] at H
                    exact absurd H (by simp)
                case rest =>
                  clear HC26
                  try clear c1
                  try clear p1
                  try clear q1
                  try clear hx1
                  try clear c2
                  try clear p2
                  try clear q2
                  try clear hx2
                  try clear c3
                  try clear c3b0
                  try clear c3b1
                  try clear c7
                  try clear c10
                  try clear c10b0
                  try clear c11
                  try clear c11b0
                  try clear p12
                  try clear q12
                  try clear hx12
                  try clear c14
                  try clear c14b0
                  try clear p15
                  try clear q15
                  try clear hx15
                  try clear c16
                  try clear c16b0
                  try clear c16b1
                  try clear c18
                  try clear c19
                  try clear c19b0
                  try clear c27
                  try clear c27b0
                  try clear p28
                  try clear q28
                  try clear hx28
                  try clear c29
                  try clear c29b0
                  try clear c29b1
                  try clear hcz13_0
                  try clear hcz13_1
                  try clear hcz21_0
                  try clear hcz21_1
                  try clear hcz23_0
                  try clear hcz23_1
                  try clear hcz25_0
                  try clear hcz25_1
                  try clear hcz9_0
                  try clear hcz9_1
                  try clear hfz13_0
                  try clear hfz13_1
                  try clear hfz21_0
                  try clear hfz21_1
                  try clear hfz23_0
                  try clear hfz23_1
                  try clear hfz25_0
                  try clear hfz25_1
                  try clear hfz9_0
                  try clear hfz9_1
                  try clear p1
                  try clear p12
                  try clear p15
                  try clear p2
                  try clear p28
                  try clear q1
                  try clear q12
                  try clear q15
                  try clear q28
                  obtain ⟨kq, x55_25, rfl, HA, HJ25, HI1, HK, HB⟩ := hcut
                  cases kq with
                  | zero => exact absurd HA.out (by simp [single_ParseR.j2])
                  | succ kj25 =>
                    have H := HA.out
                    clear HA
                    simp only [single_ParseR.j2] at H
                    by_cases c30 : x55_25 = true
                    · subst c30
                      have H1 : ((single_reader_word.f kj25 t225 t226 (⟨#[110, 111, 110, 101]⟩ : ByteArray)).bind fun bt230 => (if bt230.1 = true then (if bt230.2.2 < (a0.size : Int) then (some (0, bt230.2.2, 32, bt230.2.1, bt230.2.2)) else (some (Go.bits .or .u32 x6_4 2143289344, 0, 0, bt230.2.1, bt230.2.2))) else (some (0, bt230.2.2, 32, bt230.2.1, bt230.2.2)))) = some (q1, q2, q3, r4, r5) := by rw [if_pos rfl] at H; exact H
                      clear H
                      have H := H1
                      clear H1
                      replace H := Option.bind_eq_some_iff.mp H
                      obtain ⟨⟨t230, t231, t232⟩, A310, H⟩ := H
                      replace H : (if t230 = true then (if t232 < (a0.size : Int) then (some (0, t232, 32, t231, t232)) else (some (Go.bits .or .u32 x6_4 2143289344, 0, 0, t231, t232))) else (some (0, t232, 32, t231, t232))) = some (q1, q2, q3, r4, r5) := H
                      have A31 := Aside0.mk A310
                      clear A310
                      by_cases c32 : t230 = true
                      · subst c32
                        have H1 : (if t232 < (a0.size : Int) then (some (0, t232, 32, t231, t232)) else (some (Go.bits .or .u32 x6_4 2143289344, 0, 0, t231, t232))) = some (q1, q2, q3, r4, r5) := by rw [if_pos rfl] at H; exact H
                        clear H
                        have H := H1
                        clear H1
                        by_cases c33 : t232 < (a0.size : Int)
                        · rw [if_pos c33] at H
                          have c33b0 : decide (t232 < (a0.size : Int)) = true := decide_eq_true c33
                          clear c33
                          simp only [Option.some.injEq, Prod.mk.injEq] at H
                          obtain ⟨rfl, rfl, rfl, rfl, rfl⟩ := H
                          go_wp2_with (first | (go_at_call 46; (with_reducible refine (single_reader_word.calls kj25 w.heap.size t225 t226 (⟨#[110, 111, 110, 101]⟩ : ByteArray) true t231 t232 w _ ?side1 ?side2 A31.out).mono ?_); (case side1 => repeat (first | (with_reducible first | exact HI1.out | apply IsS79.alloc | apply IsS79.drewN | apply IsS79.drew | apply IsS79.set_0 | apply IsS79.set_1) | exact HI1.out)); (case side2 => repeat (first | (with_reducible first | exact HB.out | apply below_alloc | apply pw_below_drewN | apply below_drew1 | refine below_set ?_ (IsS79.ge HI1.out)) | exact HB.out)); rintro e w34 ⟨rfl, hi, hb, hk⟩; have n0_ := Aside0.mk (KeepBut.trans (by repeat (first | (with_reducible first | exact HK.out | apply KeepBut.set_ | apply keep_drewN | apply keep_drew | apply keep_alloc) | exact HK.out)) hk (.inl rfl)); have n1_ := Aside0.mk (hb); have n2_ := Aside0.mk (hi); clear HK; clear HB; clear HI1; have HK := n0_; have HB := n1_; have HI1 := n2_; clear n0_ n1_ n2_; (try clear hb); (try clear hb2); (try clear hk); (try clear hi); obtain ⟨HGz35, hgz35⟩ := HI1.out; have hcz35_0 := cellS79_0 HGz35; have hcz35_1 := cellS79_1 HGz35; have hfz35_0 := blk_frozen HGz35 0; have hfz35_1 := blk_frozen HGz35 1; clear HGz35 hgz35))
                          repeat (go_quiet (first | (go_at_call 46; (with_reducible refine (single_reader_word.calls kj25 w.heap.size t225 t226 (⟨#[110, 111, 110, 101]⟩ : ByteArray) true t231 t232 w _ ?side1 ?side2 A31.out).mono ?_); (case side1 => repeat (first | (with_reducible first | exact HI1.out | apply IsS79.alloc | apply IsS79.drewN | apply IsS79.drew | apply IsS79.set_0 | apply IsS79.set_1) | exact HI1.out)); (case side2 => repeat (first | (with_reducible first | exact HB.out | apply below_alloc | apply pw_below_drewN | apply below_drew1 | refine below_set ?_ (IsS79.ge HI1.out)) | exact HB.out)); rintro e w34 ⟨rfl, hi, hb, hk⟩; have n0_ := Aside0.mk (KeepBut.trans (by repeat (first | (with_reducible first | exact HK.out | apply KeepBut.set_ | apply keep_drewN | apply keep_drew | apply keep_alloc) | exact HK.out)) hk (.inl rfl)); have n1_ := Aside0.mk (hb); have n2_ := Aside0.mk (hi); clear HK; clear HB; clear HI1; have HK := n0_; have HB := n1_; have HI1 := n2_; clear n0_ n1_ n2_; (try clear hb); (try clear hb2); (try clear hk); (try clear hi); obtain ⟨HGz35, hgz35⟩ := HI1.out; have hcz35_0 := cellS79_0 HGz35; have hcz35_1 := cellS79_1 HGz35; have hfz35_0 := blk_frozen HGz35 0; have hfz35_1 := blk_frozen HGz35 1; clear HGz35 hgz35)); try go_wp2_with (first | (go_at_call 46; (with_reducible refine (single_reader_word.calls kj25 w.heap.size t225 t226 (⟨#[110, 111, 110, 101]⟩ : ByteArray) true t231 t232 w _ ?side1 ?side2 A31.out).mono ?_); (case side1 => repeat (first | (with_reducible first | exact HI1.out | apply IsS79.alloc | apply IsS79.drewN | apply IsS79.drew | apply IsS79.set_0 | apply IsS79.set_1) | exact HI1.out)); (case side2 => repeat (first | (with_reducible first | exact HB.out | apply below_alloc | apply pw_below_drewN | apply below_drew1 | refine below_set ?_ (IsS79.ge HI1.out)) | exact HB.out)); rintro e w34 ⟨rfl, hi, hb, hk⟩; have n0_ := Aside0.mk (KeepBut.trans (by repeat (first | (with_reducible first | exact HK.out | apply KeepBut.set_ | apply keep_drewN | apply keep_drew | apply keep_alloc) | exact HK.out)) hk (.inl rfl)); have n1_ := Aside0.mk (hb); have n2_ := Aside0.mk (hi); clear HK; clear HB; clear HI1; have HK := n0_; have HB := n1_; have HI1 := n2_; clear n0_ n1_ n2_; (try clear hb); (try clear hb2); (try clear hk); (try clear hi); obtain ⟨HGz35, hgz35⟩ := HI1.out; have hcz35_0 := cellS79_0 HGz35; have hcz35_1 := cellS79_1 HGz35; have hfz35_0 := blk_frozen HGz35 0; have hfz35_1 := blk_frozen HGz35 1; clear HGz35 hgz35)))
                          go_ret3
                          exact ⟨by first | rfl | (simp [errW_none, errW_some] <;> rfl) | (simp [*, errW_none, errW_some] <;> rfl), by repeat (first | (with_reducible first | exact HB.out | apply below_alloc | apply pw_below_drewN | apply below_drew1 | refine below_set ?_ (IsS79.ge HI1.out)) | exact HB.out)⟩
                        · rw [if_neg c33] at H
                          have c33b0 : decide (t232 < (a0.size : Int)) = false := decide_eq_false c33
                          clear c33
                          simp only [Option.some.injEq, Prod.mk.injEq] at H
                          obtain ⟨rfl, rfl, rfl, rfl, rfl⟩ := H
                          go_wp2_with (first | (go_at_call 46; (with_reducible refine (single_reader_word.calls kj25 w.heap.size t225 t226 (⟨#[110, 111, 110, 101]⟩ : ByteArray) true t231 t232 w _ ?side1 ?side2 A31.out).mono ?_); (case side1 => repeat (first | (with_reducible first | exact HI1.out | apply IsS79.alloc | apply IsS79.drewN | apply IsS79.drew | apply IsS79.set_0 | apply IsS79.set_1) | exact HI1.out)); (case side2 => repeat (first | (with_reducible first | exact HB.out | apply below_alloc | apply pw_below_drewN | apply below_drew1 | refine below_set ?_ (IsS79.ge HI1.out)) | exact HB.out)); rintro e w36 ⟨rfl, hi, hb, hk⟩; have n0_ := Aside0.mk (KeepBut.trans (by repeat (first | (with_reducible first | exact HK.out | apply KeepBut.set_ | apply keep_drewN | apply keep_drew | apply keep_alloc) | exact HK.out)) hk (.inl rfl)); have n1_ := Aside0.mk (hb); have n2_ := Aside0.mk (hi); clear HK; clear HB; clear HI1; have HK := n0_; have HB := n1_; have HI1 := n2_; clear n0_ n1_ n2_; (try clear hb); (try clear hb2); (try clear hk); (try clear hi); obtain ⟨HGz37, hgz37⟩ := HI1.out; have hcz37_0 := cellS79_0 HGz37; have hcz37_1 := cellS79_1 HGz37; have hfz37_0 := blk_frozen HGz37 0; have hfz37_1 := blk_frozen HGz37 1; clear HGz37 hgz37))
                          repeat (go_quiet (first | (go_at_call 46; (with_reducible refine (single_reader_word.calls kj25 w.heap.size t225 t226 (⟨#[110, 111, 110, 101]⟩ : ByteArray) true t231 t232 w _ ?side1 ?side2 A31.out).mono ?_); (case side1 => repeat (first | (with_reducible first | exact HI1.out | apply IsS79.alloc | apply IsS79.drewN | apply IsS79.drew | apply IsS79.set_0 | apply IsS79.set_1) | exact HI1.out)); (case side2 => repeat (first | (with_reducible first | exact HB.out | apply below_alloc | apply pw_below_drewN | apply below_drew1 | refine below_set ?_ (IsS79.ge HI1.out)) | exact HB.out)); rintro e w36 ⟨rfl, hi, hb, hk⟩; have n0_ := Aside0.mk (KeepBut.trans (by repeat (first | (with_reducible first | exact HK.out | apply KeepBut.set_ | apply keep_drewN | apply keep_drew | apply keep_alloc) | exact HK.out)) hk (.inl rfl)); have n1_ := Aside0.mk (hb); have n2_ := Aside0.mk (hi); clear HK; clear HB; clear HI1; have HK := n0_; have HB := n1_; have HI1 := n2_; clear n0_ n1_ n2_; (try clear hb); (try clear hb2); (try clear hk); (try clear hi); obtain ⟨HGz37, hgz37⟩ := HI1.out; have hcz37_0 := cellS79_0 HGz37; have hcz37_1 := cellS79_1 HGz37; have hfz37_0 := blk_frozen HGz37 0; have hfz37_1 := blk_frozen HGz37 1; clear HGz37 hgz37)); try go_wp2_with (first | (go_at_call 46; (with_reducible refine (single_reader_word.calls kj25 w.heap.size t225 t226 (⟨#[110, 111, 110, 101]⟩ : ByteArray) true t231 t232 w _ ?side1 ?side2 A31.out).mono ?_); (case side1 => repeat (first | (with_reducible first | exact HI1.out | apply IsS79.alloc | apply IsS79.drewN | apply IsS79.drew | apply IsS79.set_0 | apply IsS79.set_1) | exact HI1.out)); (case side2 => repeat (first | (with_reducible first | exact HB.out | apply below_alloc | apply pw_below_drewN | apply below_drew1 | refine below_set ?_ (IsS79.ge HI1.out)) | exact HB.out)); rintro e w36 ⟨rfl, hi, hb, hk⟩; have n0_ := Aside0.mk (KeepBut.trans (by repeat (first | (with_reducible first | exact HK.out | apply KeepBut.set_ | apply keep_drewN | apply keep_drew | apply keep_alloc) | exact HK.out)) hk (.inl rfl)); have n1_ := Aside0.mk (hb); have n2_ := Aside0.mk (hi); clear HK; clear HB; clear HI1; have HK := n0_; have HB := n1_; have HI1 := n2_; clear n0_ n1_ n2_; (try clear hb); (try clear hb2); (try clear hk); (try clear hi); obtain ⟨HGz37, hgz37⟩ := HI1.out; have hcz37_0 := cellS79_0 HGz37; have hcz37_1 := cellS79_1 HGz37; have hfz37_0 := blk_frozen HGz37 0; have hfz37_1 := blk_frozen HGz37 1; clear HGz37 hgz37)))
                          go_ret3
                          exact ⟨by first | rfl | (simp [errW_none, errW_some] <;> rfl) | (simp [*, errW_none, errW_some] <;> rfl), by repeat (first | (with_reducible first | exact HB.out | apply below_alloc | apply pw_below_drewN | apply below_drew1 | refine below_set ?_ (IsS79.ge HI1.out)) | exact HB.out)⟩
                      · replace c32 := Bool.eq_false_iff.mpr c32
                        subst c32
                        have H1 : (some (0, t232, 32, t231, t232)) = some (q1, q2, q3, r4, r5) := by rw [if_neg (show ¬ (false = true) by decide)] at H; exact H
                        clear H
                        have H := H1
                        clear H1
                        simp only [Option.some.injEq, Prod.mk.injEq] at H
                        obtain ⟨rfl, rfl, rfl, rfl, rfl⟩ := H
                        go_wp2_with (first | (go_at_call 46; (with_reducible refine (single_reader_word.calls kj25 w.heap.size t225 t226 (⟨#[110, 111, 110, 101]⟩ : ByteArray) false t231 t232 w _ ?side1 ?side2 A31.out).mono ?_); (case side1 => repeat (first | (with_reducible first | exact HI1.out | apply IsS79.alloc | apply IsS79.drewN | apply IsS79.drew | apply IsS79.set_0 | apply IsS79.set_1) | exact HI1.out)); (case side2 => repeat (first | (with_reducible first | exact HB.out | apply below_alloc | apply pw_below_drewN | apply below_drew1 | refine below_set ?_ (IsS79.ge HI1.out)) | exact HB.out)); rintro e w38 ⟨rfl, hi, hb, hk⟩; have n0_ := Aside0.mk (KeepBut.trans (by repeat (first | (with_reducible first | exact HK.out | apply KeepBut.set_ | apply keep_drewN | apply keep_drew | apply keep_alloc) | exact HK.out)) hk (.inl rfl)); have n1_ := Aside0.mk (hb); have n2_ := Aside0.mk (hi); clear HK; clear HB; clear HI1; have HK := n0_; have HB := n1_; have HI1 := n2_; clear n0_ n1_ n2_; (try clear hb); (try clear hb2); (try clear hk); (try clear hi); obtain ⟨HGz39, hgz39⟩ := HI1.out; have hcz39_0 := cellS79_0 HGz39; have hcz39_1 := cellS79_1 HGz39; have hfz39_0 := blk_frozen HGz39 0; have hfz39_1 := blk_frozen HGz39 1; clear HGz39 hgz39))
                        repeat (go_quiet (first | (go_at_call 46; (with_reducible refine (single_reader_word.calls kj25 w.heap.size t225 t226 (⟨#[110, 111, 110, 101]⟩ : ByteArray) false t231 t232 w _ ?side1 ?side2 A31.out).mono ?_); (case side1 => repeat (first | (with_reducible first | exact HI1.out | apply IsS79.alloc | apply IsS79.drewN | apply IsS79.drew | apply IsS79.set_0 | apply IsS79.set_1) | exact HI1.out)); (case side2 => repeat (first | (with_reducible first | exact HB.out | apply below_alloc | apply pw_below_drewN | apply below_drew1 | refine below_set ?_ (IsS79.ge HI1.out)) | exact HB.out)); rintro e w38 ⟨rfl, hi, hb, hk⟩; have n0_ := Aside0.mk (KeepBut.trans (by repeat (first | (with_reducible first | exact HK.out | apply KeepBut.set_ | apply keep_drewN | apply keep_drew | apply keep_alloc) | exact HK.out)) hk (.inl rfl)); have n1_ := Aside0.mk (hb); have n2_ := Aside0.mk (hi); clear HK; clear HB; clear HI1; have HK := n0_; have HB := n1_; have HI1 := n2_; clear n0_ n1_ n2_; (try clear hb); (try clear hb2); (try clear hk); (try clear hi); obtain ⟨HGz39, hgz39⟩ := HI1.out; have hcz39_0 := cellS79_0 HGz39; have hcz39_1 := cellS79_1 HGz39; have hfz39_0 := blk_frozen HGz39 0; have hfz39_1 := blk_frozen HGz39 1; clear HGz39 hgz39)); try go_wp2_with (first | (go_at_call 46; (with_reducible refine (single_reader_word.calls kj25 w.heap.size t225 t226 (⟨#[110, 111, 110, 101]⟩ : ByteArray) false t231 t232 w _ ?side1 ?side2 A31.out).mono ?_); (case side1 => repeat (first | (with_reducible first | exact HI1.out | apply IsS79.alloc | apply IsS79.drewN | apply IsS79.drew | apply IsS79.set_0 | apply IsS79.set_1) | exact HI1.out)); (case side2 => repeat (first | (with_reducible first | exact HB.out | apply below_alloc | apply pw_below_drewN | apply below_drew1 | refine below_set ?_ (IsS79.ge HI1.out)) | exact HB.out)); rintro e w38 ⟨rfl, hi, hb, hk⟩; have n0_ := Aside0.mk (KeepBut.trans (by repeat (first | (with_reducible first | exact HK.out | apply KeepBut.set_ | apply keep_drewN | apply keep_drew | apply keep_alloc) | exact HK.out)) hk (.inl rfl)); have n1_ := Aside0.mk (hb); have n2_ := Aside0.mk (hi); clear HK; clear HB; clear HI1; have HK := n0_; have HB := n1_; have HI1 := n2_; clear n0_ n1_ n2_; (try clear hb); (try clear hb2); (try clear hk); (try clear hi); obtain ⟨HGz39, hgz39⟩ := HI1.out; have hcz39_0 := cellS79_0 HGz39; have hcz39_1 := cellS79_1 HGz39; have hfz39_0 := blk_frozen HGz39 0; have hfz39_1 := blk_frozen HGz39 1; clear HGz39 hgz39)))
                        go_ret3
                        exact ⟨by first | rfl | (simp [errW_none, errW_some] <;> rfl) | (simp [*, errW_none, errW_some] <;> rfl), by repeat (first | (with_reducible first | exact HB.out | apply below_alloc | apply pw_below_drewN | apply below_drew1 | refine below_set ?_ (IsS79.ge HI1.out)) | exact HB.out)⟩
                    · replace c30 := Bool.eq_false_iff.mpr c30
                      subst c30
                      have H1 : ((single_reader_number.f kj25 t225 t226).bind fun bt233 => (if bt233.2.2.1 = true then ((single_nearest.f kj25 bt233.1 bt233.2.1).bind fun t238 => (if bt233.2.2.2.2 < (a0.size : Int) then (some (0, bt233.2.2.2.2, 32, bt233.2.2.2.1, bt233.2.2.2.2)) else (some (Go.bits .or .u32 x6_4 t238, 0, 0, bt233.2.2.2.1, bt233.2.2.2.2)))) else (some (0, bt233.2.2.2.2, 32, bt233.2.2.2.1, bt233.2.2.2.2)))) = some (q1, q2, q3, r4, r5) := by rw [if_neg (show ¬ (false = true) by decide)] at H; exact H
                      clear H
                      have H := H1
                      clear H1
                      replace H := Option.bind_eq_some_iff.mp H
                      obtain ⟨⟨t233, t234, t235, t236, t237⟩, A400, H⟩ := H
                      replace H : (if t235 = true then ((single_nearest.f kj25 t233 t234).bind fun t238 => (if t237 < (a0.size : Int) then (some (0, t237, 32, t236, t237)) else (some (Go.bits .or .u32 x6_4 t238, 0, 0, t236, t237)))) else (some (0, t237, 32, t236, t237))) = some (q1, q2, q3, r4, r5) := H
                      have A40 := Aside0.mk A400
                      clear A400
                      by_cases c41 : t235 = true
                      · subst c41
                        have H1 : ((single_nearest.f kj25 t233 t234).bind fun t238 => (if t237 < (a0.size : Int) then (some (0, t237, 32, t236, t237)) else (some (Go.bits .or .u32 x6_4 t238, 0, 0, t236, t237)))) = some (q1, q2, q3, r4, r5) := by rw [if_pos rfl] at H; exact H
                        clear H
                        have H := H1
                        clear H1
                        replace H := Option.bind_eq_some_iff.mp H
                        obtain ⟨t238, A420, H⟩ := H
                        replace H : (if t237 < (a0.size : Int) then (some (0, t237, 32, t236, t237)) else (some (Go.bits .or .u32 x6_4 t238, 0, 0, t236, t237))) = some (q1, q2, q3, r4, r5) := H
                        have A42 := Aside0.mk A420
                        clear A420
                        by_cases c43 : t237 < (a0.size : Int)
                        · rw [if_pos c43] at H
                          have c43b0 : decide (t237 < (a0.size : Int)) = true := decide_eq_true c43
                          clear c43
                          simp only [Option.some.injEq, Prod.mk.injEq] at H
                          obtain ⟨rfl, rfl, rfl, rfl, rfl⟩ := H
                          go_wp2_with (first | (go_at_call 47; (with_reducible refine (single_reader_number.calls kj25 w.heap.size t225 t226 t233 t234 true t236 t237 w _ ?side1 ?side2 A40.out).mono ?_); (case side1 => repeat (first | (with_reducible first | exact HI1.out | apply IsS79.alloc | apply IsS79.drewN | apply IsS79.drew | apply IsS79.set_0 | apply IsS79.set_1) | exact HI1.out)); (case side2 => repeat (first | (with_reducible first | exact HB.out | apply below_alloc | apply pw_below_drewN | apply below_drew1 | refine below_set ?_ (IsS79.ge HI1.out)) | exact HB.out)); rintro e w44 ⟨rfl, hi, hb, hk⟩; have n0_ := Aside0.mk (KeepBut.trans (by repeat (first | (with_reducible first | exact HK.out | apply KeepBut.set_ | apply keep_drewN | apply keep_drew | apply keep_alloc) | exact HK.out)) hk (.inl rfl)); have n1_ := Aside0.mk (hb); have n2_ := Aside0.mk (hi); clear HK; clear HB; clear HI1; have HK := n0_; have HB := n1_; have HI1 := n2_; clear n0_ n1_ n2_; (try clear hb); (try clear hb2); (try clear hk); (try clear hi)) | (go_at_call 48; (with_reducible refine (single_nearest.calls kj25 t233 t234 t238 _ A42.out).mono ?_); rintro e w45 ⟨rfl, hb⟩; have n0_ := Aside0.mk (IsS79.below (by repeat (first | (with_reducible first | exact HI1.out | apply IsS79.alloc | apply IsS79.drewN | apply IsS79.drew | apply IsS79.set_0 | apply IsS79.set_1) | exact HI1.out)) hb); have n1_ := Aside0.mk (KeepBut.trans (by repeat (first | (with_reducible first | exact HK.out | apply KeepBut.set_ | apply keep_drewN | apply keep_drew | apply keep_alloc) | exact HK.out)) (KeepBut.of_below hb w.heap.size none) (.inl rfl)); have n2_ := Aside0.mk (below_step (by repeat (first | (with_reducible first | exact HB.out | apply below_alloc | apply pw_below_drewN | apply below_drew1 | refine below_set ?_ (IsS79.ge HI1.out)) | exact HB.out)) hb); clear HI1; clear HK; clear HB; have HI1 := n0_; have HK := n1_; have HB := n2_; clear n0_ n1_ n2_; (try clear hb); (try clear hb2); (try clear hk); (try clear hi); obtain ⟨HGz46, hgz46⟩ := HI1.out; have hcz46_0 := cellS79_0 HGz46; have hcz46_1 := cellS79_1 HGz46; have hfz46_0 := blk_frozen HGz46 0; have hfz46_1 := blk_frozen HGz46 1; clear HGz46 hgz46))
                          repeat (go_quiet (first | (go_at_call 47; (with_reducible refine (single_reader_number.calls kj25 w.heap.size t225 t226 t233 t234 true t236 t237 w _ ?side1 ?side2 A40.out).mono ?_); (case side1 => repeat (first | (with_reducible first | exact HI1.out | apply IsS79.alloc | apply IsS79.drewN | apply IsS79.drew | apply IsS79.set_0 | apply IsS79.set_1) | exact HI1.out)); (case side2 => repeat (first | (with_reducible first | exact HB.out | apply below_alloc | apply pw_below_drewN | apply below_drew1 | refine below_set ?_ (IsS79.ge HI1.out)) | exact HB.out)); rintro e w44 ⟨rfl, hi, hb, hk⟩; have n0_ := Aside0.mk (KeepBut.trans (by repeat (first | (with_reducible first | exact HK.out | apply KeepBut.set_ | apply keep_drewN | apply keep_drew | apply keep_alloc) | exact HK.out)) hk (.inl rfl)); have n1_ := Aside0.mk (hb); have n2_ := Aside0.mk (hi); clear HK; clear HB; clear HI1; have HK := n0_; have HB := n1_; have HI1 := n2_; clear n0_ n1_ n2_; (try clear hb); (try clear hb2); (try clear hk); (try clear hi)) | (go_at_call 48; (with_reducible refine (single_nearest.calls kj25 t233 t234 t238 _ A42.out).mono ?_); rintro e w45 ⟨rfl, hb⟩; have n0_ := Aside0.mk (IsS79.below (by repeat (first | (with_reducible first | exact HI1.out | apply IsS79.alloc | apply IsS79.drewN | apply IsS79.drew | apply IsS79.set_0 | apply IsS79.set_1) | exact HI1.out)) hb); have n1_ := Aside0.mk (KeepBut.trans (by repeat (first | (with_reducible first | exact HK.out | apply KeepBut.set_ | apply keep_drewN | apply keep_drew | apply keep_alloc) | exact HK.out)) (KeepBut.of_below hb w.heap.size none) (.inl rfl)); have n2_ := Aside0.mk (below_step (by repeat (first | (with_reducible first | exact HB.out | apply below_alloc | apply pw_below_drewN | apply below_drew1 | refine below_set ?_ (IsS79.ge HI1.out)) | exact HB.out)) hb); clear HI1; clear HK; clear HB; have HI1 := n0_; have HK := n1_; have HB := n2_; clear n0_ n1_ n2_; (try clear hb); (try clear hb2); (try clear hk); (try clear hi); obtain ⟨HGz46, hgz46⟩ := HI1.out; have hcz46_0 := cellS79_0 HGz46; have hcz46_1 := cellS79_1 HGz46; have hfz46_0 := blk_frozen HGz46 0; have hfz46_1 := blk_frozen HGz46 1; clear HGz46 hgz46)); try go_wp2_with (first | (go_at_call 47; (with_reducible refine (single_reader_number.calls kj25 w.heap.size t225 t226 t233 t234 true t236 t237 w _ ?side1 ?side2 A40.out).mono ?_); (case side1 => repeat (first | (with_reducible first | exact HI1.out | apply IsS79.alloc | apply IsS79.drewN | apply IsS79.drew | apply IsS79.set_0 | apply IsS79.set_1) | exact HI1.out)); (case side2 => repeat (first | (with_reducible first | exact HB.out | apply below_alloc | apply pw_below_drewN | apply below_drew1 | refine below_set ?_ (IsS79.ge HI1.out)) | exact HB.out)); rintro e w44 ⟨rfl, hi, hb, hk⟩; have n0_ := Aside0.mk (KeepBut.trans (by repeat (first | (with_reducible first | exact HK.out | apply KeepBut.set_ | apply keep_drewN | apply keep_drew | apply keep_alloc) | exact HK.out)) hk (.inl rfl)); have n1_ := Aside0.mk (hb); have n2_ := Aside0.mk (hi); clear HK; clear HB; clear HI1; have HK := n0_; have HB := n1_; have HI1 := n2_; clear n0_ n1_ n2_; (try clear hb); (try clear hb2); (try clear hk); (try clear hi)) | (go_at_call 48; (with_reducible refine (single_nearest.calls kj25 t233 t234 t238 _ A42.out).mono ?_); rintro e w45 ⟨rfl, hb⟩; have n0_ := Aside0.mk (IsS79.below (by repeat (first | (with_reducible first | exact HI1.out | apply IsS79.alloc | apply IsS79.drewN | apply IsS79.drew | apply IsS79.set_0 | apply IsS79.set_1) | exact HI1.out)) hb); have n1_ := Aside0.mk (KeepBut.trans (by repeat (first | (with_reducible first | exact HK.out | apply KeepBut.set_ | apply keep_drewN | apply keep_drew | apply keep_alloc) | exact HK.out)) (KeepBut.of_below hb w.heap.size none) (.inl rfl)); have n2_ := Aside0.mk (below_step (by repeat (first | (with_reducible first | exact HB.out | apply below_alloc | apply pw_below_drewN | apply below_drew1 | refine below_set ?_ (IsS79.ge HI1.out)) | exact HB.out)) hb); clear HI1; clear HK; clear HB; have HI1 := n0_; have HK := n1_; have HB := n2_; clear n0_ n1_ n2_; (try clear hb); (try clear hb2); (try clear hk); (try clear hi); obtain ⟨HGz46, hgz46⟩ := HI1.out; have hcz46_0 := cellS79_0 HGz46; have hcz46_1 := cellS79_1 HGz46; have hfz46_0 := blk_frozen HGz46 0; have hfz46_1 := blk_frozen HGz46 1; clear HGz46 hgz46)))
                          go_ret3
                          exact ⟨by first | rfl | (simp [errW_none, errW_some] <;> rfl) | (simp [*, errW_none, errW_some] <;> rfl), by repeat (first | (with_reducible first | exact HB.out | apply below_alloc | apply pw_below_drewN | apply below_drew1 | refine below_set ?_ (IsS79.ge HI1.out)) | exact HB.out)⟩
                        · rw [if_neg c43] at H
                          have c43b0 : decide (t237 < (a0.size : Int)) = false := decide_eq_false c43
                          clear c43
                          simp only [Option.some.injEq, Prod.mk.injEq] at H
                          obtain ⟨rfl, rfl, rfl, rfl, rfl⟩ := H
                          go_wp2_with (first | (go_at_call 47; (with_reducible refine (single_reader_number.calls kj25 w.heap.size t225 t226 t233 t234 true t236 t237 w _ ?side1 ?side2 A40.out).mono ?_); (case side1 => repeat (first | (with_reducible first | exact HI1.out | apply IsS79.alloc | apply IsS79.drewN | apply IsS79.drew | apply IsS79.set_0 | apply IsS79.set_1) | exact HI1.out)); (case side2 => repeat (first | (with_reducible first | exact HB.out | apply below_alloc | apply pw_below_drewN | apply below_drew1 | refine below_set ?_ (IsS79.ge HI1.out)) | exact HB.out)); rintro e w47 ⟨rfl, hi, hb, hk⟩; have n0_ := Aside0.mk (KeepBut.trans (by repeat (first | (with_reducible first | exact HK.out | apply KeepBut.set_ | apply keep_drewN | apply keep_drew | apply keep_alloc) | exact HK.out)) hk (.inl rfl)); have n1_ := Aside0.mk (hb); have n2_ := Aside0.mk (hi); clear HK; clear HB; clear HI1; have HK := n0_; have HB := n1_; have HI1 := n2_; clear n0_ n1_ n2_; (try clear hb); (try clear hb2); (try clear hk); (try clear hi)) | (go_at_call 48; (with_reducible refine (single_nearest.calls kj25 t233 t234 t238 _ A42.out).mono ?_); rintro e w48 ⟨rfl, hb⟩; have n0_ := Aside0.mk (IsS79.below (by repeat (first | (with_reducible first | exact HI1.out | apply IsS79.alloc | apply IsS79.drewN | apply IsS79.drew | apply IsS79.set_0 | apply IsS79.set_1) | exact HI1.out)) hb); have n1_ := Aside0.mk (KeepBut.trans (by repeat (first | (with_reducible first | exact HK.out | apply KeepBut.set_ | apply keep_drewN | apply keep_drew | apply keep_alloc) | exact HK.out)) (KeepBut.of_below hb w.heap.size none) (.inl rfl)); have n2_ := Aside0.mk (below_step (by repeat (first | (with_reducible first | exact HB.out | apply below_alloc | apply pw_below_drewN | apply below_drew1 | refine below_set ?_ (IsS79.ge HI1.out)) | exact HB.out)) hb); clear HI1; clear HK; clear HB; have HI1 := n0_; have HK := n1_; have HB := n2_; clear n0_ n1_ n2_; (try clear hb); (try clear hb2); (try clear hk); (try clear hi); obtain ⟨HGz49, hgz49⟩ := HI1.out; have hcz49_0 := cellS79_0 HGz49; have hcz49_1 := cellS79_1 HGz49; have hfz49_0 := blk_frozen HGz49 0; have hfz49_1 := blk_frozen HGz49 1; clear HGz49 hgz49))
                          repeat (go_quiet (first | (go_at_call 47; (with_reducible refine (single_reader_number.calls kj25 w.heap.size t225 t226 t233 t234 true t236 t237 w _ ?side1 ?side2 A40.out).mono ?_); (case side1 => repeat (first | (with_reducible first | exact HI1.out | apply IsS79.alloc | apply IsS79.drewN | apply IsS79.drew | apply IsS79.set_0 | apply IsS79.set_1) | exact HI1.out)); (case side2 => repeat (first | (with_reducible first | exact HB.out | apply below_alloc | apply pw_below_drewN | apply below_drew1 | refine below_set ?_ (IsS79.ge HI1.out)) | exact HB.out)); rintro e w47 ⟨rfl, hi, hb, hk⟩; have n0_ := Aside0.mk (KeepBut.trans (by repeat (first | (with_reducible first | exact HK.out | apply KeepBut.set_ | apply keep_drewN | apply keep_drew | apply keep_alloc) | exact HK.out)) hk (.inl rfl)); have n1_ := Aside0.mk (hb); have n2_ := Aside0.mk (hi); clear HK; clear HB; clear HI1; have HK := n0_; have HB := n1_; have HI1 := n2_; clear n0_ n1_ n2_; (try clear hb); (try clear hb2); (try clear hk); (try clear hi)) | (go_at_call 48; (with_reducible refine (single_nearest.calls kj25 t233 t234 t238 _ A42.out).mono ?_); rintro e w48 ⟨rfl, hb⟩; have n0_ := Aside0.mk (IsS79.below (by repeat (first | (with_reducible first | exact HI1.out | apply IsS79.alloc | apply IsS79.drewN | apply IsS79.drew | apply IsS79.set_0 | apply IsS79.set_1) | exact HI1.out)) hb); have n1_ := Aside0.mk (KeepBut.trans (by repeat (first | (with_reducible first | exact HK.out | apply KeepBut.set_ | apply keep_drewN | apply keep_drew | apply keep_alloc) | exact HK.out)) (KeepBut.of_below hb w.heap.size none) (.inl rfl)); have n2_ := Aside0.mk (below_step (by repeat (first | (with_reducible first | exact HB.out | apply below_alloc | apply pw_below_drewN | apply below_drew1 | refine below_set ?_ (IsS79.ge HI1.out)) | exact HB.out)) hb); clear HI1; clear HK; clear HB; have HI1 := n0_; have HK := n1_; have HB := n2_; clear n0_ n1_ n2_; (try clear hb); (try clear hb2); (try clear hk); (try clear hi); obtain ⟨HGz49, hgz49⟩ := HI1.out; have hcz49_0 := cellS79_0 HGz49; have hcz49_1 := cellS79_1 HGz49; have hfz49_0 := blk_frozen HGz49 0; have hfz49_1 := blk_frozen HGz49 1; clear HGz49 hgz49)); try go_wp2_with (first | (go_at_call 47; (with_reducible refine (single_reader_number.calls kj25 w.heap.size t225 t226 t233 t234 true t236 t237 w _ ?side1 ?side2 A40.out).mono ?_); (case side1 => repeat (first | (with_reducible first | exact HI1.out | apply IsS79.alloc | apply IsS79.drewN | apply IsS79.drew | apply IsS79.set_0 | apply IsS79.set_1) | exact HI1.out)); (case side2 => repeat (first | (with_reducible first | exact HB.out | apply below_alloc | apply pw_below_drewN | apply below_drew1 | refine below_set ?_ (IsS79.ge HI1.out)) | exact HB.out)); rintro e w47 ⟨rfl, hi, hb, hk⟩; have n0_ := Aside0.mk (KeepBut.trans (by repeat (first | (with_reducible first | exact HK.out | apply KeepBut.set_ | apply keep_drewN | apply keep_drew | apply keep_alloc) | exact HK.out)) hk (.inl rfl)); have n1_ := Aside0.mk (hb); have n2_ := Aside0.mk (hi); clear HK; clear HB; clear HI1; have HK := n0_; have HB := n1_; have HI1 := n2_; clear n0_ n1_ n2_; (try clear hb); (try clear hb2); (try clear hk); (try clear hi)) | (go_at_call 48; (with_reducible refine (single_nearest.calls kj25 t233 t234 t238 _ A42.out).mono ?_); rintro e w48 ⟨rfl, hb⟩; have n0_ := Aside0.mk (IsS79.below (by repeat (first | (with_reducible first | exact HI1.out | apply IsS79.alloc | apply IsS79.drewN | apply IsS79.drew | apply IsS79.set_0 | apply IsS79.set_1) | exact HI1.out)) hb); have n1_ := Aside0.mk (KeepBut.trans (by repeat (first | (with_reducible first | exact HK.out | apply KeepBut.set_ | apply keep_drewN | apply keep_drew | apply keep_alloc) | exact HK.out)) (KeepBut.of_below hb w.heap.size none) (.inl rfl)); have n2_ := Aside0.mk (below_step (by repeat (first | (with_reducible first | exact HB.out | apply below_alloc | apply pw_below_drewN | apply below_drew1 | refine below_set ?_ (IsS79.ge HI1.out)) | exact HB.out)) hb); clear HI1; clear HK; clear HB; have HI1 := n0_; have HK := n1_; have HB := n2_; clear n0_ n1_ n2_; (try clear hb); (try clear hb2); (try clear hk); (try clear hi); obtain ⟨HGz49, hgz49⟩ := HI1.out; have hcz49_0 := cellS79_0 HGz49; have hcz49_1 := cellS79_1 HGz49; have hfz49_0 := blk_frozen HGz49 0; have hfz49_1 := blk_frozen HGz49 1; clear HGz49 hgz49)))
                          go_ret3
                          exact ⟨by first | rfl | (simp [errW_none, errW_some] <;> rfl) | (simp [*, errW_none, errW_some] <;> rfl), by repeat (first | (with_reducible first | exact HB.out | apply below_alloc | apply pw_below_drewN | apply below_drew1 | refine below_set ?_ (IsS79.ge HI1.out)) | exact HB.out)⟩
                      · replace c41 := Bool.eq_false_iff.mpr c41
                        subst c41
                        have H1 : (some (0, t237, 32, t236, t237)) = some (q1, q2, q3, r4, r5) := by rw [if_neg (show ¬ (false = true) by decide)] at H; exact H
                        clear H
                        have H := H1
                        clear H1
                        simp only [Option.some.injEq, Prod.mk.injEq] at H
                        obtain ⟨rfl, rfl, rfl, rfl, rfl⟩ := H
                        go_wp2_with (first | (go_at_call 47; (with_reducible refine (single_reader_number.calls kj25 w.heap.size t225 t226 t233 t234 false t236 t237 w _ ?side1 ?side2 A40.out).mono ?_); (case side1 => repeat (first | (with_reducible first | exact HI1.out | apply IsS79.alloc | apply IsS79.drewN | apply IsS79.drew | apply IsS79.set_0 | apply IsS79.set_1) | exact HI1.out)); (case side2 => repeat (first | (with_reducible first | exact HB.out | apply below_alloc | apply pw_below_drewN | apply below_drew1 | refine below_set ?_ (IsS79.ge HI1.out)) | exact HB.out)); rintro e w50 ⟨rfl, hi, hb, hk⟩; have n0_ := Aside0.mk (KeepBut.trans (by repeat (first | (with_reducible first | exact HK.out | apply KeepBut.set_ | apply keep_drewN | apply keep_drew | apply keep_alloc) | exact HK.out)) hk (.inl rfl)); have n1_ := Aside0.mk (hb); have n2_ := Aside0.mk (hi); clear HK; clear HB; clear HI1; have HK := n0_; have HB := n1_; have HI1 := n2_; clear n0_ n1_ n2_; (try clear hb); (try clear hb2); (try clear hk); (try clear hi); obtain ⟨HGz51, hgz51⟩ := HI1.out; have hcz51_0 := cellS79_0 HGz51; have hcz51_1 := cellS79_1 HGz51; have hfz51_0 := blk_frozen HGz51 0; have hfz51_1 := blk_frozen HGz51 1; clear HGz51 hgz51))
                        repeat (go_quiet (first | (go_at_call 47; (with_reducible refine (single_reader_number.calls kj25 w.heap.size t225 t226 t233 t234 false t236 t237 w _ ?side1 ?side2 A40.out).mono ?_); (case side1 => repeat (first | (with_reducible first | exact HI1.out | apply IsS79.alloc | apply IsS79.drewN | apply IsS79.drew | apply IsS79.set_0 | apply IsS79.set_1) | exact HI1.out)); (case side2 => repeat (first | (with_reducible first | exact HB.out | apply below_alloc | apply pw_below_drewN | apply below_drew1 | refine below_set ?_ (IsS79.ge HI1.out)) | exact HB.out)); rintro e w50 ⟨rfl, hi, hb, hk⟩; have n0_ := Aside0.mk (KeepBut.trans (by repeat (first | (with_reducible first | exact HK.out | apply KeepBut.set_ | apply keep_drewN | apply keep_drew | apply keep_alloc) | exact HK.out)) hk (.inl rfl)); have n1_ := Aside0.mk (hb); have n2_ := Aside0.mk (hi); clear HK; clear HB; clear HI1; have HK := n0_; have HB := n1_; have HI1 := n2_; clear n0_ n1_ n2_; (try clear hb); (try clear hb2); (try clear hk); (try clear hi); obtain ⟨HGz51, hgz51⟩ := HI1.out; have hcz51_0 := cellS79_0 HGz51; have hcz51_1 := cellS79_1 HGz51; have hfz51_0 := blk_frozen HGz51 0; have hfz51_1 := blk_frozen HGz51 1; clear HGz51 hgz51)); try go_wp2_with (first | (go_at_call 47; (with_reducible refine (single_reader_number.calls kj25 w.heap.size t225 t226 t233 t234 false t236 t237 w _ ?side1 ?side2 A40.out).mono ?_); (case side1 => repeat (first | (with_reducible first | exact HI1.out | apply IsS79.alloc | apply IsS79.drewN | apply IsS79.drew | apply IsS79.set_0 | apply IsS79.set_1) | exact HI1.out)); (case side2 => repeat (first | (with_reducible first | exact HB.out | apply below_alloc | apply pw_below_drewN | apply below_drew1 | refine below_set ?_ (IsS79.ge HI1.out)) | exact HB.out)); rintro e w50 ⟨rfl, hi, hb, hk⟩; have n0_ := Aside0.mk (KeepBut.trans (by repeat (first | (with_reducible first | exact HK.out | apply KeepBut.set_ | apply keep_drewN | apply keep_drew | apply keep_alloc) | exact HK.out)) hk (.inl rfl)); have n1_ := Aside0.mk (hb); have n2_ := Aside0.mk (hi); clear HK; clear HB; clear HI1; have HK := n0_; have HB := n1_; have HI1 := n2_; clear n0_ n1_ n2_; (try clear hb); (try clear hb2); (try clear hk); (try clear hi); obtain ⟨HGz51, hgz51⟩ := HI1.out; have hcz51_0 := cellS79_0 HGz51; have hcz51_1 := cellS79_1 HGz51; have hfz51_0 := blk_frozen HGz51 0; have hfz51_1 := blk_frozen HGz51 1; clear HGz51 hgz51)))
                        go_ret3
                        exact ⟨by first | rfl | (simp [errW_none, errW_some] <;> rfl) | (simp [*, errW_none, errW_some] <;> rfl), by repeat (first | (with_reducible first | exact HB.out | apply below_alloc | apply pw_below_drewN | apply below_drew1 | refine below_set ?_ (IsS79.ge HI1.out)) | exact HB.out)⟩
            · rw [if_neg c14] at H
              exact absurd H (by simp)
end Go.Proofs.YteecekhfpfnepaaDoor.PAll
end

section
namespace Go.Proofs.YteecekhfpfnepaaDoor.PAll
open Go.RowKit Go.Proofs.YteecekhfpfnepaaDoorW.PrintWords Go.Proofs.YteecekhfpfnepaaDoorW.PrintLast Go.Proofs.YteecekhfpfnepaaDoorW.PrintMore
attribute [local go_sem] max2_int min2_int max_two min_two max_three min_three max_four min_four   -- for this text's walks alone
set_option linter.unusedVariables false
set_option linter.unusedSimpArgs false
def heraldlaw03_SingleTexts.f (k : Nat) (a0 : Int) (a1 : ByteArray) : Option (Bool) := (single_Parse.f k a1).bind fun bt391 => ((heraldref03_Parse.f k a1).bind fun bt394 => ((heraldlaw03_awake.f k).bind fun t397 => (if t397 = true then ((single_Text.f k a0).bind fun t398 => ((heraldref03_Text.f k a0).bind fun t399 => (if t398.toList = t399.toList then (if bt391.1 = bt394.1 then (if bt391.2.1 = bt394.2.1 then (some (bt391.2.2 == bt394.2.2)) else (some false)) else (some false)) else (some false)))) else (some false))))
set_option maxHeartbeats 8000000 in
set_option maxRecDepth 100000 in
theorem heraldlaw03_SingleTexts.calls (k : Nat) (a0 : Int) (a1 : ByteArray) (r : Bool) (w : World) (h : heraldlaw03_SingleTexts.f k a0 a1 = some r) (hTab : Tab w) :
    Calls Tryd.prog 11 #[.int .u32 a0, .string a1] w fun e w' => e = .returned (.bool r) ∧ Below w.heap.size w w' := by
  have HTab := Aside0.mk hTab
  clear hTab
  have HB := Aside0.mk (Below.refl w.heap.size w)
  have H : ((single_Parse.f k a1).bind fun bt391 => ((heraldref03_Parse.f k a1).bind fun bt394 => ((heraldlaw03_awake.f k).bind fun t397 => (if t397 = true then ((single_Text.f k a0).bind fun t398 => ((heraldref03_Text.f k a0).bind fun t399 => (if t398.toList = t399.toList then (if bt391.1 = bt394.1 then (if bt391.2.1 = bt394.2.1 then (some (bt391.2.2 == bt394.2.2)) else (some false)) else (some false)) else (some false)))) else (some false))))) = some r := h
  clear h
  replace H := Option.bind_eq_some_iff.mp H
  obtain ⟨⟨t391, t392, t393⟩, A30, H⟩ := H
  replace H : ((heraldref03_Parse.f k a1).bind fun bt394 => ((heraldlaw03_awake.f k).bind fun t397 => (if t397 = true then ((single_Text.f k a0).bind fun t398 => ((heraldref03_Text.f k a0).bind fun t399 => (if t398.toList = t399.toList then (if t391 = bt394.1 then (if t392 = bt394.2.1 then (some (t393 == bt394.2.2)) else (some false)) else (some false)) else (some false)))) else (some false)))) = some r := H
  have A3 := Aside0.mk A30
  clear A30
  replace H := Option.bind_eq_some_iff.mp H
  obtain ⟨⟨t394, t395, t396⟩, A40, H⟩ := H
  replace H : ((heraldlaw03_awake.f k).bind fun t397 => (if t397 = true then ((single_Text.f k a0).bind fun t398 => ((heraldref03_Text.f k a0).bind fun t399 => (if t398.toList = t399.toList then (if t391 = t394 then (if t392 = t395 then (some (t393 == t396)) else (some false)) else (some false)) else (some false)))) else (some false))) = some r := H
  have A4 := Aside0.mk A40
  clear A40
  replace H := Option.bind_eq_some_iff.mp H
  obtain ⟨t397, A50, H⟩ := H
  replace H : (if t397 = true then ((single_Text.f k a0).bind fun t398 => ((heraldref03_Text.f k a0).bind fun t399 => (if t398.toList = t399.toList then (if t391 = t394 then (if t392 = t395 then (some (t393 == t396)) else (some false)) else (some false)) else (some false)))) else (some false)) = some r := H
  have A5 := Aside0.mk A50
  clear A50
  by_cases c6 : t397 = true
  · subst c6
    have H1 : ((single_Text.f k a0).bind fun t398 => ((heraldref03_Text.f k a0).bind fun t399 => (if t398.toList = t399.toList then (if t391 = t394 then (if t392 = t395 then (some (t393 == t396)) else (some false)) else (some false)) else (some false)))) = some r := by rw [if_pos rfl] at H; exact H
    clear H
    have H := H1
    clear H1
    replace H := Option.bind_eq_some_iff.mp H
    obtain ⟨t398, A70, H⟩ := H
    replace H : ((heraldref03_Text.f k a0).bind fun t399 => (if t398.toList = t399.toList then (if t391 = t394 then (if t392 = t395 then (some (t393 == t396)) else (some false)) else (some false)) else (some false))) = some r := H
    have A7 := Aside0.mk A70
    clear A70
    replace H := Option.bind_eq_some_iff.mp H
    obtain ⟨t399, A80, H⟩ := H
    replace H : (if t398.toList = t399.toList then (if t391 = t394 then (if t392 = t395 then (some (t393 == t396)) else (some false)) else (some false)) else (some false)) = some r := H
    have A8 := Aside0.mk A80
    clear A80
    by_cases c9 : t398.toList = t399.toList
    · rw [if_pos c9] at H
      have c9b0 : (t398.toList == t399.toList) = true := beq_iff_eq.mpr c9
      have c9b1 : (t398.toList != t399.toList) = false := bne_eq_false_iff_eq.mpr c9
      clear c9
      by_cases c10 : t391 = t394
      · rw [if_pos c10] at H
        have c10b0 : (t391 == t394) = true := beq_iff_eq.mpr c10
        have c10b1 : (t391 != t394) = false := bne_eq_false_iff_eq.mpr c10
        clear c10
        by_cases c11 : t392 = t395
        · rw [if_pos c11] at H
          have c11b0 : (t392 == t395) = true := beq_iff_eq.mpr c11
          have c11b1 : (t392 != t395) = false := bne_eq_false_iff_eq.mpr c11
          clear c11
          obtain rfl := Option.some.inj H
          go_enter Tryd.func11, Tryd.ntmps11
          go_wp2_with (first | ((with_reducible refine gate_callee (f := 32) rfl ?_); refine goesL_ (some 13) rfl rfl Tryd.func32 (by kernel_rfl) rfl #[.string a1] rfl (by (try simp only [List.map_toArray, List.map_cons, List.map_nil]); first | done | rfl | (simp only [List.length_drop, List.length_take]; rfl)) ?_; (with_reducible refine (single_Parse.calls k a1 t391 t392 t393 _ A3.out).mono ?_); rintro e w12 ⟨rfl, hb⟩; refine ⟨_, rfl, ?_⟩; have n0_ := Aside0.mk (below_step (by repeat (first | (with_reducible first | exact HB.out | apply below_alloc | apply pw_below_drewN | apply below_drew1) | exact HB.out)) hb); clear HB; have HB := n0_; clear n0_; (try clear hb); (try clear hb2); (try clear hk); (try clear hi)) | ((with_reducible refine gate_callee (f := 33) rfl ?_); refine goesL_ (some 19) rfl rfl Tryd.func33 (by kernel_rfl) rfl #[.string a1] rfl (by (try simp only [List.map_toArray, List.map_cons, List.map_nil]); first | done | rfl | (simp only [List.length_drop, List.length_take]; rfl)) ?_; (with_reducible refine (heraldref03_Parse.calls k a1 t394 t395 t396 _ A4.out).mono ?_); rintro e w13 ⟨rfl, hb⟩; refine ⟨_, rfl, ?_⟩; have n0_ := Aside0.mk (below_step (by repeat (first | (with_reducible first | exact HB.out | apply below_alloc | apply pw_below_drewN | apply below_drew1) | exact HB.out)) hb); clear HB; have HB := n0_; clear n0_; (try clear hb); (try clear hb2); (try clear hk); (try clear hi)) | ((with_reducible refine gate_callee (f := 15) rfl ?_); refine goesL_ (some 23) rfl rfl Tryd.func15 (by kernel_rfl) rfl #[] rfl (by (try simp only [List.map_toArray, List.map_cons, List.map_nil]); first | done | rfl | (simp only [List.length_drop, List.length_take]; rfl)) ?_; (with_reducible refine (heraldlaw03_awake.calls k  true _ A5.out).mono ?_); rintro e w14 ⟨rfl, hb⟩; refine ⟨_, rfl, ?_⟩; have n0_ := Aside0.mk (below_step (by repeat (first | (with_reducible first | exact HB.out | apply below_alloc | apply pw_below_drewN | apply below_drew1) | exact HB.out)) hb); clear HB; have HB := n0_; clear n0_; (try clear hb); (try clear hb2); (try clear hk); (try clear hi)) | (go_at_call 34; (with_reducible refine (single_Text.calls k a0 t398 _ A7.out (by first | exact HTab.out | exact tab_below HTab.out (by repeat (first | (with_reducible first | exact HB.out | apply below_alloc | apply pw_below_drewN | apply below_drew1) | exact HB.out)))).mono ?_); rintro e w15 ⟨rfl, hb⟩; have n0_ := Aside0.mk (below_step (by repeat (first | (with_reducible first | exact HB.out | apply below_alloc | apply pw_below_drewN | apply below_drew1) | exact HB.out)) hb); clear HB; have HB := n0_; clear n0_; (try clear hb); (try clear hb2); (try clear hk); (try clear hi)) | (go_at_call 35; (with_reducible refine (heraldref03_Text.calls k a0 t399 _ A8.out).mono ?_); rintro e w16 ⟨rfl, hb⟩; have n0_ := Aside0.mk (below_step (by repeat (first | (with_reducible first | exact HB.out | apply below_alloc | apply pw_below_drewN | apply below_drew1) | exact HB.out)) hb); clear HB; have HB := n0_; clear n0_; (try clear hb); (try clear hb2); (try clear hk); (try clear hi)))
          go_ret
          exact ⟨by first | rfl | (simp [errW_none, errW_some] <;> rfl) | (simp [*, errW_none, errW_some] <;> rfl), by repeat (first | (with_reducible first | exact HB.out | apply below_alloc | apply pw_below_drewN | apply below_drew1) | exact HB.out)⟩
        · rw [if_neg c11] at H
          have c11b0 : (t392 == t395) = false := beq_eq_false_iff_ne.mpr c11
          have c11b1 : (t392 != t395) = true := bne_iff_ne.mpr c11
          obtain rfl := Option.some.inj H
          go_enter Tryd.func11, Tryd.ntmps11
          go_wp2_with (first | ((with_reducible refine gate_callee (f := 32) rfl ?_); refine goesL_ (some 13) rfl rfl Tryd.func32 (by kernel_rfl) rfl #[.string a1] rfl (by (try simp only [List.map_toArray, List.map_cons, List.map_nil]); first | done | rfl | (simp only [List.length_drop, List.length_take]; rfl)) ?_; (with_reducible refine (single_Parse.calls k a1 t391 t392 t393 _ A3.out).mono ?_); rintro e w17 ⟨rfl, hb⟩; refine ⟨_, rfl, ?_⟩; have n0_ := Aside0.mk (below_step (by repeat (first | (with_reducible first | exact HB.out | apply below_alloc | apply pw_below_drewN | apply below_drew1) | exact HB.out)) hb); clear HB; have HB := n0_; clear n0_; (try clear hb); (try clear hb2); (try clear hk); (try clear hi)) | ((with_reducible refine gate_callee (f := 33) rfl ?_); refine goesL_ (some 19) rfl rfl Tryd.func33 (by kernel_rfl) rfl #[.string a1] rfl (by (try simp only [List.map_toArray, List.map_cons, List.map_nil]); first | done | rfl | (simp only [List.length_drop, List.length_take]; rfl)) ?_; (with_reducible refine (heraldref03_Parse.calls k a1 t394 t395 t396 _ A4.out).mono ?_); rintro e w18 ⟨rfl, hb⟩; refine ⟨_, rfl, ?_⟩; have n0_ := Aside0.mk (below_step (by repeat (first | (with_reducible first | exact HB.out | apply below_alloc | apply pw_below_drewN | apply below_drew1) | exact HB.out)) hb); clear HB; have HB := n0_; clear n0_; (try clear hb); (try clear hb2); (try clear hk); (try clear hi)) | ((with_reducible refine gate_callee (f := 15) rfl ?_); refine goesL_ (some 23) rfl rfl Tryd.func15 (by kernel_rfl) rfl #[] rfl (by (try simp only [List.map_toArray, List.map_cons, List.map_nil]); first | done | rfl | (simp only [List.length_drop, List.length_take]; rfl)) ?_; (with_reducible refine (heraldlaw03_awake.calls k  true _ A5.out).mono ?_); rintro e w19 ⟨rfl, hb⟩; refine ⟨_, rfl, ?_⟩; have n0_ := Aside0.mk (below_step (by repeat (first | (with_reducible first | exact HB.out | apply below_alloc | apply pw_below_drewN | apply below_drew1) | exact HB.out)) hb); clear HB; have HB := n0_; clear n0_; (try clear hb); (try clear hb2); (try clear hk); (try clear hi)) | (go_at_call 34; (with_reducible refine (single_Text.calls k a0 t398 _ A7.out (by first | exact HTab.out | exact tab_below HTab.out (by repeat (first | (with_reducible first | exact HB.out | apply below_alloc | apply pw_below_drewN | apply below_drew1) | exact HB.out)))).mono ?_); rintro e w20 ⟨rfl, hb⟩; have n0_ := Aside0.mk (below_step (by repeat (first | (with_reducible first | exact HB.out | apply below_alloc | apply pw_below_drewN | apply below_drew1) | exact HB.out)) hb); clear HB; have HB := n0_; clear n0_; (try clear hb); (try clear hb2); (try clear hk); (try clear hi)) | (go_at_call 35; (with_reducible refine (heraldref03_Text.calls k a0 t399 _ A8.out).mono ?_); rintro e w21 ⟨rfl, hb⟩; have n0_ := Aside0.mk (below_step (by repeat (first | (with_reducible first | exact HB.out | apply below_alloc | apply pw_below_drewN | apply below_drew1) | exact HB.out)) hb); clear HB; have HB := n0_; clear n0_; (try clear hb); (try clear hb2); (try clear hk); (try clear hi)))
          go_ret
          exact ⟨by first | rfl | (simp [errW_none, errW_some] <;> rfl) | (simp [*, errW_none, errW_some] <;> rfl), by repeat (first | (with_reducible first | exact HB.out | apply below_alloc | apply pw_below_drewN | apply below_drew1) | exact HB.out)⟩
      · rw [if_neg c10] at H
        have c10b0 : (t391 == t394) = false := beq_eq_false_iff_ne.mpr c10
        have c10b1 : (t391 != t394) = true := bne_iff_ne.mpr c10
        obtain rfl := Option.some.inj H
        go_enter Tryd.func11, Tryd.ntmps11
        go_wp2_with (first | ((with_reducible refine gate_callee (f := 32) rfl ?_); refine goesL_ (some 13) rfl rfl Tryd.func32 (by kernel_rfl) rfl #[.string a1] rfl (by (try simp only [List.map_toArray, List.map_cons, List.map_nil]); first | done | rfl | (simp only [List.length_drop, List.length_take]; rfl)) ?_; (with_reducible refine (single_Parse.calls k a1 t391 t392 t393 _ A3.out).mono ?_); rintro e w22 ⟨rfl, hb⟩; refine ⟨_, rfl, ?_⟩; have n0_ := Aside0.mk (below_step (by repeat (first | (with_reducible first | exact HB.out | apply below_alloc | apply pw_below_drewN | apply below_drew1) | exact HB.out)) hb); clear HB; have HB := n0_; clear n0_; (try clear hb); (try clear hb2); (try clear hk); (try clear hi)) | ((with_reducible refine gate_callee (f := 33) rfl ?_); refine goesL_ (some 19) rfl rfl Tryd.func33 (by kernel_rfl) rfl #[.string a1] rfl (by (try simp only [List.map_toArray, List.map_cons, List.map_nil]); first | done | rfl | (simp only [List.length_drop, List.length_take]; rfl)) ?_; (with_reducible refine (heraldref03_Parse.calls k a1 t394 t395 t396 _ A4.out).mono ?_); rintro e w23 ⟨rfl, hb⟩; refine ⟨_, rfl, ?_⟩; have n0_ := Aside0.mk (below_step (by repeat (first | (with_reducible first | exact HB.out | apply below_alloc | apply pw_below_drewN | apply below_drew1) | exact HB.out)) hb); clear HB; have HB := n0_; clear n0_; (try clear hb); (try clear hb2); (try clear hk); (try clear hi)) | ((with_reducible refine gate_callee (f := 15) rfl ?_); refine goesL_ (some 23) rfl rfl Tryd.func15 (by kernel_rfl) rfl #[] rfl (by (try simp only [List.map_toArray, List.map_cons, List.map_nil]); first | done | rfl | (simp only [List.length_drop, List.length_take]; rfl)) ?_; (with_reducible refine (heraldlaw03_awake.calls k  true _ A5.out).mono ?_); rintro e w24 ⟨rfl, hb⟩; refine ⟨_, rfl, ?_⟩; have n0_ := Aside0.mk (below_step (by repeat (first | (with_reducible first | exact HB.out | apply below_alloc | apply pw_below_drewN | apply below_drew1) | exact HB.out)) hb); clear HB; have HB := n0_; clear n0_; (try clear hb); (try clear hb2); (try clear hk); (try clear hi)) | (go_at_call 34; (with_reducible refine (single_Text.calls k a0 t398 _ A7.out (by first | exact HTab.out | exact tab_below HTab.out (by repeat (first | (with_reducible first | exact HB.out | apply below_alloc | apply pw_below_drewN | apply below_drew1) | exact HB.out)))).mono ?_); rintro e w25 ⟨rfl, hb⟩; have n0_ := Aside0.mk (below_step (by repeat (first | (with_reducible first | exact HB.out | apply below_alloc | apply pw_below_drewN | apply below_drew1) | exact HB.out)) hb); clear HB; have HB := n0_; clear n0_; (try clear hb); (try clear hb2); (try clear hk); (try clear hi)) | (go_at_call 35; (with_reducible refine (heraldref03_Text.calls k a0 t399 _ A8.out).mono ?_); rintro e w26 ⟨rfl, hb⟩; have n0_ := Aside0.mk (below_step (by repeat (first | (with_reducible first | exact HB.out | apply below_alloc | apply pw_below_drewN | apply below_drew1) | exact HB.out)) hb); clear HB; have HB := n0_; clear n0_; (try clear hb); (try clear hb2); (try clear hk); (try clear hi)))
        go_ret
        exact ⟨by first | rfl | (simp [errW_none, errW_some] <;> rfl) | (simp [*, errW_none, errW_some] <;> rfl), by repeat (first | (with_reducible first | exact HB.out | apply below_alloc | apply pw_below_drewN | apply below_drew1) | exact HB.out)⟩
    · rw [if_neg c9] at H
      have c9b0 : (t398.toList == t399.toList) = false := beq_eq_false_iff_ne.mpr c9
      have c9b1 : (t398.toList != t399.toList) = true := bne_iff_ne.mpr c9
      obtain rfl := Option.some.inj H
      go_enter Tryd.func11, Tryd.ntmps11
      go_wp2_with (first | ((with_reducible refine gate_callee (f := 32) rfl ?_); refine goesL_ (some 13) rfl rfl Tryd.func32 (by kernel_rfl) rfl #[.string a1] rfl (by (try simp only [List.map_toArray, List.map_cons, List.map_nil]); first | done | rfl | (simp only [List.length_drop, List.length_take]; rfl)) ?_; (with_reducible refine (single_Parse.calls k a1 t391 t392 t393 _ A3.out).mono ?_); rintro e w27 ⟨rfl, hb⟩; refine ⟨_, rfl, ?_⟩; have n0_ := Aside0.mk (below_step (by repeat (first | (with_reducible first | exact HB.out | apply below_alloc | apply pw_below_drewN | apply below_drew1) | exact HB.out)) hb); clear HB; have HB := n0_; clear n0_; (try clear hb); (try clear hb2); (try clear hk); (try clear hi)) | ((with_reducible refine gate_callee (f := 33) rfl ?_); refine goesL_ (some 19) rfl rfl Tryd.func33 (by kernel_rfl) rfl #[.string a1] rfl (by (try simp only [List.map_toArray, List.map_cons, List.map_nil]); first | done | rfl | (simp only [List.length_drop, List.length_take]; rfl)) ?_; (with_reducible refine (heraldref03_Parse.calls k a1 t394 t395 t396 _ A4.out).mono ?_); rintro e w28 ⟨rfl, hb⟩; refine ⟨_, rfl, ?_⟩; have n0_ := Aside0.mk (below_step (by repeat (first | (with_reducible first | exact HB.out | apply below_alloc | apply pw_below_drewN | apply below_drew1) | exact HB.out)) hb); clear HB; have HB := n0_; clear n0_; (try clear hb); (try clear hb2); (try clear hk); (try clear hi)) | ((with_reducible refine gate_callee (f := 15) rfl ?_); refine goesL_ (some 23) rfl rfl Tryd.func15 (by kernel_rfl) rfl #[] rfl (by (try simp only [List.map_toArray, List.map_cons, List.map_nil]); first | done | rfl | (simp only [List.length_drop, List.length_take]; rfl)) ?_; (with_reducible refine (heraldlaw03_awake.calls k  true _ A5.out).mono ?_); rintro e w29 ⟨rfl, hb⟩; refine ⟨_, rfl, ?_⟩; have n0_ := Aside0.mk (below_step (by repeat (first | (with_reducible first | exact HB.out | apply below_alloc | apply pw_below_drewN | apply below_drew1) | exact HB.out)) hb); clear HB; have HB := n0_; clear n0_; (try clear hb); (try clear hb2); (try clear hk); (try clear hi)) | (go_at_call 34; (with_reducible refine (single_Text.calls k a0 t398 _ A7.out (by first | exact HTab.out | exact tab_below HTab.out (by repeat (first | (with_reducible first | exact HB.out | apply below_alloc | apply pw_below_drewN | apply below_drew1) | exact HB.out)))).mono ?_); rintro e w30 ⟨rfl, hb⟩; have n0_ := Aside0.mk (below_step (by repeat (first | (with_reducible first | exact HB.out | apply below_alloc | apply pw_below_drewN | apply below_drew1) | exact HB.out)) hb); clear HB; have HB := n0_; clear n0_; (try clear hb); (try clear hb2); (try clear hk); (try clear hi)) | (go_at_call 35; (with_reducible refine (heraldref03_Text.calls k a0 t399 _ A8.out).mono ?_); rintro e w31 ⟨rfl, hb⟩; have n0_ := Aside0.mk (below_step (by repeat (first | (with_reducible first | exact HB.out | apply below_alloc | apply pw_below_drewN | apply below_drew1) | exact HB.out)) hb); clear HB; have HB := n0_; clear n0_; (try clear hb); (try clear hb2); (try clear hk); (try clear hi)))
      go_ret
      exact ⟨by first | rfl | (simp [errW_none, errW_some] <;> rfl) | (simp [*, errW_none, errW_some] <;> rfl), by repeat (first | (with_reducible first | exact HB.out | apply below_alloc | apply pw_below_drewN | apply below_drew1) | exact HB.out)⟩
  · replace c6 := Bool.eq_false_iff.mpr c6
    subst c6
    have H1 : (some false) = some r := by rw [if_neg (show ¬ (false = true) by decide)] at H; exact H
    clear H
    have H := H1
    clear H1
    obtain rfl := Option.some.inj H
    go_enter Tryd.func11, Tryd.ntmps11
    go_wp2_with (first | ((with_reducible refine gate_callee (f := 32) rfl ?_); refine goesL_ (some 13) rfl rfl Tryd.func32 (by kernel_rfl) rfl #[.string a1] rfl (by (try simp only [List.map_toArray, List.map_cons, List.map_nil]); first | done | rfl | (simp only [List.length_drop, List.length_take]; rfl)) ?_; (with_reducible refine (single_Parse.calls k a1 t391 t392 t393 _ A3.out).mono ?_); rintro e w32 ⟨rfl, hb⟩; refine ⟨_, rfl, ?_⟩; have n0_ := Aside0.mk (below_step (by repeat (first | (with_reducible first | exact HB.out | apply below_alloc | apply pw_below_drewN | apply below_drew1) | exact HB.out)) hb); clear HB; have HB := n0_; clear n0_; (try clear hb); (try clear hb2); (try clear hk); (try clear hi)) | ((with_reducible refine gate_callee (f := 33) rfl ?_); refine goesL_ (some 19) rfl rfl Tryd.func33 (by kernel_rfl) rfl #[.string a1] rfl (by (try simp only [List.map_toArray, List.map_cons, List.map_nil]); first | done | rfl | (simp only [List.length_drop, List.length_take]; rfl)) ?_; (with_reducible refine (heraldref03_Parse.calls k a1 t394 t395 t396 _ A4.out).mono ?_); rintro e w33 ⟨rfl, hb⟩; refine ⟨_, rfl, ?_⟩; have n0_ := Aside0.mk (below_step (by repeat (first | (with_reducible first | exact HB.out | apply below_alloc | apply pw_below_drewN | apply below_drew1) | exact HB.out)) hb); clear HB; have HB := n0_; clear n0_; (try clear hb); (try clear hb2); (try clear hk); (try clear hi)) | ((with_reducible refine gate_callee (f := 15) rfl ?_); refine goesL_ (some 23) rfl rfl Tryd.func15 (by kernel_rfl) rfl #[] rfl (by (try simp only [List.map_toArray, List.map_cons, List.map_nil]); first | done | rfl | (simp only [List.length_drop, List.length_take]; rfl)) ?_; (with_reducible refine (heraldlaw03_awake.calls k  false _ A5.out).mono ?_); rintro e w34 ⟨rfl, hb⟩; refine ⟨_, rfl, ?_⟩; have n0_ := Aside0.mk (below_step (by repeat (first | (with_reducible first | exact HB.out | apply below_alloc | apply pw_below_drewN | apply below_drew1) | exact HB.out)) hb); clear HB; have HB := n0_; clear n0_; (try clear hb); (try clear hb2); (try clear hk); (try clear hi)))
    go_ret
    exact ⟨by first | rfl | (simp [errW_none, errW_some] <;> rfl) | (simp [*, errW_none, errW_some] <;> rfl), by repeat (first | (with_reducible first | exact HB.out | apply below_alloc | apply pw_below_drewN | apply below_drew1) | exact HB.out)⟩
/-- THE ONE PURE STATEMENT of heraldlaw03_SingleTexts: yours. -/
def heraldlaw03_SingleTexts.Pure : Prop := ∀ (a0 : Int) (a1 : ByteArray), (Lit.int .u32 a0).wf = true → a1.size ≤ 140737488351232 → ∃ k, heraldlaw03_SingleTexts.f k a0 a1 = some true
end Go.Proofs.YteecekhfpfnepaaDoor.PAll
end

section
namespace Go.Proofs.YteecekhfpfnepaaDoor.Nums
set_option linter.unusedVariables false
set_option linter.unusedSimpArgs false
/-- What a row of digits comes to, the lowest first. -/
def vl (b : Int) : List Int → Int
  | [] => 0
  | x :: l => x + b * vl b l
/-- Each is a digit. -/
def Dg (b : Int) (l : List Int) : Prop := ∀ x ∈ l, 0 ≤ x ∧ x < b
theorem Dg.nil (b : Int) : Dg b [] := by simp [Dg]
theorem Dg.cons {b x : Int} {l : List Int} (h0 : 0 ≤ x) (h1 : x < b) (h : Dg b l) : Dg b (x :: l) := by
  intro y hy
  rcases List.mem_cons.mp hy with rfl | hy
  · exact ⟨h0, h1⟩
  · exact h y hy
theorem Dg.head {b x : Int} {l : List Int} (h : Dg b (x :: l)) : 0 ≤ x ∧ x < b := h x (by simp)
theorem Dg.tail {b x : Int} {l : List Int} (h : Dg b (x :: l)) : Dg b l := fun y hy => h y (by simp [hy])
theorem Dg.append {b : Int} {l m : List Int} (h : Dg b l) (g : Dg b m) : Dg b (l ++ m) := by
  intro y hy
  rcases List.mem_append.mp hy with hy | hy
  · exact h y hy
  · exact g y hy
theorem Dg.left {b : Int} {l m : List Int} (h : Dg b (l ++ m)) : Dg b l := fun y hy => h y (by simp [hy])
theorem Dg.right {b : Int} {l m : List Int} (h : Dg b (l ++ m)) : Dg b m := fun y hy => h y (by simp [hy])
theorem Dg.zeros {b : Int} (hb : 0 < b) (n : Nat) : Dg b (List.replicate n 0) := by
  intro y hy
  have := (List.mem_replicate.mp hy).2
  omega
theorem vl_append (b : Int) (a c : List Int) : vl b (a ++ c) = vl b a + b ^ a.length * vl b c := by
  induction a with
  | nil => simp [vl]
  | cons x a ih =>
    simp only [List.cons_append, vl, ih, List.length_cons, Int.pow_succ]
    grind
theorem vl_nonneg {b : Int} (hb : 0 ≤ b) {l : List Int} (h : Dg b l) : 0 ≤ vl b l := by
  induction l with
  | nil => simp [vl]
  | cons x l ih =>
    have := ih h.tail
    have h2 := h.head
    have := Int.mul_nonneg hb this
    simp only [vl]; omega
theorem pow_pos' {b : Int} (hb : 0 < b) (n : Nat) : 0 < b ^ n := by
  induction n with
  | zero => simp
  | succ n ih => rw [Int.pow_succ]; exact Int.mul_pos ih hb
theorem vl_lt {b : Int} (hb : 0 < b) {l : List Int} (h : Dg b l) : vl b l < b ^ l.length := by
  induction l with
  | nil => simp [vl]
  | cons x l ih =>
    have h1 := ih h.tail
    have h2 := h.head
    simp only [vl, List.length_cons, Int.pow_succ]
    have h3 : b * vl b l ≤ b * (b ^ l.length - 1) := Int.mul_le_mul_of_nonneg_left (by omega) (by omega)
    rw [Int.mul_sub, Int.mul_comm b (b ^ l.length)] at h3
    omega
/-- The digits of a number, none at the end 0. -/
def dgs (b n : Nat) : List Int := if h : 2 ≤ b ∧ n ≠ 0 then ((n % b : Nat) : Int) :: dgs b (n / b) else []
termination_by n
decreasing_by exact Nat.div_lt_self (by omega) (by omega)
theorem dgs_zero (b : Nat) : dgs b 0 = [] := by rw [dgs]; simp
theorem dgs_pos {b n : Nat} (hb : 2 ≤ b) (hn : n ≠ 0) : dgs b n = ((n % b : Nat) : Int) :: dgs b (n / b) := by rw [dgs]; simp [hb, hn]
theorem vl_dgs {b : Nat} (hb : 2 ≤ b) : ∀ n : Nat, vl b (dgs b n) = n := by
  intro n
  induction n using Nat.strongRecOn with
  | ind n ih =>
    by_cases h : n = 0
    · subst h; rw [dgs_zero]; rfl
    · rw [dgs_pos hb h, vl, ih (n / b) (Nat.div_lt_self (by omega) (by omega))]
      have := Nat.mod_add_div n b
      exact_mod_cast this
theorem dgs_dg {b : Nat} (hb : 2 ≤ b) : ∀ n : Nat, Dg b (dgs b n) := by
  intro n
  induction n using Nat.strongRecOn with
  | ind n ih =>
    by_cases h : n = 0
    · subst h; rw [dgs_zero]; exact Dg.nil _
    · rw [dgs_pos hb h]
      have := Nat.mod_lt n (show 0 < b by omega)
      exact Dg.cons (by omega) (by omega) (ih (n / b) (Nat.div_lt_self (by omega) (by omega)))
/-- No 0 at the end. -/
def Nz (l : List Int) : Prop := l.getLast? ≠ some 0
theorem Nz.cons {x y : Int} {l : List Int} (h : Nz (x :: y :: l)) : Nz (y :: l) := by
  unfold Nz at h ⊢; rwa [List.getLast?_cons_cons] at h
theorem vl_pos {b : Int} (hb : 0 < b) : ∀ {l : List Int}, Dg b l → Nz l → l ≠ [] → 0 < vl b l
  | [], _, _, h => absurd rfl h
  | [x], h, g, _ => by
    have := h.head
    simp only [Nz, List.getLast?_singleton] at g
    have : x ≠ 0 := fun e => g (by rw [e])
    simp [vl]; omega
  | x :: y :: l, h, g, _ => by
    have h1 := vl_pos hb h.tail g.cons (by simp)
    have h2 := h.head
    have := Int.mul_pos hb h1
    simp only [vl] at this ⊢; omega
theorem eq_dgs {b : Nat} (hb : 2 ≤ b) : ∀ {l : List Int}, Dg b l → Nz l → l = dgs b (vl b l).toNat
  | [], _, _ => by simp [vl, dgs_zero]
  | x :: l, h, g => by
    have hh := h.head
    have h0 := vl_nonneg (by omega) h.tail
    have hp := vl_pos (b := b) (by omega) h g (by simp)
    have gl : Nz l := by
      cases l with
      | nil => simp [Nz]
      | cons y l => exact g.cons
    have ih := eq_dgs hb h.tail gl
    obtain ⟨v, hv⟩ := Int.eq_ofNat_of_zero_le h0
    obtain ⟨a, ha⟩ := Int.eq_ofNat_of_zero_le hh.1
    have hab : a < b := by omega
    have e : (vl b (x :: l)).toNat = a + b * v := by
      simp only [vl, hv, ha]
      exact_mod_cast rfl
    rw [e]
    have hne : a + b * v ≠ 0 := by omega
    rw [dgs_pos hb hne, Nat.add_mul_mod_self_left, Nat.mod_eq_of_lt hab, Nat.add_mul_div_left _ _ (by omega), Nat.div_eq_of_lt hab, Nat.zero_add, ← ha]
    rw [hv] at ih
    rw [← show l = dgs b v from ih]
theorem vl_snoc_zero (b : Int) (l : List Int) : vl b (l ++ [0]) = vl b l := by rw [vl_append]; simp [vl]
theorem dgs_eq_nil {b n : Nat} (hb : 2 ≤ b) : dgs b n = [] ↔ n = 0 := by
  constructor
  · intro h
    have := vl_dgs hb n
    rw [h] at this
    simp only [vl] at this; omega
  · rintro rfl; exact dgs_zero b
theorem dgs_len_le {b n k : Nat} (hb : 2 ≤ b) : (dgs b n).length ≤ k ↔ n < b ^ k := by
  constructor
  · intro h
    have h1 := vl_lt (b := b) (by omega) (dgs_dg hb n)
    rw [vl_dgs hb] at h1
    have h2 : n < b ^ (dgs b n).length := by exact_mod_cast h1
    exact Nat.lt_of_lt_of_le h2 (Nat.pow_le_pow_right (by omega) h)
  · intro h
    induction k generalizing n with
    | zero =>
      have : n = 0 := by simpa using h
      subst this; rw [dgs_zero]; simp
    | succ k ih =>
      by_cases g : n = 0
      · subst g; rw [dgs_zero]; simp
      · rw [dgs_pos hb g, List.length_cons]
        have : n / b < b ^ k := by
          rw [Nat.div_lt_iff_lt_mul (by omega)]
          rwa [Nat.pow_succ] at h
        have := ih this
        omega
/-- How many binary digits. -/
def bl (n : Nat) : Nat := if n = 0 then 0 else n.log2 + 1
theorem bl_zero : bl 0 = 0 := rfl
theorem bl_le {n k : Nat} : bl n ≤ k ↔ n < 2 ^ k := by
  unfold bl
  by_cases h : n = 0
  · subst h; simp [Nat.pow_pos]
  · rw [if_neg h, ← Nat.log2_lt h]; omega
theorem lt_bl {n k : Nat} : k < bl n ↔ 2 ^ k ≤ n := by
  have := bl_le (n := n) (k := k)
  omega
theorem bl_mul_add {r t p : Nat} (hr : r < 2 ^ p) (ht : 0 < t) : bl (r + 2 ^ p * t) = p + bl t := by
  apply Nat.le_antisymm
  · rw [bl_le, Nat.pow_add]
    have h1 : t + 1 ≤ 2 ^ bl t := bl_le.mp (Nat.le_refl _)
    have := Nat.mul_le_mul_left (2 ^ p) h1
    rw [Nat.mul_add] at this
    omega
  · have hb : 0 < bl t := lt_bl.mpr (by rw [Nat.pow_zero]; omega)
    have : p + (bl t - 1) < bl (r + 2 ^ p * t) := by
      rw [lt_bl, Nat.pow_add]
      have h1 : 2 ^ (bl t - 1) ≤ t := lt_bl.mp (by omega)
      have := Nat.mul_le_mul_left (2 ^ p) h1
      omega
    omega
theorem bl_pos {n : Nat} : 0 < bl n ↔ n ≠ 0 := by rw [lt_bl]; simp; omega
theorem bl_mono {a b : Nat} (h : a ≤ b) : bl a ≤ bl b := by
  rw [bl_le]; exact Nat.lt_of_le_of_lt h (bl_le.mp (Nat.le_refl _))
/-- So many digits of a number. -/
def dn (b : Nat) : Nat → Nat → List Int
  | 0, _ => []
  | c + 1, v => ((v % b : Nat) : Int) :: dn b c (v / b)
theorem dn_succ (b c v : Nat) : dn b (c + 1) v = ((v % b : Nat) : Int) :: dn b c (v / b) := rfl
theorem dn_length (b : Nat) : ∀ c v, (dn b c v).length = c
  | 0, _ => rfl
  | c + 1, v => by simp [dn, dn_length b c]
theorem dn_dg {b : Nat} (hb : 0 < b) : ∀ c v, Dg b (dn b c v)
  | 0, _ => Dg.nil _
  | c + 1, v => by
    have := Nat.mod_lt v hb
    exact Dg.cons (by omega) (by omega) (dn_dg hb c _)
theorem vl_dn {b : Nat} (hb : 0 < b) : ∀ c v, v < b ^ c → vl b (dn b c v) = v
  | 0, v, h => by simp only [Nat.pow_zero] at h; simp [dn, vl]; omega
  | c + 1, v, h => by
    have h2 : v / b < b ^ c := by
      rw [Nat.div_lt_iff_lt_mul hb]
      rwa [Nat.pow_succ] at h
    rw [dn, vl, vl_dn hb c _ h2]
    exact_mod_cast Nat.mod_add_div v b
theorem dn_zero (b : Nat) : ∀ c, dn b c 0 = List.replicate c 0
  | 0 => rfl
  | c + 1 => by simp [dn, dn_zero b c, List.replicate_succ]
theorem dn_drop {b : Nat} : ∀ (i c v : Nat), (dn b c v).drop i = dn b (c - i) (v / b ^ i)
  | 0, c, v => by simp
  | i + 1, 0, v => by simp [dn]
  | i + 1, c + 1, v => by rw [dn, List.drop_succ_cons, dn_drop i c, Nat.div_div_eq_div_mul, ← Nat.pow_succ']; congr 1; omega
theorem dn_get {b : Nat} {i c v : Nat} (h : i < c) : (dn b c v)[i]'(by rw [dn_length]; exact h) = ((v / b ^ i % b : Nat) : Int) := by
  have h1 : i < (dn b c v).length := by rw [dn_length]; exact h
  have e := List.drop_eq_getElem_cons h1
  rw [dn_drop] at e
  obtain ⟨d, hd⟩ : ∃ d, c - i = d + 1 := ⟨c - i - 1, by omega⟩
  rw [hd, dn] at e
  exact (List.cons.inj e).1.symm
theorem dn_take {b : Nat} : ∀ (i c v : Nat), i ≤ c → (dn b c v).take i = dn b i v
  | 0, c, v, _ => by simp [dn]
  | i + 1, c + 1, v, h => by rw [dn, List.take_succ_cons, dn_take i c _ (by omega), dn]
theorem dgs_drop {b : Nat} (hb : 2 ≤ b) : ∀ (i n : Nat), (dgs b n).drop i = dgs b (n / b ^ i)
  | 0, n => by simp
  | i + 1, n => by
    by_cases h : n = 0
    · subst h; simp [dgs_zero]
    · rw [dgs_pos hb h, List.drop_succ_cons, dgs_drop hb i, Nat.div_div_eq_div_mul, ← Nat.pow_succ']
theorem dgs_get {b n i : Nat} (hb : 2 ≤ b) (h : i < (dgs b n).length) : (dgs b n)[i] = ((n / b ^ i % b : Nat) : Int) := by
  have e := List.drop_eq_getElem_cons h
  rw [dgs_drop hb] at e
  have hne : n / b ^ i ≠ 0 := by
    intro g
    rw [g, dgs_zero] at e
    cases e
  rw [dgs_pos hb hne] at e
  exact (List.cons.inj e).1.symm
theorem dgs_lt_len {b n i : Nat} (hb : 2 ≤ b) : i < (dgs b n).length ↔ n / b ^ i ≠ 0 := by
  have := dgs_len_le (n := n) (k := i) hb
  rw [Ne, Nat.div_eq_zero_iff]
  have hp : 0 < b ^ i := Nat.pow_pos (by omega)
  omega
theorem dgs_len_zero {b n : Nat} (hb : 2 ≤ b) : (dgs b n).length = 0 ↔ n = 0 := by
  rw [List.length_eq_zero_iff, dgs_eq_nil hb]
/-- One step of a difference with what is borrowed. -/
theorem sub_step {b M N c : Nat} (hb : 0 < b) (hc : c ≤ 1) (h : N + c ≤ M) :
    (if M % b < N % b + c then (M % b + b - N % b - c = (M - N - c) % b ∧ (M - N - c) / b = M / b - N / b - 1 ∧ N / b + 1 ≤ M / b)
      else (M % b - N % b - c = (M - N - c) % b ∧ (M - N - c) / b = M / b - N / b ∧ N / b ≤ M / b)) := by
  have hM := Nat.mod_add_div M b
  have hN := Nat.mod_add_div N b
  have lM := Nat.mod_lt M hb
  have lN := Nat.mod_lt N hb
  generalize M % b = x at *
  generalize N % b = y at *
  generalize M / b = X at *
  generalize N / b = Y at *
  subst hM hN
  split
  · rename_i g
    have hXY : Y + 1 ≤ X := by
      rcases Nat.lt_or_ge Y X with g2 | g2
      · exact g2
      · have := Nat.mul_le_mul_left b g2
        omega
    obtain ⟨Z, rfl⟩ : ∃ Z, X = Y + 1 + Z := ⟨X - Y - 1, by omega⟩
    have e : x + b * (Y + 1 + Z) - (y + b * Y) - c = (x + b - y - c) + b * Z := by
      rw [Nat.mul_add, Nat.mul_add]; omega
    rw [e, Nat.add_mul_mod_self_left, Nat.add_mul_div_left _ _ hb, Nat.mod_eq_of_lt (show x + b - y - c < b by omega), Nat.div_eq_of_lt (show x + b - y - c < b by omega)]
    omega
  · rename_i g
    have hXY : Y ≤ X := by
      rcases Nat.lt_or_ge X Y with g2 | g2
      · have := Nat.mul_le_mul_left b g2
        rw [Nat.mul_succ] at this
        omega
      · exact g2
    obtain ⟨Z, rfl⟩ : ∃ Z, X = Y + Z := ⟨X - Y, by omega⟩
    have e : x + b * (Y + Z) - (y + b * Y) - c = (x - y - c) + b * Z := by
      rw [Nat.mul_add]; omega
    rw [e, Nat.add_mul_mod_self_left, Nat.add_mul_div_left _ _ hb, Nat.mod_eq_of_lt (show x - y - c < b by omega), Nat.div_eq_of_lt (show x - y - c < b by omega)]
    omega
theorem dgs_len_pos {b n : Nat} (hb : 2 ≤ b) (hn : n ≠ 0) : 0 < (dgs b n).length := by
  have := dgs_len_zero (n := n) hb
  omega
theorem lt_pow_len {b n : Nat} (hb : 2 ≤ b) : n < b ^ (dgs b n).length := (dgs_len_le hb).mp (Nat.le_refl _)
/-- The top digit is what is left of the number there. -/
theorem top_get {b n : Nat} (hb : 2 ≤ b) (hn : n ≠ 0) : n / b ^ ((dgs b n).length - 1) % b = n / b ^ ((dgs b n).length - 1) ∧ n / b ^ ((dgs b n).length - 1) ≠ 0 := by
  have h0 := dgs_len_pos hb hn
  have h1 := lt_pow_len (n := n) hb
  obtain ⟨L, hL⟩ : ∃ L, (dgs b n).length = L + 1 := ⟨(dgs b n).length - 1, by omega⟩
  have h2 := (dgs_lt_len (n := n) (i := L) hb).mp (by omega)
  rw [hL] at h1 ⊢
  rw [Nat.add_sub_cancel]
  refine ⟨Nat.mod_eq_of_lt ?_, h2⟩
  rw [Nat.div_lt_iff_lt_mul (Nat.pow_pos (by omega)), ← Nat.pow_succ']
  exact h1
theorem bl_split {n w p : Nat} (h : n / 2 ^ p ≠ 0) : bl n = p + bl (n / 2 ^ p) := by
  have e := Nat.mod_add_div n (2 ^ p)
  have := bl_mul_add (r := n % 2 ^ p) (t := n / 2 ^ p) (p := p) (Nat.mod_lt _ (Nat.pow_pos (by omega))) (Nat.pos_of_ne_zero h)
  rwa [e] at this
theorem bl_dgs {w n : Nat} (hw : 1 ≤ w) (hn : n ≠ 0) : bl n = w * ((dgs (2 ^ w) n).length - 1) + bl (n / (2 ^ w) ^ ((dgs (2 ^ w) n).length - 1) % 2 ^ w) := by
  have hb : 2 ≤ 2 ^ w := by
    have := Nat.pow_le_pow_right (show 0 < 2 by omega) hw
    simpa using this
  obtain ⟨h1, h2⟩ := top_get hb hn
  rw [h1]
  rw [← Nat.pow_mul] at h2 ⊢
  exact bl_split (w := w) h2
theorem cmp_lt {b M N : Nat} (h : M / b = N / b) (h2 : M % b < N % b) : M < N := by
  have := Nat.mod_add_div M b
  have := Nat.mod_add_div N b
  rw [h] at *
  omega
theorem cmp_eq {b M N : Nat} (h : M / b = N / b) (h2 : M % b = N % b) : M = N := by
  have := Nat.mod_add_div M b
  have := Nat.mod_add_div N b
  rw [h, h2] at *
  omega
theorem lt_of_div {m n k : Nat} (h : m / k < n / k) : m < n := by
  rcases Nat.lt_or_ge m n with g | g
  · exact g
  · have := Nat.div_le_div_right (c := k) g
    omega
theorem dgs_split {b : Nat} (hb : 2 ≤ b) : ∀ (k n : Nat), n / b ^ k ≠ 0 → dgs b n = dn b k n ++ dgs b (n / b ^ k)
  | 0, n, _ => by simp [dn]
  | k + 1, n, h => by
    rw [Nat.pow_succ', ← Nat.div_div_eq_div_mul] at h ⊢
    have hn : n ≠ 0 := by rintro rfl; simp at h
    rw [dgs_pos hb hn, dgs_split hb k (n / b) h, dn, List.cons_append]
theorem dn_mod {b : Nat} (hb : 0 < b) : ∀ (k n : Nat), dn b k (n % b ^ k) = dn b k n
  | 0, _ => rfl
  | k + 1, n => by
    rw [dn, dn, Nat.pow_succ', Nat.mod_mul_right_mod, Nat.mod_mul_right_div_self, dn_mod hb k]
theorem dn_add {b : Nat} : ∀ (j k n : Nat), dn b (j + k) n = dn b j n ++ dn b k (n / b ^ j)
  | 0, k, n => by simp [dn]
  | j + 1, k, n => by
    rw [show j + 1 + k = (j + k) + 1 by omega, dn, dn_add j k, dn, List.cons_append, Nat.div_div_eq_div_mul, ← Nat.pow_succ']
/-- A bit or two rows of bits that do not meet. -/
theorem or_add {s a c : Nat} (h : c < 2 ^ s) : (2 ^ s * a) ||| c = 2 ^ s * a + c := (Nat.two_pow_add_eq_or_of_lt h a).symm
end Go.Proofs.YteecekhfpfnepaaDoor.Nums
end

section
namespace Go.Proofs.YteecekhfpfnepaaDoor.Tx
open Go.RowKit Go.Proofs.YteecekhfpfnepaaDoor.Nums Go.Proofs.YteecekhfpfnepaaDoorW.PrintWords Go.Proofs.YteecekhfpfnepaaDoorW.PrintLast Go.Proofs.YteecekhfpfnepaaDoorW.PrintMore
set_option linter.unusedVariables false
set_option linter.unusedSimpArgs false
theorem wrap_in {a : Int} (h0 : -9223372036854775808 ≤ a) (h1 : a ≤ 9223372036854775807) : wrap64 a = a := by unfold wrap64; omega
theorem u64_in {a : Int} (h0 : 0 ≤ a) (h1 : a < 18446744073709551616) : IntKind.u64.wrap a = a := by
  show a % 18446744073709551616 = a
  omega
/-- All are bytes. -/
def By (l : List Int) : Prop := ∀ x ∈ l, 0 ≤ x ∧ x < 256
theorem By.nil : By [] := by simp [By]
theorem By.app {a b : List Int} (h : By a) (g : By b) : By (a ++ b) := by
  intro x hx
  rcases List.mem_append.mp hx with hx | hx
  · exact h x hx
  · exact g x hx
theorem By.left {a b : List Int} (h : By (a ++ b)) : By a := fun x hx => h x (by simp [hx])
theorem By.right {a b : List Int} (h : By (a ++ b)) : By b := fun x hx => h x (by simp [hx])
theorem nums_append (a b : List Int) : strOfNums (a ++ b) = strOfNums a ++ strOfNums b := by
  apply ByteArray.ext
  simp [strOfNums]
theorem bytesOf_nums {l : List Int} (h : By l) : bytesOf (strOfNums l) = l := by
  unfold bytesOf strOfNums
  rw [List.toList_toArray, List.map_map]
  conv => rhs; rw [← List.map_id l]
  apply List.map_congr_left
  intro x hx
  have := h x hx
  have e : (UInt8.ofNat x.toNat).toNat = x.toNat % 256 := UInt8.toNat_ofNat'
  simp only [Function.comp_apply, id_eq, e]
  omega
theorem nums_bytesOf (s : ByteArray) : strOfNums (bytesOf s) = s := by
  apply ByteArray.ext
  apply Array.ext'
  unfold bytesOf strOfNums
  rw [List.toList_toArray, List.map_map]
  conv => rhs; rw [← List.map_id s.data.toList]
  apply List.map_congr_left
  intro x hx
  simp
theorem bytesOf_inj {s t : ByteArray} (h : bytesOf s = bytesOf t) : s = t := by rw [← nums_bytesOf s, h, nums_bytesOf]
theorem bytesOf_extract (s : ByteArray) (i j : Nat) : bytesOf (s.extract i j) = ((bytesOf s).take j).drop i := by
  unfold bytesOf
  rw [ByteArray.data_extract, Array.toList_extract, ← List.map_take, ← List.map_drop, List.extract_eq_take_drop, List.drop_take]
theorem bytesOf_nil (s : ByteArray) : s.toList = ([] : List UInt8) ↔ bytesOf s = [] := by
  rw [ByteArray.toList_eq]
  unfold bytesOf
  simp
theorem bt_get (s : ByteArray) (i : Nat) (h : i < (bytesOf s).length) : bt s (i : Int) = (bytesOf s)[i] := by
  rw [← rd_bytesOf]
  simp [rd, h]
theorem rd_at (l : List Int) (i : Nat) (h : i < l.length) : rd l (i : Int) = l[i] := by simp [rd, h]
theorem rd_out (l : List Int) (i : Nat) (h : l.length ≤ i) : rd l (i : Int) = 0 := by simp [rd, h]
theorem nums_size (l : List Int) : (strOfNums l).size = l.length := strOfNums_size l
theorem nums_bt {l : List Int} (h : By l) (i : Nat) (hi : i < l.length) : bt (strOfNums l) (i : Int) = l[i] := by
  rw [← rd_bytesOf, bytesOf_nums h, rd_at _ _ hi]
theorem nums_extract (l : List Int) (i j : Nat) (h : By l) : (strOfNums l).extract i j = strOfNums ((l.take j).drop i) := by
  apply bytesOf_inj
  rw [bytesOf_extract, bytesOf_nums h, bytesOf_nums]
  intro x hx
  exact h x (List.mem_of_mem_take (List.mem_of_mem_drop hx))
theorem dn_snoc (b : Nat) : ∀ (i v : Nat), dn b (i + 1) v = dn b i v ++ [((v / b ^ i % b : Nat) : Int)]
  | 0, v => by simp [dn]
  | i + 1, v => by
    rw [dn_succ, dn_snoc b i (v / b), Nat.div_div_eq_div_mul, ← Nat.pow_succ', dn_succ b i v, List.cons_append]
theorem dgs_split {b : Nat} (hb : 2 ≤ b) : ∀ (i X : Nat), i ≤ (dgs b X).length → dgs b X = dn b i X ++ dgs b (X / b ^ i)
  | 0, X, _ => by simp [dn]
  | i + 1, X, h => by
    have hX : X ≠ 0 := by
      intro e; subst e
      rw [dgs_zero] at h; simp at h
    rw [dgs_pos hb hX, List.length_cons] at h
    rw [dgs_pos hb hX, dgs_split hb i (X / b) (by omega), dn_succ, List.cons_append, Nat.div_div_eq_div_mul, ← Nat.pow_succ']
theorem mac {b q m c x : Nat} (hb : 0 < b) (h : x = q * m + c) : x % b = (q % b * m + c) % b ∧ x / b = (q / b) * m + (q % b * m + c) / b := by
  have hq := Nat.mod_add_div q b
  have e : x = (q % b * m + c) + b * (q / b * m) := by
    rw [h]
    conv => lhs; rw [← hq, Nat.add_mul, Nat.mul_assoc]
    omega
  rw [e, Nat.add_mul_mod_self_left, Nat.add_mul_div_left _ _ hb]
  exact ⟨rfl, by omega⟩
theorem dgs_len_mono {b x y : Nat} (hb : 2 ≤ b) (h : x ≤ y) : (dgs b x).length ≤ (dgs b y).length := by
  rw [dgs_len_le hb]
  exact Nat.lt_of_le_of_lt h (lt_pow_len hb)
theorem dgs_dn {b X L : Nat} (hb : 2 ≤ b) (h : X < b ^ L) : dn b L X = dgs b X ++ List.replicate (L - (dgs b X).length) 0 := by
  have hl : (dgs b X).length ≤ L := (dgs_len_le hb).mpr h
  obtain ⟨d, hd⟩ : ∃ d, L = (dgs b X).length + d := ⟨L - (dgs b X).length, by omega⟩
  generalize hn : (dgs b X).length = n at *
  have : ∀ (n X : Nat), (dgs b X).length = n → ∀ d, dn b (n + d) X = dgs b X ++ List.replicate d 0 := by
    intro n
    induction n with
    | zero =>
      intro X h d
      have := (dgs_len_zero hb).mp h
      subst this
      rw [dgs_zero, Nat.zero_add, dn_zero]; rfl
    | succ n ih =>
      intro X h d
      have hX : X ≠ 0 := by
        intro e; subst e
        rw [dgs_zero] at h; simp at h
      rw [dgs_pos hb hX, List.length_cons] at h
      rw [dgs_pos hb hX, show n + 1 + d = (n + d) + 1 by omega, dn_succ, ih (X / b) (by omega) d, List.cons_append]
  rw [hd, this n X hn d]
  congr 2
  omega
/-- A row of digits that comes to a number, be there zeros above or none. -/
def Rw (b : Nat) (l : List Int) (X : Nat) : Prop := (∀ i : Nat, rd l (i : Int) = ((X / b ^ i % b : Nat) : Int)) ∧ X < b ^ l.length
theorem Rw.dgs {b : Nat} (hb : 2 ≤ b) (X : Nat) : Rw b (dgs b X) X := by
  refine ⟨fun i => ?_, lt_pow_len hb⟩
  by_cases h : i < (Nums.dgs b X).length
  · rw [rd_at _ _ h, dgs_get hb h]
  · rw [rd_out _ _ (by omega)]
    have := (dgs_lt_len (n := X) (i := i) hb)
    have e : X / b ^ i = 0 := by
      apply Classical.byContradiction
      intro g; exact h (this.mpr g)
    rw [e]; rfl
theorem Rw.dn {b : Nat} (hb : 2 ≤ b) {L X : Nat} (h : X < b ^ L) : Rw b (dn b L X) X := by
  refine ⟨fun i => ?_, by rw [dn_length]; exact h⟩
  by_cases g : i < L
  · rw [rd_at _ _ (by rw [dn_length]; exact g), dn_get g]
  · rw [rd_out _ _ (by rw [dn_length]; omega)]
    have : X / b ^ i = 0 := Nat.div_eq_of_lt (Nat.lt_of_lt_of_le h (Nat.pow_le_pow_right (by omega) (by omega)))
    rw [this]; rfl
end Go.Proofs.YteecekhfpfnepaaDoor.Tx
end

section
namespace Go.Proofs.YteecekhfpfnepaaDoor.Tx
open Go.RowKit Go.Proofs.YteecekhfpfnepaaDoor.PAll Go.Proofs.YteecekhfpfnepaaDoor.Nums Go.Proofs.YteecekhfpfnepaaDoorW.PrintWords Go.Proofs.YteecekhfpfnepaaDoorW.PrintLast Go.Proofs.YteecekhfpfnepaaDoorW.PrintMore
set_option linter.unusedVariables false
set_option linter.unusedSimpArgs false
/-- The bytes of a number's decimal digits, none for 0. -/
def dcs (v : Nat) : List Int := ((dgs 10 v).reverse).map fun d => 48 + d
/-- All are digits. -/
def Dd (l : List Int) : Prop := ∀ x ∈ l, 48 ≤ x ∧ x ≤ 57
theorem Dd.by {l : List Int} (h : Dd l) : By l := fun x hx => by have := h x hx; omega
theorem Dd.nil : Dd [] := by simp [Dd]
theorem Dd.app {a b : List Int} (h : Dd a) (g : Dd b) : Dd (a ++ b) := by
  intro x hx
  rcases List.mem_append.mp hx with hx | hx
  · exact h x hx
  · exact g x hx
theorem Dd.left {a b : List Int} (h : Dd (a ++ b)) : Dd a := fun x hx => h x (by simp [hx])
theorem Dd.right {a b : List Int} (h : Dd (a ++ b)) : Dd b := fun x hx => h x (by simp [hx])
theorem dcs_zero : dcs 0 = [] := by unfold dcs; rw [dgs_zero]; rfl
theorem dcs_step (v d : Nat) (hd : d < 10) (h : v ≠ 0 ∨ d ≠ 0) : dcs (10 * v + d) = dcs v ++ [48 + (d : Int)] := by
  unfold dcs
  rw [dgs_pos (by omega) (by omega), show (10 * v + d) % 10 = d by omega, show (10 * v + d) / 10 = v by omega, List.reverse_cons, List.map_append]
  rfl
theorem dcs_length (v : Nat) : (dcs v).length = (dgs 10 v).length := by unfold dcs; simp
theorem dcs_dd (v : Nat) : Dd (dcs v) := by
  intro x hx
  unfold dcs at hx
  obtain ⟨d, hd, rfl⟩ := List.mem_map.mp hx
  have := dgs_dg (b := 10) (by omega) v d (List.mem_reverse.mp hd)
  omega
/-- The number that digits come to, from a number on. -/
def pv (v : Nat) (l : List Int) : Nat := l.foldl (fun v c => 10 * v + (c - 48).toNat) v
theorem pv_cons (v : Nat) (c : Int) (l : List Int) : pv v (c :: l) = pv (10 * v + (c - 48).toNat) l := rfl
theorem pv_nil (v : Nat) : pv v [] = v := rfl
theorem pv_append (v : Nat) (a b : List Int) : pv v (a ++ b) = pv (pv v a) b := by unfold pv; rw [List.foldl_append]
theorem dcs_pv : ∀ (l : List Int) (v : Nat), Dd l → v ≠ 0 → dcs v ++ l = dcs (pv v l)
  | [], v, _, _ => by simp [pv_nil]
  | c :: l, v, h, hv => by
    have hc := h c (by simp)
    have hl : Dd l := fun x hx => h x (by simp [hx])
    have ih := dcs_pv l (10 * v + (c - 48).toNat) hl (by omega)
    rw [dcs_step v (c - 48).toNat (by omega) (.inl hv), List.append_assoc] at ih
    rw [pv_cons, ← ih]
    congr 1
    have : 48 + (((c - 48).toNat : Nat) : Int) = c := by omega
    rw [this]; rfl
theorem trim_dcs : ∀ (l : List Int), Dd l → l.dropWhile (fun x => x == 48) = dcs (pv 0 l)
  | [], _ => by rw [pv_nil, dcs_zero]; rfl
  | c :: l, h => by
    have hc := h c (by simp)
    have hl : Dd l := fun x hx => h x (by simp [hx])
    by_cases g : c = 48
    · subst g
      rw [List.dropWhile_cons, if_pos (by decide), trim_dcs l hl]
      rfl
    · rw [List.dropWhile_cons, if_neg (by simpa using g), pv_cons]
      have := dcs_pv l (10 * 0 + (c - 48).toNat) hl (by omega)
      rw [← this, dcs_step 0 (c - 48).toNat (by omega) (by omega), dcs_zero]
      have e : 48 + (((c - 48).toNat : Nat) : Int) = c := by omega
      rw [e]; rfl
theorem pv_dcs (v : Nat) : pv 0 (dcs v) = v := by
  induction v using Nat.strongRecOn with
  | ind v ih =>
    by_cases h : v = 0
    · subst h; rw [dcs_zero]; rfl
    · have e : v = 10 * (v / 10) + v % 10 := by omega
      have hs := dcs_step (v / 10) (v % 10) (by omega) (by omega)
      rw [← e] at hs
      rw [hs, pv_append, ih (v / 10) (by omega), pv_cons, pv_nil]
      omega
theorem pv_lt : ∀ (l : List Int) (v : Nat), Dd l → pv v l < (v + 1) * 10 ^ l.length
  | [], v, _ => by simp [pv_nil]
  | c :: l, v, h => by
    have hc := h c (by simp)
    have hl : Dd l := fun x hx => h x (by simp [hx])
    have ih := pv_lt l (10 * v + (c - 48).toNat) hl
    rw [pv_cons, List.length_cons, Nat.pow_succ]
    have : (10 * v + (c - 48).toNat + 1) * 10 ^ l.length ≤ ((v + 1) * 10) * 10 ^ l.length := Nat.mul_le_mul_right _ (by omega)
    rw [Nat.mul_comm (10 ^ l.length) 10, ← Nat.mul_assoc]
    omega
theorem trimLeft_ev : ∀ (l : List Int), By l → l.length ≤ 1000000000000 → Ev (fun k => strings_trimLeftByte.f k (strOfNums l) 48) (strOfNums (l.dropWhile (fun x => x == 48)))
  | [], _, _ => by
    refine Ev.step (f := fun _ => some (strOfNums [])) (fun k => ?_) (Ev.now _)
    show strings_trimLeftByte.l0 (k + 1) _ _ = _
    rw [strings_trimLeftByte.l0, if_neg (by rw [nums_size]; simp)]
  | c :: l, h, hl => by
    have hh : By l := fun x hx => h x (by simp [hx])
    rw [List.length_cons] at hl
    have ih := trimLeft_ev l hh (by omega)
    have hs : (strOfNums (c :: l)).size = l.length + 1 := by rw [nums_size]; rfl
    have hb : bt (strOfNums (c :: l)) 0 = c := nums_bt h 0 (by simp)
    by_cases g : c = 48
    · subst g
      rw [List.dropWhile_cons, if_pos (by decide)]
      refine Ev.step (fun k => ?_) ih
      show strings_trimLeftByte.l0 (k + 1) _ _ = strings_trimLeftByte.l0 k _ _
      rw [strings_trimLeftByte.l0, if_pos (by omega), if_pos (by omega), if_pos hb, if_pos (by omega), nums_extract _ _ _ h]
      rw [List.take_of_length_le (by rw [hs]; simp)]
      rfl
    · rw [List.dropWhile_cons, if_neg (by simpa using g)]
      refine Ev.step (fun k => ?_) (Ev.now _)
      show strings_trimLeftByte.l0 (k + 1) _ _ = _
      rw [strings_trimLeftByte.l0, if_pos (by omega), if_pos (by omega), if_neg (by rw [hb]; exact g)]
theorem TrimLeft_ev (l : List Int) (h : By l) (hl : l.length ≤ 1000000000000) : Ev (fun k => strings_TrimLeft.f k (strOfNums l) (⟨#[48]⟩ : ByteArray)) (strOfNums (l.dropWhile (fun x => x == 48))) := by
  refine Ev.congr (fun k => ?_) (trimLeft_ev l h hl)
  unfold strings_TrimLeft.f
  rw [if_pos rfl]
theorem TrimRight_ev (a : List Int) (c : Int) (h : By (a ++ [c])) (hc : c ≠ 48) (hl : a.length ≤ 1000000000000) : Ev (fun k => strings_TrimRight.f k (strOfNums (a ++ [c])) (⟨#[48]⟩ : ByteArray)) (strOfNums (a ++ [c])) := by
  refine Ev.step (f := fun _ => some (strOfNums (a ++ [c]))) (fun k => ?_) (Ev.now _)
  have hs : (strOfNums (a ++ [c])).size = a.length + 1 := by rw [nums_size]; simp
  have hw : wrap64 (((strOfNums (a ++ [c])).size : Int) - 1) = (a.length : Int) := by rw [hs, wrap_in (by omega) (by omega)]; omega
  have hb : bt (strOfNums (a ++ [c])) (a.length : Int) = c := by rw [nums_bt h a.length (by simp)]; simp
  unfold strings_TrimRight.f
  rw [if_pos rfl]
  show strings_trimRightByte.l0 (k + 1) _ _ = _
  rw [strings_trimRightByte.l0, hw, if_pos (by omega), if_pos (by omega), if_pos (by omega), if_neg (by rw [hb]; exact hc)]
end Go.Proofs.YteecekhfpfnepaaDoor.Tx
end

section
namespace Go.Proofs.YteecekhfpfnepaaDoor.Tx
open Go.RowKit Go.Proofs.YteecekhfpfnepaaDoor.PAll Go.Proofs.YteecekhfpfnepaaDoor.Nums Go.Proofs.YteecekhfpfnepaaDoorW.PrintWords Go.Proofs.YteecekhfpfnepaaDoorW.PrintLast Go.Proofs.YteecekhfpfnepaaDoorW.PrintMore
set_option linter.unusedVariables false
set_option linter.unusedSimpArgs false
theorem rd_snoc (a : List Int) (x : Int) : rd (a ++ [x]) (a.length : Int) = x := by rw [rd_at _ _ (by simp)]; simp
theorem rd_dgs {b n : Nat} (hb : 2 ≤ b) (i : Nat) : rd (dgs b n) (i : Int) = ((n / b ^ i % b : Nat) : Int) := (Rw.dgs hb n).1 i
theorem or64 {s a c : Nat} (hc : c < 2 ^ s) (h : 2 ^ s * a + c < 18446744073709551616) : Go.bits .or .u64 ((2 ^ s * a : Nat) : Int) (c : Int) = ((2 ^ s * a + c : Nat) : Int) := by
  show IntKind.u64.wrap ((BitVec.ofInt 64 ((2 ^ s * a : Nat) : Int) ||| BitVec.ofInt 64 (c : Int)).toNat : Int) = _
  rw [BitVec.toNat_or, BitVec.ofInt_natCast, BitVec.ofInt_natCast, BitVec.toNat_ofNat, BitVec.toNat_ofNat, Nat.mod_eq_of_lt (by omega), Nat.mod_eq_of_lt (by omega), or_add hc]
  rw [u64_in (by omega) (by omega)]
theorem cut_ev : ∀ (n : Nat) (l : List Int) (v : Nat), l.length = n → n ≤ 9223372036854775807 → Dg (4294967296 : Nat) l → vl (4294967296 : Nat) l = v → Ev (fun k => single_wide_cut.f k l) (dgs 4294967296 v) := by
  intro n
  induction n with
  | zero =>
    intro l v hl hn hd hv
    obtain rfl : l = [] := List.length_eq_zero_iff.mp hl
    simp only [vl] at hv
    obtain rfl : v = 0 := by omega
    refine Ev.step (f := fun k => some (dgs 4294967296 0)) (fun k => ?_) (Ev.now _)
    show single_wide_cut.l0 (k + 1) [] = _
    rw [single_wide_cut.l0, if_neg (by simp)]
    simp [dgs_zero]
  | succ n ih =>
    intro l v hl hn hd hv
    rcases List.eq_nil_or_concat l with e | ⟨a, x, e⟩
    · subst e; simp at hl
    rw [List.concat_eq_append] at e
    subst e
    have hla : a.length = n := by simpa using hl
    have hw : wrap64 (((a ++ [x]).length : Int) - 1) = (a.length : Int) := by rw [List.length_append, List.length_singleton, wrap_in (by omega) (by omega)]; omega
    have hlen : ((a ++ [x]).length : Int) = (a.length : Int) + 1 := by simp
    by_cases hx : x = 0
    · subst hx
      refine Ev.step (f := fun k => single_wide_cut.f k a) (fun k => ?_) (ih a v hla (by omega) hd.left (by rwa [vl_snoc_zero] at hv))
      show single_wide_cut.l0 (k + 1) (a ++ [0]) = single_wide_cut.l0 k a
      rw [single_wide_cut.l0, hw, hlen, if_pos (by omega), if_pos (by omega), if_pos (by omega), rd_snoc, if_pos rfl, if_pos (by omega)]
      simp
    · have hz : Nz (a ++ [x]) := by
        unfold Nz; rw [List.getLast?_concat]; intro e; exact hx (Option.some.inj e)
      refine Ev.step (f := fun k => some (dgs 4294967296 v)) (fun k => ?_) (Ev.now _)
      show single_wide_cut.l0 (k + 1) (a ++ [x]) = _
      rw [single_wide_cut.l0, hw, hlen, if_pos (by omega), if_pos (by omega), if_pos (by omega), rd_snoc, if_neg hx]
      rw [eq_dgs (b := 4294967296) (by omega) hd hz, hv]
      simp
theorem long_some {n : Nat} (h : (dgs 4294967296 n).length ≤ 72057594037927936) : single_wide_long.f (dgs 4294967296 n) = some ((bl n : Nat) : Int) := by
  unfold single_wide_long.f
  by_cases hn : n = 0
  · subst hn; rw [if_pos (by simp [dgs_zero])]; rfl
  · have h0 := dgs_len_pos (b := 4294967296) (n := n) (by omega) hn
    have hw : wrap64 (((dgs 4294967296 n).length : Int) - 1) = (((dgs 4294967296 n).length - 1 : Nat) : Int) := by rw [wrap_in (by omega) (by omega)]; omega
    have hbl := bl_dgs (w := 32) (n := n) (by omega) hn
    rw [show (2 : Nat) ^ 32 = 4294967296 from rfl] at hbl
    have hlt := Nat.mod_lt (n / 4294967296 ^ ((dgs 4294967296 n).length - 1)) (show 0 < 4294967296 by omega)
    have hb32 : bl (n / 4294967296 ^ ((dgs 4294967296 n).length - 1) % 4294967296) ≤ 32 := bl_le.mpr (by rw [show (2 : Nat) ^ 32 = 4294967296 from rfl]; exact hlt)
    have hl : bits_Len32.f ((n / 4294967296 ^ ((dgs 4294967296 n).length - 1) % 4294967296 : Nat) : Int) = some ((bl (n / 4294967296 ^ ((dgs 4294967296 n).length - 1) % 4294967296) : Nat) : Int) := by
      unfold bits_Len32.f lenI bl
      rw [if_pos (by omega)]
      congr 1
      generalize n / 4294967296 ^ ((dgs 4294967296 n).length - 1) % 4294967296 = t
      by_cases ht : t = 0
      · subst ht; rfl
      · rw [if_neg (by omega), if_neg ht]
        simp
    obtain ⟨T, hT⟩ : ∃ T, n / 4294967296 ^ ((dgs 4294967296 n).length - 1) % 4294967296 = T := ⟨_, rfl⟩
    rw [hT] at hbl hlt hb32 hl
    rw [if_neg (by omega), hw, if_pos (by omega), if_pos (by omega), rd_dgs (by omega), hT, hl]
    simp only [Option.bind_some]
    have e1 : wrap64 ((((dgs 4294967296 n).length - 1 : Nat) : Int) * 32) = ((32 * ((dgs 4294967296 n).length - 1) : Nat) : Int) := by
      rw [wrap_in (by omega) (by omega)]; push_cast; omega
    rw [e1, wrap_in (by omega) (by omega), hbl]
    congr 1
theorem shl64 (p s : Nat) (hs : s < 32) (hp : p < 4294967296) : shl .u64 (p : Int) (s : Int) = ((p * 2 ^ s : Nat) : Int) ∧ p * 2 ^ s < 18446744073709551616 := by
  have h1 : 2 ^ s ≤ 2 ^ 31 := Nat.pow_le_pow_right (by omega) (by omega)
  have h2 : p * 2 ^ s ≤ 4294967295 * 2 ^ 31 := Nat.mul_le_mul (by omega) h1
  have h3 : (4294967295 : Nat) * 2 ^ 31 < 18446744073709551616 := by decide
  refine ⟨?_, by omega⟩
  unfold shl
  rw [Int.toNat_natCast, Nat.min_eq_left (show s ≤ IntKind.u64.bits by show s ≤ 64; omega)]
  have e : (p : Int) * 2 ^ s = ((p * 2 ^ s : Nat) : Int) := by rw [Int.natCast_mul, Int.natCast_pow]; rfl
  rw [e, u64_in (by omega) (by omega)]
theorem sub32_some (x y c : Nat) (hx : x < 4294967296) (hy : y < 4294967296) (hc : c ≤ 1) : bits_Sub32.f (x : Int) (y : Int) (c : Int) = some (((x : Int) - y - c) % 4294967296, if x < y + c then 1 else 0) := by
  unfold bits_Sub32.f
  rw [if_pos ⟨by omega, by omega, by omega, by omega, by omega, by omega⟩]
  by_cases g : x < y + c
  · rw [if_pos g, if_pos (by omega)]
  · rw [if_neg g, if_neg (by omega)]
theorem sub32_step (M N c : Nat) (hc : c ≤ 1) (h : N + c ≤ M) : ∃ c' : Nat, c' ≤ 1 ∧ bits_Sub32.f ((M % 4294967296 : Nat) : Int) ((N % 4294967296 : Nat) : Int) (c : Int) = some ((((M - N - c) % 4294967296 : Nat) : Int), (c' : Int)) ∧ (M - N - c) / 4294967296 = M / 4294967296 - N / 4294967296 - c' ∧ N / 4294967296 + c' ≤ M / 4294967296 := by
  have st := sub_step (b := 4294967296) (by omega) hc h
  have hs := sub32_some _ _ c (Nat.mod_lt M (show 0 < 4294967296 by omega)) (Nat.mod_lt N (show 0 < 4294967296 by omega)) hc
  have hM := Nat.mod_lt M (show 0 < 4294967296 by omega)
  have hN := Nat.mod_lt N (show 0 < 4294967296 by omega)
  by_cases g : M % 4294967296 < N % 4294967296 + c
  · rw [if_pos g] at st hs
    obtain ⟨s1, s2, s3⟩ := st
    refine ⟨1, by omega, ?_, s2, s3⟩
    rw [hs, ← s1]
    generalize M % 4294967296 = X at *
    generalize N % 4294967296 = Y at *
    rw [show ((X : Int) - Y - c) % 4294967296 = ((X + 4294967296 - Y - c : Nat) : Int) by omega]
    rfl
  · rw [if_neg g] at st hs
    obtain ⟨s1, s2, s3⟩ := st
    refine ⟨0, by omega, ?_, by rw [s2, Nat.sub_zero], s3⟩
    rw [hs, ← s1]
    generalize M % 4294967296 = X at *
    generalize N % 4294967296 = Y at *
    rw [show ((X : Int) - Y - c) % 4294967296 = ((X - Y - c : Nat) : Int) by omega]
    rfl
end Go.Proofs.YteecekhfpfnepaaDoor.Tx
end

section
namespace Go.Proofs.YteecekhfpfnepaaDoor.Tx
open Go.RowKit Go.Proofs.YteecekhfpfnepaaDoor.PAll Go.Proofs.YteecekhfpfnepaaDoor.Nums Go.Proofs.YteecekhfpfnepaaDoorW.PrintWords Go.Proofs.YteecekhfpfnepaaDoorW.PrintLast Go.Proofs.YteecekhfpfnepaaDoorW.PrintMore
set_option linter.unusedVariables false
set_option linter.unusedSimpArgs false
theorem next_k (i : Nat) (h : i < 1000000000000) : wrap64 ((i : Int) + 1) = ((i + 1 : Nat) : Int) := by rw [wrap_in (by omega) (by omega)]; rfl
/-- A row of digits so told, with what is carried behind it, without zeros at the end. -/
theorem cut_dn (L X : Nat) (hL : L ≤ 1000000000) (h : X < 4294967296 ^ L) : Ev (fun k => single_wide_cut.f k (dn 4294967296 L X)) (dgs 4294967296 X) :=
  cut_ev L _ X (dn_length _ _ _) (by omega) (dn_dg (by omega) _ _) (vl_dn (by omega) _ _ h)
theorem mul_small {p m c : Nat} (hp : p < 4294967296) (hm : m < 4294967296) (hc : c < 4294967296) : p * m + c < 18446744073709551616 := by
  have : p * m ≤ 4294967295 * 4294967295 := Nat.mul_le_mul (by omega) (by omega)
  omega
theorem times_step (p m c : Nat) (hp : p < 4294967296) (hm : m < 4294967296) (hc : c < 4294967296) :
    IntKind.u64.wrap ((IntKind.u64.wrap ((IntKind.u64.wrap (p : Int)) * (IntKind.u64.wrap (m : Int)))) + (c : Int)) = ((p * m + c : Nat) : Int) := by
  have h := mul_small hp hm hc
  have e : (p : Int) * (m : Int) = ((p * m : Nat) : Int) := by push_cast; rfl
  rw [u64_in (a := (p : Int)) (by omega) (by omega), u64_in (a := (m : Int)) (by omega) (by omega), e]
  generalize p * m = q at *
  rw [u64_in (a := (q : Int)) (by omega) (by omega), u64_in (by omega) (by omega)]
  omega
theorem timesAnd_loop (w m : Nat) (X : Nat) (hm : m < 4294967296) (hl : (dgs 4294967296 w).length ≤ 1000000) : ∀ (d i c : Nat), d = (dgs 4294967296 w).length - i → i ≤ (dgs 4294967296 w).length → c < 4294967296 → X / 4294967296 ^ i = (w / 4294967296 ^ i) * m + c →
    Ev (fun k => single_wide_timesAnd.l0 k (m : Int) (dn 4294967296 i X) (c : Int) (dgs 4294967296 w) ((dgs 4294967296 w).length : Int) (i : Int)) (dgs 4294967296 X) := by
  intro d
  induction d with
  | zero =>
    intro i c hd hi hc h
    obtain rfl : i = (dgs 4294967296 w).length := by omega
    have hw : w / 4294967296 ^ (dgs 4294967296 w).length = 0 := Nat.div_eq_of_lt (lt_pow_len (by omega))
    rw [hw, Nat.zero_mul, Nat.zero_add] at h
    have hX : X < 4294967296 ^ ((dgs 4294967296 w).length + 1) := by
      rw [Nat.pow_succ, Nat.mul_comm, ← Nat.div_lt_iff_lt_mul (Nat.pow_pos (by omega)), h]; exact hc
    have he : dn 4294967296 ((dgs 4294967296 w).length + 1) X = dn 4294967296 (dgs 4294967296 w).length X ++ [((c : Nat) : Int)] := by
      rw [dn_snoc, h, Nat.mod_eq_of_lt hc]
    have := cut_dn ((dgs 4294967296 w).length + 1) X (by omega) hX
    rw [he] at this
    have := this.bind (f := fun _ t => some t) (Ev.now _)
    refine Ev.step (fun k => ?_) this
    rw [single_wide_timesAnd.l0, if_neg (by omega), dn_length, if_pos (by omega), Int.emod_eq_of_lt (by omega) (by omega)]
  | succ d ih =>
    intro i c hd hi hc h
    have hp := Nat.mod_lt (w / 4294967296 ^ i) (show 0 < 4294967296 by omega)
    obtain ⟨h1, h2⟩ := mac (b := 4294967296) (by omega) h
    have hs := mul_small hp hm hc
    have hst := times_step _ _ _ hp hm hc
    rw [Nat.div_div_eq_div_mul, Nat.div_div_eq_div_mul, ← Nat.pow_succ] at h2
    obtain ⟨Y, hY⟩ : ∃ Y, w / 4294967296 ^ i % 4294967296 * m + c = Y := ⟨_, rfl⟩
    rw [hY] at h1 h2 hs hst
    refine Ev.step (fun k => ?_) (ih (i + 1) (Y / 4294967296) (by omega) (by omega) (by omega) h2)
    rw [single_wide_timesAnd.l0, if_pos (by omega), if_pos (by omega), if_pos (by omega), dn_length, if_pos (by omega), rd_dgs (by omega), hst, next_k i (by omega), dn_snoc, h1]
    rfl
theorem timesAnd_ev (w m c : Nat) (hm : m < 4294967296) (hc : c < 4294967296) (hl : (dgs 4294967296 w).length ≤ 1000000) : Ev (fun k => single_wide_timesAnd.f k (dgs 4294967296 w) (m : Int) (c : Int)) (dgs 4294967296 (w * m + c)) := by
  have := timesAnd_loop w m (w * m + c) hm hl (dgs 4294967296 w).length 0 c (by omega) (by omega) hc (by rw [Nat.pow_zero, Nat.div_one, Nat.div_one])
  refine Ev.congr (fun k => ?_) this
  unfold single_wide_timesAnd.f
  rw [u64_in (a := (c : Int)) (by omega) (by omega)]
  rfl
/-- One limb shifted, what was carried below it. -/
theorem up_limb (p s c : Nat) (hs : s < 32) (hp : p < 4294967296) (hc : c < 2 ^ s) : Go.bits .or .u64 (shl .u64 (IntKind.u64.wrap (p : Int)) (s : Int)) (c : Int) = ((p * 2 ^ s + c : Nat) : Int) ∧ (p * 2 ^ s + c) / 4294967296 < 2 ^ s := by
  obtain ⟨h1, h2⟩ := shl64 p s hs hp
  have hq : p * 2 ^ s + c < 4294967296 * 2 ^ s := by
    have := Nat.mul_le_mul_right (2 ^ s) (show p + 1 ≤ 4294967296 by omega)
    rw [Nat.add_mul, Nat.one_mul] at this
    omega
  have hb : (4294967296 : Nat) * 2 ^ s ≤ 4294967296 * 2 ^ 31 := Nat.mul_le_mul_left _ (Nat.pow_le_pow_right (by omega) (by omega))
  rw [show (4294967296 : Nat) * 2 ^ 31 = 9223372036854775808 from rfl] at hb
  rw [u64_in (a := (p : Int)) (by omega) (by omega), h1, Nat.mul_comm p, or64 hc (by rw [Nat.mul_comm]; omega)]
  exact ⟨rfl, by rw [Nat.mul_comm]; exact Nat.div_lt_of_lt_mul hq⟩
theorem zeros_dn (q i X : Nat) : List.replicate q (0 : Int) ++ dn 4294967296 i X = dn 4294967296 (q + i) (4294967296 ^ q * X) := by
  induction q with
  | zero => simp
  | succ q ih =>
    rw [show q + 1 + i = (q + i) + 1 by omega, dn_succ, List.replicate_succ, List.cons_append, ih, Nat.pow_succ', Nat.mul_assoc, Nat.mul_mod_right, Nat.mul_div_cancel_left _ (by omega)]
    rfl
theorem up_loop (w q s : Nat) (hs : s < 32) (hq : q ≤ 1000000) (hl : (dgs 4294967296 w).length ≤ 1000000) : ∀ (d i c : Nat), d = (dgs 4294967296 w).length - i → i ≤ (dgs 4294967296 w).length → c < 2 ^ s → (w * 2 ^ s) / 4294967296 ^ i = (w / 4294967296 ^ i) * 2 ^ s + c →
    Ev (fun k => single_wide_up.l0 k ((32 * q + s : Nat) : Int) (List.replicate q (0 : Int) ++ dn 4294967296 i (w * 2 ^ s)) (c : Int) (dgs 4294967296 w) ((dgs 4294967296 w).length : Int) (i : Int)) (dgs 4294967296 (w * 2 ^ (32 * q + s))) := by
  have hsp : (2 : Nat) ^ s ≤ 2 ^ 31 := Nat.pow_le_pow_right (by omega) (by omega)
  rw [show (2 : Nat) ^ 31 = 2147483648 from rfl] at hsp
  intro d
  induction d with
  | zero =>
    intro i c hd hi hc h
    obtain rfl : i = (dgs 4294967296 w).length := by omega
    have hw : w / 4294967296 ^ (dgs 4294967296 w).length = 0 := Nat.div_eq_of_lt (lt_pow_len (by omega))
    rw [hw, Nat.zero_mul, Nat.zero_add] at h
    have hX : w * 2 ^ s < 4294967296 ^ ((dgs 4294967296 w).length + 1) := by
      rw [Nat.pow_succ, Nat.mul_comm (4294967296 ^ _), ← Nat.div_lt_iff_lt_mul (Nat.pow_pos (by omega)), h]; omega
    have he : dn 4294967296 ((dgs 4294967296 w).length + 1) (w * 2 ^ s) = dn 4294967296 (dgs 4294967296 w).length (w * 2 ^ s) ++ [((c : Nat) : Int)] := by
      rw [dn_snoc, h, Nat.mod_eq_of_lt (show c < 4294967296 by omega)]
    have hX2 : 4294967296 ^ q * (w * 2 ^ s) < 4294967296 ^ (q + ((dgs 4294967296 w).length + 1)) := by
      rw [Nat.pow_add]; exact Nat.mul_lt_mul_of_pos_left hX (Nat.pow_pos (by omega))
    have := cut_dn (q + ((dgs 4294967296 w).length + 1)) (4294967296 ^ q * (w * 2 ^ s)) (by omega) hX2
    rw [← zeros_dn, he, ← List.append_assoc, show 4294967296 ^ q * (w * 2 ^ s) = w * 2 ^ (32 * q + s) by rw [Nat.pow_add, Nat.pow_mul, show (2 : Nat) ^ 32 = 4294967296 from rfl, Nat.mul_left_comm]] at this
    have := this.bind (f := fun _ t => some t) (Ev.now _)
    refine Ev.step (fun k => ?_) this
    rw [single_wide_up.l0, if_neg (by omega), if_pos (by rw [List.length_append, List.length_replicate, dn_length]; omega), Int.emod_eq_of_lt (by omega) (by omega)]
  | succ d ih =>
    intro i c hd hi hc h
    have hp := Nat.mod_lt (w / 4294967296 ^ i) (show 0 < 4294967296 by omega)
    obtain ⟨h1, h2⟩ := mac (b := 4294967296) (by omega) h
    obtain ⟨u1, u2⟩ := up_limb _ s c hs hp hc
    rw [Nat.div_div_eq_div_mul, Nat.div_div_eq_div_mul, ← Nat.pow_succ] at h2
    obtain ⟨Y, hY⟩ : ∃ Y, w / 4294967296 ^ i % 4294967296 * 2 ^ s + c = Y := ⟨_, rfl⟩
    rw [hY] at h1 h2 u1 u2
    have e0 : Int.tmod ((32 * q + s : Nat) : Int) 32 = (s : Int) := by
      rw [show (32 : Int) = ((32 : Nat) : Int) from rfl, ← Int.ofNat_tmod]; omega
    refine Ev.step (fun k => ?_) (ih (i + 1) (Y / 4294967296) (by omega) (by omega) u2 h2)
    rw [single_wide_up.l0, if_pos (by omega), if_pos (by omega), if_pos (by omega), e0, if_pos (by omega), if_pos (by rw [List.length_append, List.length_replicate, dn_length]; omega), rd_dgs (by omega), u1, next_k i (by omega), dn_snoc, h1, ← List.append_assoc]
    rfl
theorem up_ev (w b : Nat) (hb : b ≤ 1000000) (hl : (dgs 4294967296 w).length ≤ 1000000) : Ev (fun k => single_wide_up.f k (dgs 4294967296 w) (b : Int)) (dgs 4294967296 (w * 2 ^ b)) := by
  have := up_loop w (b / 32) (b % 32) (Nat.mod_lt _ (by omega)) (by omega) hl (dgs 4294967296 w).length 0 0 (by omega) (by omega) (Nat.pow_pos (by omega)) (by rw [Nat.pow_zero, Nat.div_one, Nat.div_one, Nat.add_zero])
  rw [Nat.div_add_mod] at this
  refine Ev.congr (fun k => ?_) this
  have e1 : wrap64 (Int.tdiv (b : Int) 32) = ((b / 32 : Nat) : Int) := by
    rw [show (32 : Int) = ((32 : Nat) : Int) from rfl, ← Int.ofNat_tdiv, wrap_in (by omega) (by omega)]
  unfold single_wide_up.f
  rw [e1, if_pos (by omega), if_pos (by omega), Int.toNat_natCast]
  simp [dn]
theorem less_loop (x y L : Nat) (hx : (dgs 4294967296 x).length = L) (hy : (dgs 4294967296 y).length = L) (hl : L ≤ 1000000) : ∀ (i : Nat), i ≤ L → x / 4294967296 ^ i = y / 4294967296 ^ i →
    Ev (fun k => single_wide_less.l0 k (dgs 4294967296 x) (dgs 4294967296 y) ((i : Int) - 1)) (decide (x < y)) := by
  intro i
  induction i with
  | zero =>
    intro hi h
    rw [Nat.pow_zero, Nat.div_one, Nat.div_one] at h
    subst h
    refine Ev.step (fun k => ?_) (Ev.now _)
    rw [single_wide_less.l0, if_neg (by omega), decide_eq_false (by omega)]
  | succ i ih =>
    intro hi h
    rw [Nat.pow_succ, ← Nat.div_div_eq_div_mul, ← Nat.div_div_eq_div_mul] at h
    have e0 : ((i + 1 : Nat) : Int) - 1 = (i : Int) := by omega
    have e1 : wrap64 ((i : Int) - 1) = (i : Int) - 1 := wrap_in (by omega) (by omega)
    rw [e0]
    by_cases g : x / 4294967296 ^ i % 4294967296 = y / 4294967296 ^ i % 4294967296
    · have hi2 := ih (by omega) (cmp_eq h g)
      refine Ev.step (fun k => ?_) hi2
      rw [single_wide_less.l0, if_pos (by omega), if_pos (by omega), if_pos (by omega), if_pos (by omega), rd_dgs (by omega), rd_dgs (by omega), if_pos (by omega), e1]
    · refine Ev.step (fun k => ?_) (Ev.now _)
      rw [single_wide_less.l0, if_pos (by omega), if_pos (by omega), if_pos (by omega), if_pos (by omega), rd_dgs (by omega), rd_dgs (by omega), if_neg (by omega)]
      congr 1
      rcases Nat.lt_or_ge (x / 4294967296 ^ i % 4294967296) (y / 4294967296 ^ i % 4294967296) with c | c
      · have := lt_of_div (cmp_lt h c)
        rw [decide_eq_true this, decide_eq_true (by omega)]
      · have := lt_of_div (cmp_lt h.symm (show y / 4294967296 ^ i % 4294967296 < x / 4294967296 ^ i % 4294967296 by omega))
        rw [decide_eq_false (by omega), decide_eq_false (by omega)]
theorem less_ev (x y : Nat) (hx : (dgs 4294967296 x).length ≤ 1000000) (hy : (dgs 4294967296 y).length ≤ 1000000) : Ev (fun k => single_wide_less.f k (dgs 4294967296 x) (dgs 4294967296 y)) (decide (x < y)) := by
  by_cases g : (dgs 4294967296 x).length = (dgs 4294967296 y).length
  · have := less_loop x y (dgs 4294967296 x).length rfl g.symm hx (dgs 4294967296 x).length (by omega) (by rw [Nat.div_eq_of_lt (lt_pow_len (by omega)), Nat.div_eq_of_lt (by rw [g]; exact lt_pow_len (by omega))])
    refine Ev.congr (fun k => ?_) this
    unfold single_wide_less.f
    rw [if_pos (by omega), wrap_in (by omega) (by omega)]
  · refine Ev.congr (fun k => ?_) (Ev.now _)
    unfold single_wide_less.f
    rw [if_neg (by omega)]
    congr 1
    have m1 := dgs_len_mono (b := 4294967296) (x := x) (y := y) (by omega)
    have m2 := dgs_len_mono (b := 4294967296) (x := y) (y := x) (by omega)
    by_cases c : (dgs 4294967296 x).length < (dgs 4294967296 y).length
    · rw [decide_eq_true (by omega), decide_eq_true]
      apply Classical.byContradiction
      intro hn
      have := m2 (by omega)
      omega
    · rw [decide_eq_false (by omega), decide_eq_false]
      intro hn
      have := m1 (by omega)
      omega
theorem minus_loop (x y : Nat) (hxy : y ≤ x) (hl : (dgs 4294967296 x).length ≤ 1000000) : ∀ (d i c : Nat), d = (dgs 4294967296 x).length - i → i ≤ (dgs 4294967296 x).length → c ≤ 1 → y / 4294967296 ^ i + c ≤ x / 4294967296 ^ i → (x - y) / 4294967296 ^ i = x / 4294967296 ^ i - y / 4294967296 ^ i - c →
    Ev (fun k => single_wide_minus.l0 k (dgs 4294967296 y) (dn 4294967296 i (x - y)) (c : Int) (dgs 4294967296 x) ((dgs 4294967296 x).length : Int) (i : Int)) (dgs 4294967296 (x - y)) := by
  intro d
  induction d with
  | zero =>
    intro i c hd hi hc h1 h2
    obtain rfl : i = (dgs 4294967296 x).length := by omega
    have hX : x - y < 4294967296 ^ (dgs 4294967296 x).length := Nat.lt_of_le_of_lt (Nat.sub_le _ _) (lt_pow_len (by omega))
    have := (cut_dn (dgs 4294967296 x).length (x - y) (by omega) hX).bind (f := fun _ t => some t) (Ev.now _)
    refine Ev.step (fun k => ?_) this
    rw [single_wide_minus.l0, if_neg (by omega)]
  | succ d ih =>
    intro i c hd hi hc h1 h2
    obtain ⟨c', hc', hs, e1, e2⟩ := sub32_step (x / 4294967296 ^ i) (y / 4294967296 ^ i) c hc h1
    rw [← h2] at hs e1
    rw [Nat.div_div_eq_div_mul, Nat.div_div_eq_div_mul, Nat.div_div_eq_div_mul, ← Nat.pow_succ] at e1
    rw [Nat.div_div_eq_div_mul, Nat.div_div_eq_div_mul, ← Nat.pow_succ] at e2
    have hi2 := ih (i + 1) c' (by omega) (by omega) hc' e2 e1
    rw [dn_snoc] at hi2
    refine Ev.step (fun k => ?_) hi2
    rw [single_wide_minus.l0, if_pos (by omega), if_pos (by omega), if_pos (by omega), next_k i (by omega), rd_dgs (by omega), dn_length]
    by_cases g : i < (dgs 4294967296 y).length
    · rw [if_pos (by omega), rd_dgs (by omega), hs, Option.bind_some, if_pos (by omega)]
    · have hz : y / 4294967296 ^ i = 0 := by
        have := dgs_lt_len (b := 4294967296) (n := y) (i := i) (by omega)
        apply Classical.byContradiction
        intro hn; exact g (this.mpr hn)
      rw [hz] at hs
      rw [if_neg (by omega)]
      rw [show ((0 % 4294967296 : Nat) : Int) = 0 from rfl] at hs
      rw [hs, Option.bind_some, if_pos (by omega)]
theorem minus_ev (x y : Nat) (hxy : y ≤ x) (hl : (dgs 4294967296 x).length ≤ 1000000) : Ev (fun k => single_wide_minus.f k (dgs 4294967296 x) (dgs 4294967296 y)) (dgs 4294967296 (x - y)) := by
  have := minus_loop x y hxy hl (dgs 4294967296 x).length 0 0 (by omega) (by omega) (by omega) (by rw [Nat.pow_zero, Nat.div_one, Nat.div_one]; omega) (by rw [Nat.pow_zero, Nat.div_one, Nat.div_one, Nat.div_one]; omega)
  exact this
end Go.Proofs.YteecekhfpfnepaaDoor.Tx
end

section
namespace Go.Proofs.YteecekhfpfnepaaDoor.Tx
open Go.RowKit Go.Proofs.YteecekhfpfnepaaDoor.PAll Go.Proofs.YteecekhfpfnepaaDoor.Nums Go.Proofs.YteecekhfpfnepaaDoorW.PrintWords Go.Proofs.YteecekhfpfnepaaDoorW.PrintLast Go.Proofs.YteecekhfpfnepaaDoorW.PrintMore
set_option linter.unusedVariables false
set_option linter.unusedSimpArgs false
/-- A digit stands there. -/
def isD (s : ByteArray) (i : Nat) : Prop := i < s.size ∧ 48 ≤ bt s (i : Int) ∧ bt s (i : Int) ≤ 57
instance (s : ByteArray) (i : Nat) : Decidable (isD s i) := by unfold isD; exact inferInstance
/-- Where the digits end. -/
def dE (s : ByteArray) (i : Nat) : Nat := if h : isD s i then dE s (i + 1) else i
termination_by s.size - i
decreasing_by have := h.1; omega
theorem dE_yes {s : ByteArray} {i : Nat} (h : isD s i) : dE s i = dE s (i + 1) := by rw [dE, dif_pos h]
theorem dE_no {s : ByteArray} {i : Nat} (h : ¬ isD s i) : dE s i = i := by rw [dE, dif_neg h]
theorem dE_ge (s : ByteArray) : ∀ (d i : Nat), d = s.size - i → i ≤ dE s i ∧ (i ≤ s.size → dE s i ≤ s.size) := by
  intro d
  induction d with
  | zero =>
    intro i h
    have : ¬ isD s i := fun g => by have := g.1; omega
    rw [dE_no this]; omega
  | succ d ih =>
    intro i h
    by_cases g : isD s i
    · rw [dE_yes g]
      have := ih (i + 1) (by omega)
      have := g.1
      omega
    · rw [dE_no g]; omega
theorem dE_le (s : ByteArray) (i : Nat) : i ≤ dE s i := (dE_ge s _ i rfl).1
theorem dE_size (s : ByteArray) (i : Nat) (h : i ≤ s.size) : dE s i ≤ s.size := (dE_ge s _ i rfl).2 h
/-- The bytes from one place to another. -/
def seg (s : ByteArray) (i j : Nat) : List Int := ((bytesOf s).take j).drop i
theorem seg_bytes (s : ByteArray) (i j : Nat) : bytesOf (s.extract i j) = seg s i j := bytesOf_extract s i j
theorem seg_nums (s : ByteArray) (i j : Nat) : s.extract i j = strOfNums (seg s i j) := by rw [← seg_bytes, nums_bytesOf]
theorem seg_length (s : ByteArray) (i j : Nat) (h : j ≤ s.size) : (seg s i j).length = j - i := by unfold seg; rw [List.length_drop, List.length_take, bytesOf_length]; omega
theorem seg_self (s : ByteArray) (i : Nat) : seg s i i = [] := by unfold seg; rw [List.drop_eq_nil_of_le]; rw [List.length_take]; omega
theorem seg_cons (s : ByteArray) (i j : Nat) (h : i < j) (hj : j ≤ s.size) : seg s i j = bt s (i : Int) :: seg s (i + 1) j := by
  unfold seg
  have hl : i < ((bytesOf s).take j).length := by rw [List.length_take, bytesOf_length]; omega
  rw [List.drop_eq_getElem_cons hl, List.getElem_take, bt_get s i (by rw [bytesOf_length]; omega)]
theorem seg_dd (s : ByteArray) : ∀ (d i : Nat), d = s.size - i → Dd (seg s i (dE s i)) := by
  intro d
  induction d with
  | zero =>
    intro i h
    have : ¬ isD s i := fun g => by have := g.1; omega
    rw [dE_no this, seg_self]; exact Dd.nil
  | succ d ih =>
    intro i h
    by_cases g : isD s i
    · have hi := ih (i + 1) (by omega)
      have hl := dE_le s (i + 1)
      have hz := dE_size s (i + 1) (by have := g.1; omega)
      rw [dE_yes g, seg_cons s i _ (by omega) hz]
      intro x hx
      rcases List.mem_cons.mp hx with rfl | hx
      · exact ⟨g.2.1, g.2.2⟩
      · exact hi x hx
    · rw [dE_no g, seg_self]; exact Dd.nil
theorem digits_reader (s : ByteArray) (i : Nat) (hs : s.size ≤ 1000000000) : ∀ (d j : Nat), d = s.size - j → i ≤ j → j ≤ s.size →
    Ev (fun k => single_reader_digits.l0 k (i : Int) s (j : Int)) (s.extract i (dE s j), decide (dE s j > i), s, ((dE s j : Nat) : Int)) := by
  intro d
  have done : ∀ j, i ≤ j → j ≤ s.size → ¬ isD s j → ∀ k, single_reader_digits.l0 (k + 1) (i : Int) s (j : Int) = some (s.extract i (dE s j), decide (dE s j > i), s, ((dE s j : Nat) : Int)) := by
    intro j h1 h2 hn k
    have hdec : decide ((j : Int) > (i : Int)) = decide (j > i) := by simp
    rw [dE_no hn, single_reader_digits.l0]
    by_cases c : (j : Int) < (s.size : Int)
    · rw [if_pos c, if_pos (by omega)]
      by_cases c1 : bt s (j : Int) ≥ 48
      · rw [if_pos c1]
        have c2 : ¬ bt s (j : Int) ≤ 57 := fun h => hn ⟨by omega, c1, h⟩
        rw [if_neg c2, if_pos (by omega), if_pos (by omega), if_pos (by omega), Int.toNat_natCast, Int.toNat_natCast, hdec]
      · rw [if_neg c1, if_pos (by omega), if_pos (by omega), if_pos (by omega), Int.toNat_natCast, Int.toNat_natCast, hdec]
    · rw [if_neg c, if_pos (by omega), if_pos (by omega), if_pos (by omega), Int.toNat_natCast, Int.toNat_natCast, hdec]
  induction d with
  | zero =>
    intro j h h1 h2
    have hn : ¬ isD s j := fun g => by have := g.1; omega
    exact Ev.step (done j h1 h2 hn) (Ev.now _)
  | succ d ih =>
    intro j h h1 h2
    by_cases g : isD s j
    · obtain ⟨g1, g2, g3⟩ := g
      have hi := ih (j + 1) (by omega) (by omega) (by omega)
      rw [dE_yes ⟨g1, g2, g3⟩]
      refine Ev.step (fun k => ?_) hi
      rw [single_reader_digits.l0, if_pos (by omega), if_pos (by omega), if_pos g2, if_pos g3, next_k j (by omega)]
    · exact Ev.step (done j h1 h2 g) (Ev.now _)
theorem digits_read (s : ByteArray) (i : Nat) (hs : s.size ≤ 1000000000) (hi : i ≤ s.size) : Ev (fun k => single_reader_digits.f k s (i : Int)) (s.extract i (dE s i), decide (dE s i > i), s, ((dE s i : Nat) : Int)) := digits_reader s i hs _ i rfl (by omega) hi
/-- One byte, if it is one of some. -/
def oneV (s : ByteArray) (i : Nat) (c : Bool) : Int × Bool × ByteArray × Int := if c then (bt s (i : Int), true, s, ((i + 1 : Nat) : Int)) else (0, false, s, (i : Int))
theorem one_gen (s of : ByteArray) (i : Nat) (hs : s.size ≤ 1000000000) (c : Bool) (hc : i < s.size → (c = true ↔ Lib.indexByte of.data.toList (bt s (i : Int)).toNat.toUInt8 ≥ 0)) (hc0 : ¬ i < s.size → c = false) : single_reader_one.f s (i : Int) of = some (oneV s i c) := by
  unfold single_reader_one.f oneV
  by_cases h : i < s.size
  · rw [if_pos (by omega), if_pos (by omega)]
    unfold strings_IndexByte.f
    rw [Option.bind_some, next_k i (by omega), wrap_in (by omega) (by omega), show ((i + 1 : Nat) : Int) - 1 = (i : Int) by omega]
    by_cases g : c = true
    · rw [if_pos ((hc h).mp g), if_pos (by omega), if_pos (by omega), if_pos g]
    · rw [if_neg (fun e => g ((hc h).mpr e)), if_neg g]
  · rw [if_neg (by omega), hc0 h, if_neg (by decide)]
theorem byte_eq (s : ByteArray) (i : Nat) (a : Nat) (ha : a < 256) : (UInt8.ofNat a == (bt s (i : Int)).toNat.toUInt8) = decide (bt s (i : Int) = (a : Int)) := by
  have hr := bt_range s (i : Int)
  by_cases h : bt s (i : Int) = (a : Int)
  · rw [h, decide_eq_true rfl, Int.toNat_natCast]
    simp
  · rw [decide_eq_false h, beq_eq_false_iff_ne]
    intro e
    apply h
    have e2 := congrArg UInt8.toNat e
    have e3 : (UInt8.ofNat a).toNat = a % 256 := UInt8.toNat_ofNat'
    have e4 : ((bt s (i : Int)).toNat.toUInt8).toNat = (bt s (i : Int)).toNat % 256 := UInt8.toNat_ofNat'
    rw [e3, e4] at e2
    omega
theorem one_one (s : ByteArray) (i a : Nat) (ha : a < 256) (hs : s.size ≤ 1000000000) : single_reader_one.f s (i : Int) (⟨#[UInt8.ofNat a]⟩ : ByteArray) = some (oneV s i (decide (i < s.size ∧ bt s (i : Int) = (a : Int)))) := by
  refine one_gen s _ i hs _ ?_ ?_
  · intro h
    show _ ↔ Lib.indexByte [UInt8.ofNat a] _ ≥ 0
    rw [decide_eq_true_iff, Lib.indexByte, Lib.indexByte, byte_eq s i a ha]
    by_cases g : bt s (i : Int) = (a : Int)
    · rw [decide_eq_true g, if_pos rfl]; exact ⟨fun _ => by omega, fun _ => ⟨h, g⟩⟩
    · rw [decide_eq_false g, if_neg (by decide), if_pos (by decide)]; exact ⟨fun e => absurd e.2 g, fun e => by omega⟩
  · intro h; exact decide_eq_false (fun e => h e.1)
theorem one_two (s : ByteArray) (i a b : Nat) (ha : a < 256) (hb : b < 256) (hs : s.size ≤ 1000000000) : single_reader_one.f s (i : Int) (⟨#[UInt8.ofNat a, UInt8.ofNat b]⟩ : ByteArray) = some (oneV s i (decide (i < s.size ∧ (bt s (i : Int) = (a : Int) ∨ bt s (i : Int) = (b : Int))))) := by
  refine one_gen s _ i hs _ ?_ ?_
  · intro h
    show _ ↔ Lib.indexByte [UInt8.ofNat a, UInt8.ofNat b] _ ≥ 0
    rw [decide_eq_true_iff, Lib.indexByte, Lib.indexByte, Lib.indexByte, byte_eq s i a ha, byte_eq s i b hb]
    by_cases g : bt s (i : Int) = (a : Int)
    · rw [decide_eq_true g, if_pos rfl]; exact ⟨fun _ => by omega, fun _ => ⟨h, .inl g⟩⟩
    · rw [decide_eq_false g]
      by_cases g2 : bt s (i : Int) = (b : Int)
      · rw [decide_eq_true g2]; exact ⟨fun _ => by decide, fun _ => ⟨h, .inr g2⟩⟩
      · rw [decide_eq_false g2]
        refine ⟨fun e => ?_, fun e => absurd e (by decide)⟩
        rcases e.2 with e | e
        · exact absurd e g
        · exact absurd e g2
  · intro h; exact decide_eq_false (fun e => h e.1)
/-- What a text behind its sign is: wrong at a place, or a number, that far, its parts. -/
inductive Sc where
  | bad (p : Nat)
  | good (p i e1 f2 e2 : Nat) (neg : Bool) (q : Nat)
def scY (s : ByteArray) (i e1 f2 e2 : Nat) (neg : Bool) (q : Nat) : Sc := if dE s q = q then .bad q else .good (dE s q) i e1 f2 e2 neg q
def scX (s : ByteArray) (i e1 f2 e2 : Nat) : Sc :=
  if e2 < s.size ∧ (bt s (e2 : Int) = 101 ∨ bt s (e2 : Int) = 69) then
    scY s i e1 f2 e2 (decide (e2 + 1 < s.size ∧ bt s ((e2 + 1 : Nat) : Int) = 45)) (if e2 + 1 < s.size ∧ (bt s ((e2 + 1 : Nat) : Int) = 43 ∨ bt s ((e2 + 1 : Nat) : Int) = 45) then e2 + 2 else e2 + 1)
  else .good e2 i e1 f2 e2 false e2
def scS (s : ByteArray) (i : Nat) : Sc :=
  if dE s i = i then .bad i
  else if dE s i < s.size ∧ bt s ((dE s i : Nat) : Int) = 46 then
    (if dE s (dE s i + 1) = dE s i + 1 then .bad (dE s i + 1) else scX s i (dE s i) (dE s i + 1) (dE s (dE s i + 1)))
  else scX s i (dE s i) (dE s i) (dE s i)
/-- The exponent as the program reads it. -/
def cl (v : Nat) (l : List Int) : Nat := l.foldl (fun v c => min 1000000 (10 * v + (c - 48).toNat)) v
theorem cl_cons (v : Nat) (c : Int) (l : List Int) : cl v (c :: l) = cl (min 1000000 (10 * v + (c - 48).toNat)) l := rfl
theorem cl_pv : ∀ (l : List Int) (v u : Nat), v = min 1000000 u → cl v l = min 1000000 (pv u l)
  | [], v, u, h => h
  | c :: l, v, u, h => by rw [cl_cons, pv_cons]; exact cl_pv l _ _ (by omega)
def powV (neg : Bool) (v : Nat) : Int := if neg then -(v : Int) else (v : Int)
def numR (s : ByteArray) : Sc → ByteArray × Int × Bool × ByteArray × Int
  | .bad p => ((⟨#[]⟩ : ByteArray), 0, false, s, (p : Int))
  | .good p i e1 f2 e2 neg q => (s.extract i e1 ++ s.extract f2 e2, powV neg (cl 0 (seg s q p)) - ((e2 - f2 : Nat) : Int), true, s, (p : Int))
theorem num_l0 (s : ByteArray) (w r : ByteArray) (x13 : Int) (neg : Bool) (hn : neg = decide (x13 = 45)) (T : List Int) (p : Int) (hT : Dd T) (hTl : T.length ≤ 1000000000) (hw : w.size ≤ 1000000000) (hr : r.size ≤ 1000000000) : ∀ (d i v : Nat), d = T.length - i → i ≤ T.length → v ≤ 1000000 →
    Ev (fun k => single_reader_number.l0 k w r (v : Int) x13 T (T.length : Int) (i : Int) s p) (w ++ r, powV neg (cl v (T.drop i)) - (r.size : Int), true, s, p) := by
  intro d
  induction d with
  | zero =>
    intro i v hd hi hv
    rw [List.drop_eq_nil_of_le (by omega)]
    show Ev _ (w ++ r, powV neg v - (r.size : Int), true, s, p)
    refine Ev.step (fun k => ?_) (Ev.now _)
    rw [single_reader_number.l0, if_neg (by omega)]
    by_cases c : x13 = 45
    · rw [if_pos c, if_pos (by omega), wrap_in (a := -(v : Int)) (by omega) (by omega), wrap_in (by omega) (by omega), hn, decide_eq_true c]
      rfl
    · rw [if_neg c, if_pos (by omega), wrap_in (by omega) (by omega), hn, decide_eq_false c]
      rfl
  | succ d ih =>
    intro i v hd hi hv
    have hlt : i < T.length := by omega
    have hc := hT T[i] (List.getElem_mem hlt)
    rw [List.drop_eq_getElem_cons hlt, cl_cons]
    have h2 := ih (i + 1) (min 1000000 (10 * v + (T[i] - 48).toNat)) (by omega) (by omega) (by omega)
    have e2 : (rd T (i : Int) - 48) % 256 = (((T[i] - 48).toNat : Nat) : Int) := by rw [rd_at T i hlt]; omega
    have e3 : mn 1000000 (wrap64 (wrap64 (10 * (v : Int)) + (((T[i] - 48).toNat : Nat) : Int))) = ((min 1000000 (10 * v + (T[i] - 48).toNat) : Nat) : Int) := by
      rw [wrap_in (a := 10 * (v : Int)) (by omega) (by omega), wrap_in (by omega) (by omega)]
      unfold mn
      split <;> omega
    refine Ev.step (fun k => ?_) h2
    rw [single_reader_number.l0, if_pos (by omega), if_pos (by omega), if_pos (by omega), e2, e3, next_k i (by omega)]
theorem extract_nil (s : ByteArray) (i : Nat) : s.extract i i = (⟨#[]⟩ : ByteArray) := by
  rw [seg_nums, seg_self]; rfl
theorem extract_size (s : ByteArray) (i j : Nat) (h : j ≤ s.size) : (s.extract i j).size = j - i := by rw [seg_nums, nums_size, seg_length s i j h]
theorem num_j0 (s : ByteArray) (i e1 f2 e2 : Nat) (hs : s.size ≤ 1000000) (h1 : e1 ≤ s.size) (h2 : e2 ≤ s.size) (r : ByteArray) (hr : r = s.extract f2 e2) (hf : f2 ≤ e2) :
    Ev (fun k => single_reader_number.j0 k (s.extract i e1) r s (e2 : Int)) (numR s (scX s i e1 f2 e2)) := by
  have z1 := extract_size s i e1 h1
  have z2 := extract_size s f2 e2 h2
  subst hr
  have q1 := one_two s e2 101 69 (by omega) (by omega) (by omega)
  have q2 := one_two s (e2 + 1) 43 45 (by omega) (by omega) (by omega)
  unfold scX
  by_cases c : e2 < s.size ∧ (bt s (e2 : Int) = 101 ∨ bt s (e2 : Int) = 69)
  · rw [decide_eq_true (show e2 < s.size ∧ (bt s (e2 : Int) = ((101 : Nat) : Int) ∨ bt s (e2 : Int) = ((69 : Nat) : Int)) from c)] at q1
    rw [if_pos c]
    obtain ⟨q, hq⟩ : ∃ q, (if e2 + 1 < s.size ∧ (bt s ((e2 + 1 : Nat) : Int) = 43 ∨ bt s ((e2 + 1 : Nat) : Int) = 45) then e2 + 2 else e2 + 1) = q := ⟨_, rfl⟩
    obtain ⟨g, hg⟩ : ∃ g, decide (e2 + 1 < s.size ∧ bt s ((e2 + 1 : Nat) : Int) = 45) = g := ⟨_, rfl⟩
    rw [hq, hg]
    have hql : q ≤ s.size := by
      rw [← hq]
      split
      · omega
      · have := c.1; omega
    obtain ⟨x13, hx, hxg⟩ : ∃ x13 : Int, single_reader_one.f s ((e2 + 1 : Nat) : Int) (⟨#[43, 45]⟩ : ByteArray) = some (x13, decide (e2 + 1 < s.size ∧ (bt s ((e2 + 1 : Nat) : Int) = 43 ∨ bt s ((e2 + 1 : Nat) : Int) = 45)), s, (q : Int)) ∧ g = decide (x13 = 45) := by
      by_cases cs : e2 + 1 < s.size ∧ (bt s ((e2 + 1 : Nat) : Int) = 43 ∨ bt s ((e2 + 1 : Nat) : Int) = 45)
      · rw [if_pos cs] at hq
        refine ⟨bt s ((e2 + 1 : Nat) : Int), ?_, ?_⟩
        · refine q2.trans ?_
          rw [decide_eq_true (show e2 + 1 < s.size ∧ (bt s ((e2 + 1 : Nat) : Int) = ((43 : Nat) : Int) ∨ bt s ((e2 + 1 : Nat) : Int) = ((45 : Nat) : Int)) from cs), decide_eq_true cs]
          unfold oneV
          rw [if_pos rfl, ← hq]
        · rw [← hg]
          by_cases c5 : bt s ((e2 + 1 : Nat) : Int) = 45
          · rw [decide_eq_true c5, decide_eq_true ⟨cs.1, c5⟩]
          · rw [decide_eq_false c5, decide_eq_false (fun h => c5 h.2)]
      · rw [if_neg cs] at hq
        refine ⟨0, ?_, ?_⟩
        · refine q2.trans ?_
          rw [decide_eq_false (show ¬ (e2 + 1 < s.size ∧ (bt s ((e2 + 1 : Nat) : Int) = ((43 : Nat) : Int) ∨ bt s ((e2 + 1 : Nat) : Int) = ((45 : Nat) : Int))) from cs), decide_eq_false cs]
          unfold oneV
          rw [if_neg (by decide), ← hq]
        · rw [← hg]
          rw [decide_eq_false (show ¬ (0 : Int) = 45 by omega), decide_eq_false (fun h => cs ⟨h.1, .inr h.2⟩)]
    have hdr := digits_read s q (by omega) hql
    have hle := dE_le s q
    have hsz := dE_size s q hql
    have hdd := seg_dd s _ q rfl
    unfold scY
    have hb : Ev (fun k => (if (decide (dE s q > q)) = true then ((conv_bytes.f (s.extract q (dE s q))).bind fun t130 => (single_reader_number.l0 k (s.extract i e1) (s.extract f2 e2) 0 x13 t130 (t130.length : Int) 0 s ((dE s q : Nat) : Int))) else (some ((⟨#[]⟩ : ByteArray), 0, false, s, ((dE s q : Nat) : Int))))) (numR s (if dE s q = q then .bad q else .good (dE s q) i e1 f2 e2 g q)) := by
      by_cases cd : dE s q = q
      · rw [if_pos cd, cd]
        refine Ev.congr (fun k => ?_) (Ev.now _)
        rw [decide_eq_false (by omega), if_neg (by decide)]
        rfl
      · rw [if_neg cd]
        have z3 := extract_size s q (dE s q) hsz
        have hl := num_l0 s (s.extract i e1) (s.extract f2 e2) x13 g hxg (seg s q (dE s q)) ((dE s q : Nat) : Int) hdd (by rw [seg_length _ _ _ hsz]; omega) (by omega) (by omega) (seg s q (dE s q)).length 0 0 (by omega) (by omega) (by omega)
        rw [List.drop_zero, z2] at hl
        refine Ev.congr (fun k => ?_) hl
        have hcv : conv_bytes.f (s.extract q (dE s q)) = some (seg s q (dE s q)) := by unfold conv_bytes.f; rw [if_pos (by omega), seg_bytes]
        rw [decide_eq_true (by omega), if_pos rfl, hcv, Option.bind_some]
        rfl
    have := hdr.bind (f := fun k bt126 => (if bt126.2.1 = true then ((conv_bytes.f bt126.1).bind fun t130 => (single_reader_number.l0 k (s.extract i e1) (s.extract f2 e2) 0 x13 t130 (t130.length : Int) 0 bt126.2.2.1 bt126.2.2.2)) else (some ((⟨#[]⟩ : ByteArray), 0, false, bt126.2.2.1, bt126.2.2.2)))) hb
    refine Ev.step (fun k => ?_) this
    rw [single_reader_number.j0]
    have q1' : single_reader_one.f s (e2 : Int) (⟨#[101, 69]⟩ : ByteArray) = some (bt s (e2 : Int), true, s, ((e2 + 1 : Nat) : Int)) := by
      refine q1.trans ?_
      unfold oneV
      rw [if_pos rfl]
    rw [q1', Option.bind_some, if_pos rfl, hx, Option.bind_some]
  · rw [decide_eq_false (show ¬ (e2 < s.size ∧ (bt s (e2 : Int) = ((101 : Nat) : Int) ∨ bt s (e2 : Int) = ((69 : Nat) : Int))) from c)] at q1
    rw [if_neg c]
    have q1' : single_reader_one.f s (e2 : Int) (⟨#[101, 69]⟩ : ByteArray) = some (0, false, s, (e2 : Int)) := by
      refine q1.trans ?_
      unfold oneV
      rw [if_neg (by decide)]
    refine Ev.step (fun k => ?_) (Ev.now _)
    rw [single_reader_number.j0, q1', Option.bind_some, if_neg (show ¬ (false = true) by decide), if_pos (by omega), z2, wrap_in (by omega) (by omega)]
    show _ = some (numR s (Sc.good e2 i e1 f2 e2 false e2))
    unfold numR
    show _ = some (s.extract i e1 ++ s.extract f2 e2, powV false (cl 0 (seg s e2 e2)) - ((e2 - f2 : Nat) : Int), true, s, (e2 : Int))
    rw [seg_self]
    simp [cl, powV]
theorem number_ev (s : ByteArray) (i : Nat) (hs : s.size ≤ 1000000) (hi : i ≤ s.size) : Ev (fun k => single_reader_number.f k s (i : Int)) (numR s (scS s i)) := by
  have hdr := digits_read s i (by omega) hi
  have hle := dE_le s i
  have hsz := dE_size s i hi
  obtain ⟨e1, he1⟩ : ∃ e1, dE s i = e1 := ⟨_, rfl⟩
  unfold scS
  rw [he1] at hdr hle hsz ⊢
  have q1 := one_one s e1 46 (by omega) (by omega)
  refine Ev.congr (fun k => by unfold single_reader_number.f; rfl) (hdr.bind (f := fun k bt106 => (if bt106.2.1 = true then ((single_reader_one.f bt106.2.2.1 bt106.2.2.2 (⟨#[46]⟩ : ByteArray)).bind fun bt110 => (if bt110.2.1 = true then ((single_reader_digits.f k bt110.2.2.1 bt110.2.2.2).bind fun bt114 => (if bt114.2.1 = true then (single_reader_number.j0 k bt106.1 bt114.1 bt114.2.2.1 bt114.2.2.2) else (some ((⟨#[]⟩ : ByteArray), 0, false, bt114.2.2.1, bt114.2.2.2)))) else (single_reader_number.j0 k bt106.1 (⟨#[]⟩ : ByteArray) bt110.2.2.1 bt110.2.2.2))) else (some ((⟨#[]⟩ : ByteArray), 0, false, bt106.2.2.1, bt106.2.2.2)))) ?_)
  by_cases c0 : e1 = i
  · rw [if_pos c0]
    refine Ev.congr (fun k => ?_) (Ev.now _)
    rw [decide_eq_false (by omega), if_neg (show ¬ (false = true) by decide), c0]
    rfl
  · rw [if_neg c0]
    by_cases c1 : e1 < s.size ∧ bt s (e1 : Int) = 46
    · rw [if_pos c1]
      rw [decide_eq_true (show e1 < s.size ∧ bt s (e1 : Int) = ((46 : Nat) : Int) from c1)] at q1
      have q1' : single_reader_one.f s (e1 : Int) (⟨#[46]⟩ : ByteArray) = some (bt s (e1 : Int), true, s, ((e1 + 1 : Nat) : Int)) := by
        refine q1.trans ?_
        unfold oneV
        rw [if_pos rfl]
      have hdr2 := digits_read s (e1 + 1) (by omega) (by omega)
      have hle2 := dE_le s (e1 + 1)
      have hsz2 := dE_size s (e1 + 1) (by omega)
      have := hdr2.bind (f := fun k bt114 => (if bt114.2.1 = true then (single_reader_number.j0 k (s.extract i e1) bt114.1 bt114.2.2.1 bt114.2.2.2) else (some ((⟨#[]⟩ : ByteArray), 0, false, bt114.2.2.1, bt114.2.2.2)))) (r := numR s (if dE s (e1 + 1) = e1 + 1 then .bad (e1 + 1) else scX s i e1 (e1 + 1) (dE s (e1 + 1)))) (by
        by_cases c2 : dE s (e1 + 1) = e1 + 1
        · rw [if_pos c2]
          refine Ev.congr (fun k => ?_) (Ev.now _)
          rw [decide_eq_false (by omega), if_neg (show ¬ (false = true) by decide), c2]
          rfl
        · rw [if_neg c2]
          have hj := num_j0 s i e1 (e1 + 1) (dE s (e1 + 1)) hs hsz hsz2 _ rfl hle2
          refine Ev.congr (fun k => ?_) hj
          rw [decide_eq_true (by omega), if_pos rfl])
      refine Ev.congr (fun k => ?_) this
      rw [decide_eq_true (by omega), if_pos rfl, q1', Option.bind_some, if_pos rfl]
    · rw [if_neg c1]
      rw [decide_eq_false (show ¬ (e1 < s.size ∧ bt s (e1 : Int) = ((46 : Nat) : Int)) from c1)] at q1
      have q1' : single_reader_one.f s (e1 : Int) (⟨#[46]⟩ : ByteArray) = some (0, false, s, (e1 : Int)) := by
        refine q1.trans ?_
        unfold oneV
        rw [if_neg (by decide)]
      have hj := num_j0 s i e1 e1 e1 hs hsz hsz (⟨#[]⟩ : ByteArray) (extract_nil s e1).symm (by omega)
      refine Ev.congr (fun k => ?_) hj
      rw [decide_eq_true (by omega), if_pos rfl, q1', Option.bind_some, if_neg (show ¬ (false = true) by decide)]
end Go.Proofs.YteecekhfpfnepaaDoor.Tx
end

section
namespace Go.Proofs.YteecekhfpfnepaaDoor.Sg
/-- Half to even: n over 2^d. -/
def rhe (n d : Nat) : Nat := n / 2 ^ d + (if 2 ^ d < 2 * (n % 2 ^ d) ∨ (2 ^ d = 2 * (n % 2 ^ d) ∧ n / 2 ^ d % 2 = 1) then 1 else 0)
theorem rhe_small {n d : Nat} (h : 2 * n < 2 ^ d) : rhe n d = 0 := by
  unfold rhe
  rw [Nat.div_eq_of_lt (by omega), Nat.mod_eq_of_lt (by omega), if_neg (by omega)]
theorem rhe_zero (n : Nat) : rhe n 0 = n := by
  unfold rhe
  rw [Nat.pow_zero, Nat.div_one, Nat.mod_one, if_neg (by omega)]; rfl
/-- The rung nearest to m 2^e, infinity and all. -/
def lastP (m : Nat) (e : Int) : Int := max (e + m.log2 - 23) (-149)
def rung (m : Nat) (e : Int) : Nat := if m = 0 then 0 else min ((lastP m e + 149).toNat * 8388608 + rhe (m <<< (e - lastP m e).toNat) (lastP m e - e).toNat) 2139095040
end Go.Proofs.YteecekhfpfnepaaDoor.Sg
end

section
namespace Go.Proofs.YteecekhfpfnepaaDoor.Sg
open Go.RowKit Go.Proofs.YteecekhfpfnepaaDoor.PAll Go.Proofs.YteecekhfpfnepaaDoorW.PrintWords Go.Proofs.YteecekhfpfnepaaDoorW.PrintLast Go.Proofs.YteecekhfpfnepaaDoorW.PrintMore
set_option linter.unusedVariables false
set_option linter.unusedSimpArgs false
theorem wrap_in {a : Int} (h0 : -9223372036854775808 ≤ a) (h1 : a ≤ 9223372036854775807) : wrap64 a = a := by unfold wrap64; omega
theorem u64_eq (a : Int) : IntKind.u64.wrap a = a % 18446744073709551616 := rfl
theorem u64_in {a : Int} (h0 : 0 ≤ a) (h1 : a < 18446744073709551616) : IntKind.u64.wrap a = a := by rw [u64_eq]; omega
theorem pow_pos' (n : Nat) : 0 < 2 ^ n := Nat.two_pow_pos n
theorem cast_pow (n : Nat) : ((2 ^ n : Nat) : Int) = 2 ^ n := by push_cast; rfl
theorem pow63 (n : Nat) (h : n ≤ 63) : 2 ^ n ≤ 9223372036854775808 := by
  have := Nat.pow_le_pow_right (show 0 < 2 by omega) h
  exact this
theorem shl_u (m t : Nat) (ht : t ≤ 64) (h : m * 2 ^ t < 18446744073709551616) : shl .u64 (m : Int) (t : Int) = ((m * 2 ^ t : Nat) : Int) := by
  unfold shl
  rw [show min (t : Int).toNat IntKind.u64.bits = t from by show min (t : Int).toNat 64 = t; omega, ← cast_pow, ← Int.natCast_mul, u64_in (by omega) (by omega)]
theorem shr_u (m t : Nat) (ht : t ≤ 64) : shr .u64 (m : Int) (t : Int) = ((m / 2 ^ t : Nat) : Int) := by
  unfold shr
  rw [show min (t : Int).toNat IntKind.u64.bits = t from by show min (t : Int).toNat 64 = t; omega, ← cast_pow, ← Int.natCast_ediv]
theorem and_u (a c : Nat) (ha : a < 18446744073709551616) (hc : c < 18446744073709551616) : bits .and .u64 (a : Int) (c : Int) = ((a &&& c : Nat) : Int) := by
  show IntKind.u64.wrap ((BitVec.ofInt 64 (a : Int) &&& BitVec.ofInt 64 (c : Int)).toNat : Int) = _
  rw [BitVec.toNat_and, BitVec.ofInt_natCast, BitVec.ofInt_natCast, BitVec.toNat_ofNat, BitVec.toNat_ofNat, Nat.mod_eq_of_lt (by omega), Nat.mod_eq_of_lt (by omega)]
  have : a &&& c ≤ a := Nat.and_le_left
  exact u64_in (by omega) (by omega)
theorem mask_u (m s : Nat) (hm : m < 18446744073709551616) (hs : s ≤ 63) : bits .and .u64 (m : Int) (IntKind.u64.wrap (shl .u64 1 (s : Int) - 1)) = ((m % 2 ^ s : Nat) : Int) := by
  have hp := pow63 s hs
  have hp1 := pow_pos' s
  rw [show (1 : Int) = ((1 : Nat) : Int) from rfl, shl_u 1 s (by omega) (by omega), Nat.one_mul, show ((2 ^ s : Nat) : Int) - ((1 : Nat) : Int) = ((2 ^ s - 1 : Nat) : Int) from by omega, u64_in (by omega) (by omega), and_u _ _ hm (by omega), Nat.and_two_pow_sub_one_eq_mod]
theorem odd_u (m : Nat) (hm : m < 18446744073709551616) : bits .and .u64 (m : Int) 1 = ((m % 2 : Nat) : Int) := by
  rw [show (1 : Int) = ((1 : Nat) : Int) from rfl, and_u _ _ hm (by omega), Nat.and_one_is_mod]
theorem shl_one (s : Nat) (hs : s ≤ 63) : shl .u64 1 (s : Int) = ((2 ^ s : Nat) : Int) := by
  have hp := pow63 s hs
  rw [show (1 : Int) = ((1 : Nat) : Int) from rfl, shl_u 1 s (by omega) (by omega), Nat.one_mul]
theorem pow_half (s : Nat) (h : 1 ≤ s) : 2 ^ s = 2 * 2 ^ (s - 1) := by
  obtain ⟨t, rfl⟩ : ∃ t, s = t + 1 := ⟨s - 1, by omega⟩
  rw [Nat.pow_succ, Nat.mul_comm]; rfl
theorem rhe_lt (m s : Nat) (hm : m < 18446744073709551616) (hs : 1 ≤ s) : rhe m s ≤ 9223372036854775808 ∧ m / 2 ^ s < 9223372036854775808 := by
  have h1 : 2 ≤ 2 ^ s := by rw [pow_half s hs]; have := pow_pos' (s - 1); omega
  have h2 : m / 2 ^ s ≤ m / 2 := Nat.div_le_div_left h1 (by omega)
  unfold rhe
  split <;> omega
/-- What down tells. -/
theorem down_up (m : Nat) (t : Nat) (ht : t ≤ 64) (h : m * 2 ^ t < 18446744073709551616) (s : Int) (hs : s = -(t : Int)) : single_down.f (m : Int) s = some ((m * 2 ^ t : Nat) : Int) := by
  subst hs
  unfold single_down.f
  rw [if_pos (by omega), wrap_in (by omega) (by omega), if_pos (by omega), Int.neg_neg, shl_u m t ht h]
theorem down_down (m s : Nat) (hm : m < 18446744073709551616) (hs : 1 ≤ s) (hs2 : (s : Int) ≤ 9223372036854775807) : single_down.f (m : Int) (s : Int) = some ((rhe m s : Nat) : Int) := by
  unfold single_down.f
  rw [if_neg (by omega)]
  by_cases h64 : s > 64
  · rw [if_pos (by omega), rhe_small]
    · rfl
    · have : 2 ^ 65 ≤ 2 ^ s := Nat.pow_le_pow_right (by omega) (by omega)
      have e : 2 ^ 65 = 36893488147419103232 := by decide
      omega
  rw [if_neg (by omega), wrap_in (by omega) (by omega), if_pos (by omega), show (s : Int) - 1 = ((s - 1 : Nat) : Int) from by omega, shl_one (s - 1) (by omega)]
  have hph := pow_half s hs
  have hp1 := pow_pos' (s - 1)
  by_cases h63 : s < 64
  · rw [if_pos (by omega), if_pos (by omega), mask_u m s hm (by omega), shr_u m s (by omega)]
    obtain ⟨hr1, hr2⟩ := rhe_lt m s hm hs
    have hmod : m % 2 ^ s < 2 ^ s := Nat.mod_lt _ (pow_pos' s)
    unfold rhe
    obtain ⟨q, hq⟩ : ∃ q, m / 2 ^ s = q := ⟨_, rfl⟩
    obtain ⟨rr, hrr⟩ : ∃ rr, m % 2 ^ s = rr := ⟨_, rfl⟩
    obtain ⟨hh, hhh⟩ : ∃ hh, 2 ^ (s - 1) = hh := ⟨_, rfl⟩
    rw [hq] at hr2 ⊢
    rw [hrr] at hmod ⊢
    rw [hhh] at hph hp1 ⊢
    rw [hph] at hmod ⊢
    rw [odd_u q (by omega), u64_in (by omega) (by omega)]
    by_cases c1 : rr > hh
    · rw [if_pos (by omega), if_pos (.inl (by omega))]; rfl
    · rw [if_neg (by omega)]
      by_cases c2 : rr = hh
      · rw [if_pos (by omega)]
        by_cases c3 : q % 2 = 1
        · rw [if_pos (by omega), if_pos (.inr ⟨by omega, c3⟩)]; rfl
        · rw [if_neg (by omega), if_neg (by omega)]; rfl
      · rw [if_neg (by omega), if_neg (by omega)]; rfl
  · obtain rfl : s = 64 := by omega
    rw [if_neg (by omega)]
    have e1 : 2 ^ (64 - 1) = 9223372036854775808 := by decide
    have e2 : 2 ^ 64 = 18446744073709551616 := by decide
    have er : rhe m 64 = if 9223372036854775808 < m then 1 else 0 := by
      unfold rhe
      rw [e2, Nat.div_eq_of_lt hm, Nat.mod_eq_of_lt hm]
      by_cases c1 : 9223372036854775808 < m
      · rw [if_pos (.inl (by omega)), if_pos c1]
      · rw [if_neg (by omega), if_neg c1]
    rw [e1, er]
    by_cases c1 : 9223372036854775808 < m
    · rw [if_pos (by omega), if_pos c1]; rfl
    · rw [if_neg (by omega), if_neg c1]
      split
      · rw [if_neg (by decide)]; rfl
      · rfl
/-- The kept digits, rounded, where the last one is at a place. -/
def keptQ (m : Nat) (e last : Int) : Nat := rhe (m <<< (e - last).toNat) (last - e).toNat
theorem log_bounds (m : Nat) (hm : m ≠ 0) : 2 ^ m.log2 ≤ m ∧ m < 2 ^ (m.log2 + 1) := ⟨Nat.log2_self_le hm, Nat.lt_log2_self⟩
theorem log_lt (m : Nat) (hm : m ≠ 0) (h : m < 18446744073709551616) : m.log2 ≤ 63 := by
  have : m.log2 < 64 := (Nat.log2_lt hm).2 (by omega)
  omega
theorem rhe_le (n d : Nat) : n / 2 ^ d ≤ rhe n d ∧ rhe n d ≤ n / 2 ^ d + 1 := by unfold rhe; split <;> omega
/-- The kept digits are at most 24, and no fewer where the place is not the least. -/
theorem kept_up (m : Nat) (e last : Int) (hm : m ≠ 0) (h : e + (m.log2 : Int) - 23 ≤ last) : keptQ m e last ≤ 16777216 := by
  obtain ⟨h1, h2⟩ := log_bounds m hm
  unfold keptQ
  by_cases hs : last ≤ e
  · rw [show (last - e).toNat = 0 by omega, rhe_zero, Nat.shiftLeft_eq]
    obtain ⟨t, ht⟩ : ∃ t, (e - last).toNat = t := ⟨_, rfl⟩
    rw [ht]
    have h3 : m * 2 ^ t < 2 ^ (m.log2 + 1) * 2 ^ t := Nat.mul_lt_mul_of_pos_right h2 (pow_pos' t)
    rw [← Nat.pow_add] at h3
    have h4 : 2 ^ (m.log2 + 1 + t) ≤ 2 ^ 24 := Nat.pow_le_pow_right (by omega) (by omega)
    have h5 : 2 ^ 24 = 16777216 := by decide
    omega
  · rw [show (e - last).toNat = 0 by omega, Nat.shiftLeft_zero]
    obtain ⟨s, hs'⟩ : ∃ s, (last - e).toNat = s := ⟨_, rfl⟩
    rw [hs']
    have h3 : 2 ^ (m.log2 + 1) ≤ 2 ^ (24 + s) := Nat.pow_le_pow_right (by omega) (by omega)
    have h4 : m / 2 ^ s < 2 ^ 24 := by
      apply Nat.div_lt_of_lt_mul
      rw [← Nat.pow_add, Nat.add_comm s 24]
      omega
    have h5 : 2 ^ 24 = 16777216 := by decide
    have h6 := (rhe_le m s).2
    omega
theorem kept_low (m : Nat) (e last : Int) (hm : m ≠ 0) (h : last = e + (m.log2 : Int) - 23) : 8388608 ≤ keptQ m e last := by
  obtain ⟨h1, h2⟩ := log_bounds m hm
  unfold keptQ
  have h5 : 2 ^ 23 = 8388608 := by decide
  by_cases hs : last ≤ e
  · rw [show (last - e).toNat = 0 by omega, rhe_zero, Nat.shiftLeft_eq]
    obtain ⟨t, ht⟩ : ∃ t, (e - last).toNat = t := ⟨_, rfl⟩
    rw [ht]
    have h3 : 2 ^ m.log2 * 2 ^ t ≤ m * 2 ^ t := Nat.mul_le_mul_right _ h1
    rw [← Nat.pow_add, show m.log2 + t = 23 by omega] at h3
    omega
  · rw [show (e - last).toNat = 0 by omega, Nat.shiftLeft_zero]
    obtain ⟨s, hs'⟩ : ∃ s, (last - e).toNat = s := ⟨_, rfl⟩
    rw [hs']
    have h4 : 2 ^ 23 ≤ m / 2 ^ s := by
      rw [Nat.le_div_iff_mul_le (pow_pos' s), ← Nat.pow_add, show 23 + s = m.log2 by omega]
      exact h1
    have h6 := (rhe_le m s).1
    omega
theorem lastP_cases (m : Nat) (e : Int) : (lastP m e = e + (m.log2 : Int) - 23 ∧ -149 ≤ lastP m e) ∨ (lastP m e = -149 ∧ e + (m.log2 : Int) - 23 ≤ -149) := by
  unfold lastP; omega
/-- The rung of a number that is not 0, out of its kept digits. -/
theorem rung_eq (m : Nat) (e : Int) (hm : m ≠ 0) : rung m e = min ((lastP m e + 149).toNat * 8388608 + keptQ m e (lastP m e)) 2139095040 := by
  unfold rung keptQ
  rw [if_neg hm]
theorem kept_ok (m : Nat) (e : Int) (hm : m ≠ 0) : keptQ m e (lastP m e) ≤ 16777216 ∧ (keptQ m e (lastP m e) < 8388608 → lastP m e = -149) ∧ -149 ≤ lastP m e := by
  rcases lastP_cases m e with ⟨h1, h2⟩ | ⟨h1, h2⟩
  · exact ⟨kept_up m e _ hm (by omega), fun h => absurd (kept_low m e _ hm h1) (by omega), h2⟩
  · exact ⟨kept_up m e _ hm (by omega), fun _ => h1, by omega⟩
theorem rung_small (m : Nat) (e : Int) (hm : m < 18446744073709551616) (he : e < -300) : rung m e = 0 := by
  by_cases h0 : m = 0
  · rw [h0]; rfl
  have hl := log_lt m h0 hm
  rw [rung_eq m e h0]
  have e1 : lastP m e = -149 := by unfold lastP; omega
  rw [e1]
  unfold keptQ
  rw [show (e - -149).toNat = 0 by omega, Nat.shiftLeft_zero, rhe_small]
  · rfl
  · have : 2 ^ 65 ≤ 2 ^ (-149 - e).toNat := Nat.pow_le_pow_right (by omega) (by omega)
    have e2 : 2 ^ 65 = 36893488147419103232 := by decide
    omega
theorem rung_big (m : Nat) (e : Int) (h0 : m ≠ 0) (he : 200 < e) : rung m e = 2139095040 := by
  rw [rung_eq m e h0]
  have e1 : 177 < lastP m e := by unfold lastP; omega
  omega
/-- The word of a sign and a rung, as a number. -/
def sgn (neg : Bool) : Int := if neg then 2147483648 else 0
def NR (neg : Bool) (m : Nat) (e : Int) : Int := sgn neg + (rung m e : Int)
theorem rung_le (m : Nat) (e : Int) : rung m e ≤ 2139095040 := by
  unfold rung; split
  · omega
  · exact Nat.min_le_right _ _
theorem or32 (a c : Nat) (ha : a < 4294967296) (hc : c < 4294967296) : bits .or .u32 (a : Int) (c : Int) = ((a ||| c : Nat) : Int) := by
  show IntKind.u32.wrap ((BitVec.ofInt 32 (a : Int) ||| BitVec.ofInt 32 (c : Int)).toNat : Int) = _
  rw [BitVec.toNat_or, BitVec.ofInt_natCast, BitVec.ofInt_natCast, BitVec.toNat_ofNat, BitVec.toNat_ofNat, Nat.mod_eq_of_lt (by omega), Nat.mod_eq_of_lt (by omega)]
  have h : a ||| c < 2 ^ 32 := Nat.or_lt_two_pow (by omega) (by omega)
  show ((a ||| c : Nat) : Int) % 4294967296 = _
  omega
def sgnN (neg : Bool) : Nat := if neg then 2147483648 else 0
theorem sgn_cast (neg : Bool) : sgn neg = (sgnN neg : Int) := by cases neg <;> rfl
theorem or_u32 (neg : Bool) (x : Nat) (hx : x < 2147483648) : bits .or .u32 (sgn neg) (x : Int) = sgn neg + (x : Int) := by
  rw [sgn_cast]
  cases neg
  · rw [show sgnN false = 0 from rfl, or32 _ _ (by omega) (by omega), Nat.zero_or]; omega
  · have e := Nat.two_pow_add_eq_or_of_lt (i := 31) (b := x) (by omega) 1
    rw [show sgnN true = 2147483648 from rfl, or32 _ _ (by omega) (by omega), show (2147483648 : Nat) = 2 ^ 31 * 1 from by decide, ← e]; omega
theorem or2_u32 (neg : Bool) (x y : Nat) (hx : x < 256) (hy : y < 8388608) : bits .or .u32 (bits .or .u32 (sgn neg) ((x * 8388608 : Nat) : Int)) (y : Int) = sgn neg + ((x * 8388608 + y : Nat) : Int) := by
  rw [or_u32 neg _ (by omega), sgn_cast]
  obtain ⟨g, hg, hg2⟩ : ∃ g, sgnN neg = g * 8388608 ∧ g ≤ 256 := by
    cases neg
    · exact ⟨0, rfl, by omega⟩
    · exact ⟨256, rfl, by omega⟩
  rw [hg]
  have e := Nat.two_pow_add_eq_or_of_lt (i := 23) (b := y) (by omega) (g + x)
  rw [show ((g * 8388608 : Nat) : Int) + ((x * 8388608 : Nat) : Int) = ((2 ^ 23 * (g + x) : Nat) : Int) from by rw [show 2 ^ 23 = 8388608 from by decide]; omega, or32 _ _ (by rw [show 2 ^ 23 = 8388608 from by decide]; omega) (by omega), ← e, show 2 ^ 23 = 8388608 from by decide]
  omega
/-- What the program's Near and the reference's near do at the end: the word of a place and of kept digits. -/
def fin (s last : Int) (q : Nat) : Int := if q < 8388608 then s + q else if last + 150 ≥ 255 then s + 2139095040 else s + (last + 150) * 8388608 + (q - 8388608)
theorem fin_eq (neg : Bool) (m : Nat) (e : Int) (hm : m ≠ 0) : (if keptQ m e (lastP m e) = 16777216 then fin (sgn neg) (lastP m e + 1) 8388608 else fin (sgn neg) (lastP m e) (keptQ m e (lastP m e))) = NR neg m e := by
  obtain ⟨h1, h2, h3⟩ := kept_ok m e hm
  unfold NR fin
  rw [rung_eq m e hm]
  generalize keptQ m e (lastP m e) = q at *
  generalize lastP m e = l at *
  by_cases c : q = 16777216
  · rw [if_pos c, if_neg (by omega)]
    split <;> omega
  · rw [if_neg c]
    split
    · have := h2 (by omega); omega
    · split <;> omega
theorem lenI_log (m : Nat) (hm : m ≠ 0) : lenI (m : Int) = (m.log2 : Int) + 1 := by unfold lenI; rw [if_neg (by omega)]; rfl
/-- down at the place that Near takes. -/
theorem down_kept (m : Nat) (e : Int) (h0 : m ≠ 0) (hm : m < 18446744073709551616) (he0 : -300 ≤ e) (he1 : e ≤ 200) : single_down.f (m : Int) (lastP m e - e) = some ((keptQ m e (lastP m e) : Nat) : Int) := by
  have hl := log_lt m h0 hm
  have hb := (log_bounds m h0).2
  unfold keptQ
  have hlp : lastP m e = max (e + m.log2 - 23) (-149) := rfl
  by_cases hs : lastP m e ≤ e
  · obtain ⟨t, ht⟩ : ∃ t, (e - lastP m e).toNat = t := ⟨_, rfl⟩
    have h4 : m.log2 + 1 + t ≤ 24 := by omega
    have h3 : m * 2 ^ t < 2 ^ (m.log2 + 1) * 2 ^ t := Nat.mul_lt_mul_of_pos_right hb (pow_pos' t)
    rw [← Nat.pow_add] at h3
    have h5 : 2 ^ (m.log2 + 1 + t) ≤ 2 ^ 24 := Nat.pow_le_pow_right (by omega) h4
    have h6 : 2 ^ 24 = 16777216 := by decide
    rw [down_up m t (by omega) (by omega) _ (by omega), show (lastP m e - e).toNat = 0 by omega, rhe_zero, ht, Nat.shiftLeft_eq]
  · obtain ⟨s, hs'⟩ : ∃ s, (lastP m e - e).toNat = s := ⟨_, rfl⟩
    rw [show lastP m e - e = (s : Int) from by omega, down_down m s hm (by omega) (by omega), show (e - lastP m e).toNat = 0 by omega, Nat.shiftLeft_zero, Int.toNat_natCast]
theorem near_j1 (neg : Bool) (last : Int) (q k : Nat) (h1 : -149 ≤ last) (h2 : last ≤ 1000) (hq : q < 16777216) : single_Near.j1 (k + 1) (sgn neg) last (q : Int) = some (fin (sgn neg) last q) := by
  simp only [single_Near.j1]
  unfold fin
  rw [wrap_in (by omega) (by omega)]
  by_cases c1 : q < 8388608
  · rw [if_pos (by omega), if_pos c1, show (q : Int) % 4294967296 = (q : Int) from by omega, or_u32 neg q (by omega)]
  · rw [if_neg (by omega), if_neg c1]
    by_cases c2 : last + 150 ≥ 255
    · rw [if_pos c2, if_pos c2, show (2139095040 : Int) = ((2139095040 : Nat) : Int) from rfl, or_u32 neg _ (by omega)]
    · rw [if_neg c2, if_neg c2]
      obtain ⟨x, hx⟩ : ∃ x : Nat, last + 150 = (x : Int) := ⟨(last + 150).toNat, by omega⟩
      rw [hx, u64_in (by omega) (by omega), show ((x : Int) % 4294967296 * 8388608 % 4294967296) = ((x * 8388608 : Nat) : Int) from by omega, show ((q : Int) - 8388608) % 4294967296 = ((q - 8388608 : Nat) : Int) from by omega, or2_u32 neg x (q - 8388608) (by omega) (by omega)]
      congr 1
      omega
theorem near_j0 (neg : Bool) (m : Nat) (e : Int) (h0 : m ≠ 0) (hm : m < 18446744073709551616) (k : Nat) (hk : 2 ≤ k) : single_Near.j0 k e (sgn neg) (m : Int) = some (NR neg m e) := by
  obtain ⟨k, rfl⟩ : ∃ j, k = j + 2 := ⟨k - 2, by omega⟩
  simp only [single_Near.j0]
  by_cases c1 : e > 200
  · rw [if_pos c1, show (2139095040 : Int) = ((2139095040 : Nat) : Int) from rfl, or_u32 neg _ (by omega), NR, rung_big m e h0 c1]
  · rw [if_neg c1]
    by_cases c2 : e < -300
    · rw [if_pos c2, NR, rung_small m e hm c2]; simp
    · rw [if_neg c2]
      have hl := log_lt m h0 hm
      obtain ⟨h1, h2, h3⟩ := kept_ok m e h0
      have hlast : mx (-149) (wrap64 (wrap64 (e + (((m.log2 : Nat) : Int) + 1)) - 24)) = lastP m e := by
        rw [wrap_in (a := e + _) (by omega) (by omega), wrap_in (by omega) (by omega)]
        unfold mx lastP
        split <;> omega
      have hlp : lastP m e = max (e + m.log2 - 23) (-149) := rfl
      unfold bits_Len64.f
      rw [if_pos ⟨by omega, by omega⟩, lenI_log m h0]
      simp only [Option.bind_some]
      rw [hlast, wrap_in (a := lastP m e - e) (by omega) (by omega), down_kept m e h0 hm (by omega) (by omega)]
      simp only [Option.bind_some]
      rw [← fin_eq neg m e h0]
      by_cases c3 : keptQ m e (lastP m e) = 16777216
      · rw [if_pos (by omega), if_pos c3, wrap_in (by omega) (by omega), show (8388608 : Int) = ((8388608 : Nat) : Int) from rfl, near_j1 neg _ _ k (by omega) (by omega) (by omega)]
      · rw [if_neg (by omega), if_neg c3, near_j1 neg _ _ k (by omega) (by omega) (by omega)]
theorem near_some (a e : Int) (h0 : -9223372036854775808 ≤ a) (h1 : a ≤ 9223372036854775807) (k : Nat) (hk : 2 ≤ k) : single_Near.f k a e = some (if a = 0 then 0 else NR (decide (a < 0)) a.natAbs e) := by
  unfold single_Near.f
  by_cases c0 : a = 0
  · rw [if_pos c0, if_pos c0]
  · rw [if_neg c0, if_neg c0]
    by_cases c1 : a < 0
    · rw [if_pos c1, decide_eq_true c1, show IntKind.u64.wrap (-(IntKind.u64.wrap a)) = ((a.natAbs : Nat) : Int) from by rw [u64_eq, u64_eq]; omega]
      exact near_j0 true a.natAbs e (by omega) (by omega) k hk
    · rw [if_neg c1, decide_eq_false c1, show IntKind.u64.wrap a = ((a.natAbs : Nat) : Int) from by rw [u64_eq]; omega]
      exact near_j0 false a.natAbs e (by omega) (by omega) k hk
end Go.Proofs.YteecekhfpfnepaaDoor.Sg
end

section
namespace Go.Proofs.YteecekhfpfnepaaDoor.Sg
set_option linter.unusedVariables false
set_option linter.unusedSimpArgs false
theorem rhe_exact (a s : Nat) : rhe (a * 2 ^ s) s = a := by
  have hp := pow_pos' s
  unfold rhe
  rw [Nat.mul_div_cancel _ hp, Nat.mul_mod_left, if_neg (by omega)]
  rfl
theorem rhe_scale (m D t : Nat) : rhe (m * 2 ^ t) (D + t) = rhe m D := by
  have hp := pow_pos' t
  unfold rhe
  rw [Nat.pow_add, Nat.mul_div_mul_right _ _ hp, Nat.mul_mod_mul_right]
  have h1 : (2 ^ D * 2 ^ t < 2 * (m % 2 ^ D * 2 ^ t)) ↔ (2 ^ D < 2 * (m % 2 ^ D)) := by
    rw [← Nat.mul_assoc]
    exact Nat.mul_lt_mul_right hp
  have h2 : (2 ^ D * 2 ^ t = 2 * (m % 2 ^ D * 2 ^ t)) ↔ (2 ^ D = 2 * (m % 2 ^ D)) := by
    rw [← Nat.mul_assoc]
    exact Nat.mul_right_cancel_iff hp
  simp only [h1, h2]
theorem log2_scale (m t : Nat) (hm : m ≠ 0) : (m * 2 ^ t).log2 = m.log2 + t := by
  have hp := pow_pos' t
  obtain ⟨h1, h2⟩ := log_bounds m hm
  rw [Nat.log2_eq_iff (Nat.mul_ne_zero hm (by omega))]
  constructor
  · rw [Nat.pow_add]; exact Nat.mul_le_mul_right _ h1
  · rw [show m.log2 + t + 1 = (m.log2 + 1) + t by omega, Nat.pow_add]; exact Nat.mul_lt_mul_of_pos_right h2 hp
theorem rung_scale (m t : Nat) (e : Int) : rung (m * 2 ^ t) (e - t) = rung m e := by
  by_cases hm : m = 0
  · subst hm; simp [rung]
  have hp := pow_pos' t
  rw [rung_eq m e hm, rung_eq _ _ (Nat.mul_ne_zero hm (by omega))]
  have hL : lastP (m * 2 ^ t) (e - t) = lastP m e := by
    unfold lastP
    rw [log2_scale m t hm]
    congr 1
    omega
  rw [hL]
  obtain ⟨L, hl⟩ : ∃ L, lastP m e = L := ⟨_, rfl⟩
  rw [hl]
  have hk : keptQ (m * 2 ^ t) (e - t) L = keptQ m e L := by
    unfold keptQ
    by_cases c1 : L ≤ e - t
    · rw [show (L - (e - t)).toNat = 0 by omega, show (L - e).toNat = 0 by omega, rhe_zero, rhe_zero, Nat.shiftLeft_eq, Nat.shiftLeft_eq, Nat.mul_assoc, ← Nat.pow_add]
      congr 2
      omega
    · rw [show (e - t - L).toNat = 0 by omega, Nat.shiftLeft_zero]
      by_cases c2 : L ≤ e
      · rw [show (L - e).toNat = 0 by omega, rhe_zero, Nat.shiftLeft_eq]
        obtain ⟨s, hs⟩ : ∃ s, (L - (e - t)).toNat = s := ⟨_, rfl⟩
        rw [hs, show t = (e - L).toNat + s by omega, Nat.pow_add, ← Nat.mul_assoc, rhe_exact]
      · rw [show (e - L).toNat = 0 by omega, Nat.shiftLeft_zero, show (L - (e - t)).toNat = (L - e).toNat + t by omega, rhe_scale]
  rw [hk]
/-- Where something is lost below, an odd last digit tells of it as well. -/
theorem rhe_stick (X M D k : Nat) (hX : X % 2 = 1) (hD : 2 ≤ D) (h1 : (X - 1) * 2 ^ k < M) (h2 : M < (X + 1) * 2 ^ k) : rhe M (D + k) = rhe X D := by
  have hp := pow_pos' k
  have hD2 : 2 ^ D = 2 * 2 ^ (D - 1) := pow_half D (by omega)
  have hD3 : 2 ^ (D - 1) = 2 * 2 ^ (D - 1 - 1) := pow_half (D - 1) (by omega)
  obtain ⟨H, hH⟩ : ∃ H, 2 ^ (D - 1) = H := ⟨_, rfl⟩
  obtain ⟨P, hP⟩ : ∃ P, 2 ^ k = P := ⟨_, rfl⟩
  have hHp : 0 < H := by rw [← hH]; exact pow_pos' _
  rw [hH] at hD2 hD3
  rw [hP] at h1 h2 hp
  have hdm := Nat.div_add_mod X (2 * H)
  have hmod : X % (2 * H) < 2 * H := Nat.mod_lt _ (by omega)
  unfold rhe
  rw [Nat.pow_add, hD2, hP]
  obtain ⟨Q, hQ⟩ : ∃ Q, X / (2 * H) = Q := ⟨_, rfl⟩
  obtain ⟨R, hR⟩ : ∃ R, X % (2 * H) = R := ⟨_, rfl⟩
  rw [hQ, hR] at hdm ⊢
  rw [hR] at hmod
  have hHe : H % 2 = 0 := by omega
  -- the rest is odd
  have hRo : R % 2 = 1 := by
    have e1 : 2 * H * Q = 2 * (H * Q) := Nat.mul_assoc _ _ _
    omega
  obtain ⟨T, hT⟩ : ∃ T, H * P = T := ⟨_, rfl⟩
  obtain ⟨RP, hRP⟩ : ∃ RP, R * P = RP := ⟨_, rfl⟩
  have eT : 2 * H * P = 2 * T := by rw [Nat.mul_assoc, hT]
  have eX : X * P = Q * (2 * T) + RP := by rw [← hdm, Nat.add_mul, hRP, ← eT, Nat.mul_comm (2 * H) Q, Nat.mul_assoc]
  have g1 : (X - 1) * P = X * P - P := by rw [Nat.sub_mul, Nat.one_mul]
  have g2 : (X + 1) * P = X * P + P := by rw [Nat.add_mul, Nat.one_mul]
  have gXP : P ≤ X * P := Nat.le_mul_of_pos_left _ (by omega)
  rw [g1] at h1
  rw [g2] at h2
  have r1 : P ≤ RP := by rw [← hRP]; exact Nat.le_mul_of_pos_left _ (by omega)
  have r2 : RP + P ≤ 2 * T := by
    rw [← hRP, ← eT]
    have : (R + 1) * P ≤ 2 * H * P := Nat.mul_le_mul_right _ (by omega)
    rw [Nat.add_mul, Nat.one_mul] at this
    exact this
  obtain ⟨QT, hQT⟩ : ∃ QT, Q * (2 * T) = QT := ⟨_, rfl⟩
  rw [hQT] at eX
  have hTp : 0 < 2 * T := by omega
  obtain ⟨r, hr⟩ : ∃ r, M = r + QT := ⟨M - QT, by omega⟩
  have hr1 : r < 2 * T := by omega
  have hMd : M / (2 * T) = Q := by rw [hr, ← hQT, Nat.add_mul_div_right _ _ hTp, Nat.div_eq_of_lt hr1, Nat.zero_add]
  have hMm : M % (2 * T) = r := by rw [hr, ← hQT, Nat.add_mul_mod_self_right, Nat.mod_eq_of_lt hr1]
  rw [eT, hMd, hMm]
  congr 1
  by_cases c : H < R
  · have : T + P ≤ RP := by
      rw [← hRP, ← hT]
      have : (H + 1) * P ≤ R * P := Nat.mul_le_mul_right _ (by omega)
      rw [Nat.add_mul, Nat.one_mul] at this
      exact this
    rw [if_pos (.inl (by omega)), if_pos (.inl (by omega))]
  · have hne : R ≠ H := by omega
    have : RP + P ≤ T := by
      rw [← hRP, ← hT]
      have : (R + 1) * P ≤ H * P := Nat.mul_le_mul_right _ (by omega)
      rw [Nat.add_mul, Nat.one_mul] at this
      exact this
    rw [if_neg (by omega), if_neg (by omega)]
end Go.Proofs.YteecekhfpfnepaaDoor.Sg
end

section
namespace Go.Proofs.YteecekhfpfnepaaDoor.Sg
set_option linter.unusedVariables false
set_option linter.unusedSimpArgs false
theorem rung_stick2 (X M k : Nat) (q : Int) (hX : X % 2 = 1) (hb : 33554432 ≤ X) (h1 : (X - 1) * 2 ^ k < M) (h2 : M < (X + 1) * 2 ^ k) : rung M q = rung X (q + k) := by
  have hp := pow_pos' k
  have hX0 : X ≠ 0 := by omega
  obtain ⟨b1, b2⟩ := log_bounds X hX0
  have hM0 : M ≠ 0 := by omega
  have hL27 : 25 ≤ X.log2 := by
    have : ¬ X.log2 < 25 := fun h => by
      have := (Nat.log2_lt hX0).1 h
      have e : 2 ^ 25 = 33554432 := by decide
      omega
    omega
  have ev : 2 ^ X.log2 % 2 = 0 := by rw [pow_half _ (by omega)]; omega
  have ev2 : 2 ^ (X.log2 + 1) % 2 = 0 := by rw [pow_half _ (by omega)]; omega
  have hlog : M.log2 = X.log2 + k := by
    rw [Nat.log2_eq_iff hM0]
    have g1 : 2 ^ X.log2 * 2 ^ k ≤ (X - 1) * 2 ^ k := Nat.mul_le_mul_right _ (by omega)
    have g2 : (X + 1) * 2 ^ k ≤ 2 ^ (X.log2 + 1) * 2 ^ k := Nat.mul_le_mul_right _ (by omega)
    rw [← Nat.pow_add] at g1 g2
    rw [show X.log2 + k + 1 = X.log2 + 1 + k by omega]
    omega
  rw [rung_eq M q hM0, rung_eq X _ hX0]
  have hl : lastP M q = lastP X (q + k) := by
    unfold lastP; rw [hlog]; congr 1; omega
  have hlp : lastP X (q + k) = max (q + k + X.log2 - 23) (-149) := rfl
  rw [hl]
  obtain ⟨L, hL⟩ : ∃ L, lastP X (q + k) = L := ⟨_, rfl⟩
  rw [hL] at hlp ⊢
  have hk : keptQ M q L = keptQ X (q + k) L := by
    unfold keptQ
    obtain ⟨D, hD⟩ : ∃ D, (L - (q + k)).toNat = D := ⟨_, rfl⟩
    rw [show (q - L).toNat = 0 by omega, show (q + k - L).toNat = 0 by omega, Nat.shiftLeft_zero, Nat.shiftLeft_zero, hD, show (L - q).toNat = D + k by omega]
    exact rhe_stick X M D k hX (by omega) h1 h2
  rw [hk]
theorem stick_join (X Y d : Nat) (f : Int) (hX : X % 2 = 1) (hb : 33554432 ≤ X) (h1 : (X - 1) * 2 ^ d < Y ∨ (Y % 2 = 1 ∧ (X - 1) * 2 ^ d < Y + 1)) (h2 : Y < (X + 1) * 2 ^ d ∨ (Y % 2 = 1 ∧ Y < (X + 1) * 2 ^ d + 1)) : rung Y f = rung X (f + d) := by
  obtain ⟨z, rfl⟩ : ∃ z, X = 2 * z + 1 := ⟨X / 2, by omega⟩
  have e1 : (2 * z + 1 - 1) * 2 ^ d = 2 * (z * 2 ^ d) := by rw [Nat.add_sub_cancel, Nat.mul_assoc]
  have e2 : (2 * z + 1 + 1) * 2 ^ d = 2 * ((z + 1) * 2 ^ d) := by rw [show 2 * z + 1 + 1 = 2 * (z + 1) by omega, Nat.mul_assoc]
  refine rung_stick2 (2 * z + 1) Y d f hX hb ?_ ?_
  · rw [e1] at h1 ⊢; omega
  · rw [e2] at h2 ⊢; omega
theorem scale_join (X d : Nat) (f : Int) : rung (X * 2 ^ d) f = rung X (f + d) := by
  have := rung_scale X d (f + d)
  rwa [show f + (d : Int) - d = f by omega] at this
/-- One quotient, told twice. -/
theorem join_div (X Y A B C D d : Nat) (f : Int) (hB : 0 < B) (hD : 0 < D) (hrel : A * 2 ^ d * D = C * B) (hX : X * B = A ∨ (X % 2 = 1 ∧ 33554432 ≤ X ∧ (X - 1) * B < A ∧ A < (X + 1) * B))
    (hY : Y * D = C ∨ (Y % 2 = 1 ∧ (Y - 1) * D < C ∧ C < (Y + 1) * D)) : rung Y f = rung X (f + d) := by
  have hp := pow_pos' d
  rcases hX with rfl | ⟨x1, x2, x3, x4⟩
  · have hC : C = X * 2 ^ d * D := by
      apply Nat.eq_of_mul_eq_mul_right hB
      rw [← hrel]
      simp only [Nat.mul_assoc, Nat.mul_comm B, Nat.mul_left_comm B]
    subst hC
    have hy : Y = X * 2 ^ d := by
      rcases hY with h | ⟨_, h1, h2⟩
      · exact Nat.eq_of_mul_eq_mul_right hD h
      · have g1 := Nat.lt_of_mul_lt_mul_right h1
        have g2 := Nat.lt_of_mul_lt_mul_right h2
        omega
    rw [hy, scale_join]
  · have l1 : (X - 1) * 2 ^ d * D < C := by
      apply Nat.lt_of_mul_lt_mul_right (a := B)
      rw [← hrel, show (X - 1) * 2 ^ d * D * B = ((X - 1) * B) * (2 ^ d * D) by simp only [Nat.mul_assoc, Nat.mul_comm B, Nat.mul_left_comm B], Nat.mul_assoc A]
      exact Nat.mul_lt_mul_of_pos_right x3 (Nat.mul_pos hp hD)
    have l2 : C < (X + 1) * 2 ^ d * D := by
      apply Nat.lt_of_mul_lt_mul_right (a := B)
      rw [← hrel, show (X + 1) * 2 ^ d * D * B = ((X + 1) * B) * (2 ^ d * D) by simp only [Nat.mul_assoc, Nat.mul_comm B, Nat.mul_left_comm B], Nat.mul_assoc A]
      exact Nat.mul_lt_mul_of_pos_right x4 (Nat.mul_pos hp hD)
    rcases hY with rfl | ⟨y1, y2, y3⟩
    · exact stick_join X Y d f x1 x2 (.inl (Nat.lt_of_mul_lt_mul_right l1)) (.inl (Nat.lt_of_mul_lt_mul_right l2))
    · have g1 := Nat.lt_of_mul_lt_mul_right (Nat.lt_trans l1 y3)
      have g2 := Nat.lt_of_mul_lt_mul_right (Nat.lt_trans y2 l2)
      exact stick_join X Y d f x1 x2 (.inr ⟨y1, g1⟩) (.inr ⟨y1, by omega⟩)
end Go.Proofs.YteecekhfpfnepaaDoor.Sg
end

section
namespace Go.Proofs.YteecekhfpfnepaaDoor.Tx
open Go.RowKit Go.Proofs.YteecekhfpfnepaaDoor.PAll Go.Proofs.YteecekhfpfnepaaDoor.Nums Go.Proofs.YteecekhfpfnepaaDoorW.PrintWords Go.Proofs.YteecekhfpfnepaaDoorW.PrintLast Go.Proofs.YteecekhfpfnepaaDoorW.PrintMore
open Go.Proofs.YteecekhfpfnepaaDoor.Sg (NR near_some rung join_div scale_join)
set_option linter.unusedVariables false
set_option linter.unusedSimpArgs false
theorem ori64 {s a c : Nat} (hc : c < 2 ^ s) (h : 2 ^ s * a + c < 9223372036854775808) : Go.bits .or .i64 ((2 ^ s * a : Nat) : Int) (c : Int) = ((2 ^ s * a + c : Nat) : Int) := by
  show IntKind.i64.wrap ((BitVec.ofInt 64 ((2 ^ s * a : Nat) : Int) ||| BitVec.ofInt 64 (c : Int)).toNat : Int) = _
  rw [BitVec.toNat_or, BitVec.ofInt_natCast, BitVec.ofInt_natCast, BitVec.toNat_ofNat, BitVec.toNat_ofNat, Nat.mod_eq_of_lt (by omega), Nat.mod_eq_of_lt (by omega), or_add hc]
  rw [i64_w, wrap_in (by omega) (by omega)]
theorem bl_shift (x n : Nat) (hx : x ≠ 0) : bl (x * 2 ^ n) = bl x + n := by
  have h := bl_mul_add (r := 0) (t := x) (p := n) (Nat.pow_pos (by omega)) (by omega)
  rw [Nat.zero_add, Nat.mul_comm] at h
  omega
theorem wd_len {n k : Nat} (h : bl n ≤ 32 * k) : (dgs 4294967296 n).length ≤ k := by
  rw [dgs_len_le (by omega), show (4294967296 : Nat) = 2 ^ 32 from rfl, ← Nat.pow_mul]
  exact bl_le.mp h
/-- A quotient's digits and whether anything is left. -/
def stk (N D : Nat) : Nat := 2 * (N / D) + if N % D = 0 then 0 else 1
/-- One binary digit more of a quotient. -/
theorem q_step (N T : Nat) (hT : 0 < T) : (N % (T * 2) < T → N % T = N % (T * 2) ∧ N / T = 2 * (N / (T * 2))) ∧ (¬ N % (T * 2) < T → N % T = N % (T * 2) - T ∧ N / T = 2 * (N / (T * 2)) + 1) := by
  have h := Nat.mod_add_div N (T * 2)
  have hl := Nat.mod_lt N (show 0 < T * 2 by omega)
  obtain ⟨r, hr⟩ : ∃ r, N % (T * 2) = r := ⟨_, rfl⟩
  obtain ⟨q, hq⟩ : ∃ q, N / (T * 2) = q := ⟨_, rfl⟩
  rw [hr, hq] at h
  rw [hr] at hl ⊢
  rw [hq]
  have e : N = r + T * (2 * q) := by rw [← h, Nat.mul_assoc]
  constructor
  · intro c
    rw [e, Nat.add_mul_mod_self_left, Nat.add_mul_div_left _ _ hT, Nat.mod_eq_of_lt c, Nat.div_eq_of_lt c]
    exact ⟨rfl, by omega⟩
  · intro c
    have e2 : N = (r - T) + T * (2 * q + 1) := by rw [e, Nat.mul_add, Nat.mul_one]; omega
    rw [e2, Nat.add_mul_mod_self_left, Nat.add_mul_div_left _ _ hT, Nat.mod_eq_of_lt (by omega), Nat.div_eq_of_lt (by omega)]
    exact ⟨rfl, by omega⟩
theorem NR_cast (y : Nat) (hy : y ≠ 0) (e : Int) (h : y < 9223372036854775808) (k : Nat) (hk : 2 ≤ k) : single_Near.f k (y : Int) e = some (NR false y e) := by
  rw [near_some (y : Int) e (by omega) (by omega) k hk, if_neg (by omega), decide_eq_false (by omega)]
  rfl
theorem q_loop (N D : Nat) (e : Int) (hD : D ≠ 0) (hN : bl N ≤ 100000) (hDb : bl D ≤ 100000) (he0 : -1000000 ≤ e) (he1 : e ≤ 1000000) (hq0 : N / D ≠ 0) (hq : N / D < 4398046511104) : ∀ (j : Nat), j ≤ 42 →
    Ev (fun k => single_ratio.l0 k (dgs 4294967296 (N % (D * 2 ^ j))) (dgs 4294967296 D) e ((N / (D * 2 ^ j) : Nat) : Int) ((j : Int) - 1)) (NR false (stk N D) (-e - 1)) := by
  intro j
  induction j with
  | zero =>
    intro hj
    rw [Nat.pow_zero, Nat.mul_one]
    obtain ⟨q, hqq⟩ : ∃ q, N / D = q := ⟨_, rfl⟩
    have hst : stk N D = 2 * q + if N % D = 0 then 0 else 1 := by rw [← hqq]; rfl
    have ew : wrap64 (wrap64 (-e) - 1) = -e - 1 := by rw [wrap_in (a := -e) (by omega) (by omega), wrap_in (by omega) (by omega)]
    have e2 : wrap64 ((q : Int) * 2) = ((2 ^ 1 * q : Nat) : Int) := by rw [wrap_in (by omega) (by omega)]; omega
    have eo := ori64 (s := 1) (a := q) (c := 1) (by omega) (by omega)
    rw [hqq] at hq0 hq ⊢
    by_cases c : N % D = 0
    · rw [if_pos c, Nat.add_zero] at hst
      rw [hst, c, dgs_zero]
      refine ⟨10, fun k hk => ?_⟩
      obtain ⟨k, rfl⟩ : ∃ m, k = m + 1 := ⟨k - 1, by omega⟩
      show single_ratio.l0 (k + 1) _ _ _ _ _ = _
      rw [single_ratio.l0, if_neg (by omega), if_neg (by simp), e2, ew, NR_cast _ (by omega) _ (by omega) _ (by omega)]
      rfl
    · rw [if_neg c] at hst
      have hl := dgs_len_pos (b := 4294967296) (n := N % D) (by omega) c
      rw [hst]
      refine ⟨10, fun k hk => ?_⟩
      obtain ⟨k, rfl⟩ : ∃ m, k = m + 1 := ⟨k - 1, by omega⟩
      show single_ratio.l0 (k + 1) _ _ _ _ _ = _
      rw [single_ratio.l0, if_neg (by omega), if_pos (by omega), e2, ew]
      rw [show ((1 : Nat) : Int) = 1 from rfl] at eo
      rw [eo, NR_cast _ (by omega) _ (by omega) _ (by omega)]
      rfl
  | succ j ih =>
    intro hj
    have hp : 0 < D * 2 ^ j := Nat.mul_pos (by omega) (Nat.pow_pos (by omega))
    obtain ⟨s1, s2⟩ := q_step N (D * 2 ^ j) hp
    have ih := ih (by omega)
    have hle : N / (D * 2 ^ (j + 1)) ≤ N / D := Nat.div_le_div_left (Nat.le_mul_of_pos_right _ (Nat.pow_pos (by omega))) (by omega)
    have hbt : bl (D * 2 ^ j) ≤ 100042 := by rw [bl_shift _ _ hD]; omega
    have hbr : bl (N % (D * 2 ^ (j + 1))) ≤ 100000 := Nat.le_trans (bl_mono (Nat.mod_le _ _)) hN
    have l1 := wd_len (n := D) (k := 4000) (by omega)
    have l2 := wd_len (n := D * 2 ^ j) (k := 4000) (by omega)
    have l3 := wd_len (n := N % (D * 2 ^ (j + 1))) (k := 4000) (by omega)
    have hup := up_ev D j (by omega) (by omega)
    have hls := less_ev (N % (D * 2 ^ (j + 1))) (D * 2 ^ j) (by omega) (by omega)
    rw [Nat.pow_succ, ← Nat.mul_assoc] at l3 hls hle ⊢
    obtain ⟨q, hqq⟩ : ∃ q, N / (D * 2 ^ j * 2) = q := ⟨_, rfl⟩
    rw [hqq] at s1 s2 hle ⊢
    have e2 : wrap64 ((q : Int) * 2) = ((2 ^ 1 * q : Nat) : Int) := by rw [wrap_in (by omega) (by omega)]; omega
    have eo := ori64 (s := 1) (a := q) (c := 1) (by omega) (by omega)
    rw [show ((1 : Nat) : Int) = 1 from rfl] at eo
    have ej : ((j + 1 : Nat) : Int) - 1 = (j : Int) := by omega
    have ew : wrap64 ((j : Int) - 1) = (j : Int) - 1 := wrap_in (by omega) (by omega)
    rw [ej]
    by_cases c : N % (D * 2 ^ j * 2) < D * 2 ^ j
    · obtain ⟨m1, m2⟩ := s1 c
      rw [m1, m2] at ih
      rw [decide_eq_true c] at hls
      have := hup.bind (f := fun k t => (single_wide_less.f k (dgs 4294967296 (N % (D * 2 ^ j * 2))) t).bind fun t198 => (if t198 = true then (single_ratio.l0 k (dgs 4294967296 (N % (D * 2 ^ j * 2))) (dgs 4294967296 D) e (wrap64 ((q : Int) * 2)) (wrap64 ((j : Int) - 1))) else ((single_wide_minus.f k (dgs 4294967296 (N % (D * 2 ^ j * 2))) t).bind fun t199 => (single_ratio.l0 k t199 (dgs 4294967296 D) e (Go.bits .or .i64 (wrap64 ((q : Int) * 2)) 1) (wrap64 ((j : Int) - 1)))))) (hls.bind (by
          refine Ev.congr (fun k => ?_) ih
          rw [if_pos rfl, e2, ew, Nat.pow_one]))
      refine Ev.step (fun k => ?_) this
      rw [single_ratio.l0, if_pos (by omega)]
    · obtain ⟨m1, m2⟩ := s2 c
      rw [m1, m2] at ih
      rw [decide_eq_false c] at hls
      have hmn := minus_ev (N % (D * 2 ^ j * 2)) (D * 2 ^ j) (by omega) (by omega)
      have := hup.bind (f := fun k t => (single_wide_less.f k (dgs 4294967296 (N % (D * 2 ^ j * 2))) t).bind fun t198 => (if t198 = true then (single_ratio.l0 k (dgs 4294967296 (N % (D * 2 ^ j * 2))) (dgs 4294967296 D) e (wrap64 ((q : Int) * 2)) (wrap64 ((j : Int) - 1))) else ((single_wide_minus.f k (dgs 4294967296 (N % (D * 2 ^ j * 2))) t).bind fun t199 => (single_ratio.l0 k t199 (dgs 4294967296 D) e (Go.bits .or .i64 (wrap64 ((q : Int) * 2)) 1) (wrap64 ((j : Int) - 1)))))) (hls.bind (f := fun k t198 => (if t198 = true then (single_ratio.l0 k (dgs 4294967296 (N % (D * 2 ^ j * 2))) (dgs 4294967296 D) e (wrap64 ((q : Int) * 2)) (wrap64 ((j : Int) - 1))) else ((single_wide_minus.f k (dgs 4294967296 (N % (D * 2 ^ j * 2))) (dgs 4294967296 (D * 2 ^ j))).bind fun t199 => (single_ratio.l0 k t199 (dgs 4294967296 D) e (Go.bits .or .i64 (wrap64 ((q : Int) * 2)) 1) (wrap64 ((j : Int) - 1)))))) (by
          have := hmn.bind (f := fun k t199 => (single_ratio.l0 k t199 (dgs 4294967296 D) e (Go.bits .or .i64 (wrap64 ((q : Int) * 2)) 1) (wrap64 ((j : Int) - 1)))) (by
            refine Ev.congr (fun k => ?_) ih
            rw [e2, eo, ew, Nat.pow_one])
          refine Ev.congr (fun k => ?_) this
          rw [if_neg (by decide)]))
      refine Ev.step (fun k => ?_) this
      rw [single_ratio.l0, if_pos (by omega)]
theorem bl_bounds {n : Nat} (h : n ≠ 0) : 2 ^ (bl n - 1) ≤ n ∧ n < 2 ^ bl n ∧ 1 ≤ bl n := by
  have h1 := bl_pos.mpr h
  exact ⟨lt_bl.mp (by omega), bl_le.mp (Nat.le_refl _), h1⟩
theorem quot_bounds (N D : Nat) (hN : N ≠ 0) (hD : D ≠ 0) (h : bl N = bl D + 40) : 549755813888 * D < N ∧ N < 2199023255552 * D := by
  obtain ⟨n1, n2, n3⟩ := bl_bounds hN
  obtain ⟨d1, d2, d3⟩ := bl_bounds hD
  have e1 : 2 ^ (bl N - 1) = 549755813888 * 2 ^ bl D := by rw [show bl N - 1 = 39 + bl D by omega, Nat.pow_add]
  have e2 : 2 ^ bl N = 2199023255552 * 2 ^ (bl D - 1) := by rw [show bl N = 41 + (bl D - 1) by omega, Nat.pow_add]
  rw [e1] at n1
  rw [e2] at n2
  generalize 2 ^ bl D = a at *
  generalize 2 ^ (bl D - 1) = b at *
  omega
theorem ratio_ev (n d : Nat) (hn : n ≠ 0) (hd : d ≠ 0) (bn : bl n ≤ 20000) (bd : bl d ≤ 20000) : ∃ x y : Nat, 549755813888 * (d * 2 ^ y) < n * 2 ^ x ∧ n * 2 ^ x < 2199023255552 * (d * 2 ^ y) ∧
    Ev (fun k => single_ratio.f k (dgs 4294967296 n) (dgs 4294967296 d)) (NR false (stk (n * 2 ^ x) (d * 2 ^ y)) ((y : Int) - x - 1)) := by
  obtain ⟨b, hb⟩ : ∃ b : Int, b = 40 - ((bl n : Int) - bl d) := ⟨_, rfl⟩
  have l1 := wd_len (n := n) (k := 1000) (by omega)
  have l2 := wd_len (n := d) (k := 1000) (by omega)
  have g1 := long_some (n := n) (by omega)
  have g2 := long_some (n := d) (by omega)
  have eb : wrap64 (40 - wrap64 ((bl n : Int) - (bl d : Int))) = b := by rw [wrap_in (a := (bl n : Int) - (bl d : Int)) (by omega) (by omega), wrap_in (by omega) (by omega), hb]
  have main : ∀ x y : Nat, bl n + x = bl d + y + 40 → b = (x : Int) - y → bl n + x ≤ 90000 → 549755813888 * (d * 2 ^ y) < n * 2 ^ x ∧ n * 2 ^ x < 2199023255552 * (d * 2 ^ y) ∧
      Ev (fun k => single_ratio.j0 k (dgs 4294967296 (n * 2 ^ x)) (dgs 4294967296 (d * 2 ^ y)) b) (NR false (stk (n * 2 ^ x) (d * 2 ^ y)) ((y : Int) - x - 1)) := by
    intro x y h1 h2 h3
    have hN : n * 2 ^ x ≠ 0 := Nat.mul_ne_zero hn (by have := Nat.pow_pos (n := x) (show 0 < 2 by omega); omega)
    have hD : d * 2 ^ y ≠ 0 := Nat.mul_ne_zero hd (by have := Nat.pow_pos (n := y) (show 0 < 2 by omega); omega)
    have bN := bl_shift n x hn
    have bD := bl_shift d y hd
    obtain ⟨q1, q2⟩ := quot_bounds _ _ hN hD (by omega)
    refine ⟨q1, q2, ?_⟩
    generalize n * 2 ^ x = N at *
    generalize d * 2 ^ y = D at *
    have d0 : N / D ≠ 0 := by
      have : 549755813888 ≤ N / D := by rw [Nat.le_div_iff_mul_le (by omega)]; omega
      omega
    have d1 : N / D < 4398046511104 := by rw [Nat.div_lt_iff_lt_mul (by omega)]; omega
    have hl := q_loop N D b hD (by omega) (by omega) (by omega) (by omega) d0 d1 42 (by omega)
    rw [Nat.mod_eq_of_lt (by omega), Nat.div_eq_of_lt (by omega)] at hl
    rw [show (y : Int) - x - 1 = -b - 1 by omega]
    refine Ev.step (fun k => ?_) hl
    rw [single_ratio.j0]
    rfl
  by_cases c : b > 0
  · obtain ⟨m1, m2, m3⟩ := main b.toNat 0 (by omega) (by omega) (by omega)
    refine ⟨b.toNat, 0, m1, m2, ?_⟩
    rw [Nat.pow_zero, Nat.mul_one] at m3 ⊢
    have hup := up_ev n b.toNat (by omega) (by omega)
    rw [show (b.toNat : Int) = b by omega] at hup
    have := hup.bind (f := fun k t => single_ratio.j0 k t (dgs 4294967296 d) b) m3
    refine Ev.congr (fun k => ?_) this
    unfold single_ratio.f
    rw [g1, Option.bind_some, g2, Option.bind_some, eb, if_pos c]
  · obtain ⟨m1, m2, m3⟩ := main 0 (-b).toNat (by omega) (by omega) (by omega)
    refine ⟨0, (-b).toNat, m1, m2, ?_⟩
    rw [Nat.pow_zero, Nat.mul_one] at m3 ⊢
    have hup := up_ev d (-b).toNat (by omega) (by omega)
    rw [show ((-b).toNat : Int) = -b by omega] at hup
    have ew : wrap64 (-b) = -b := wrap_in (by omega) (by omega)
    have := hup.bind (f := fun k t => single_ratio.j0 k (dgs 4294967296 n) t b) m3
    refine Ev.congr (fun k => ?_) this
    unfold single_ratio.f
    rw [g1, Option.bind_some, g2, Option.bind_some, eb, if_neg c, ew]
end Go.Proofs.YteecekhfpfnepaaDoor.Tx
end
