/- Texts of this session and printed texts, merged, what is not needed left out: PAllx21, Sq, Bm, Pd. -/
import Derived.Test.YtldbdifdldmgfaaCpD0
import Derived.Test.YtldbdifdldmgfaaCpD1
section
namespace Go.Proofs.Ytldbdifdldmgfaa.PAll
open Go.RowKit Go.Proofs.YtldbdifdldmgfaaW.PrintWords Go.Proofs.YtldbdifdldmgfaaW.PrintLast Go.Proofs.YtldbdifdldmgfaaW.PrintMore
attribute [local go_sem] max2_int min2_int max_two min_two max_three min_three max_four min_four   -- for this text's walks alone
set_option linter.unusedVariables false
set_option linter.unusedSimpArgs false
mutual
def heraldlaw24_exact.l0 : Nat → List (List Int) → List Int → List Int → Int → Int → Int → Int → Int → List (List Int) → List (List Int) → Option (Bool)
  | 0, _, _, _, _, _, _, _, _, _, _ => none
  | k + 1, x0, x1, x3, x4, x5, x13, x22, x23, x426000, x426001 => if x23 < x22 then (heraldlaw24_exact.l0 k x0 x1 x3 x4 x5 (wrap64 (x13 * x5)) x22 (wrap64 (x23 + 1)) x426000 x426001) else (heraldlaw24_exact.l1 k x0 x1 x3 x5 x13 0 (wrap64 (x4 * x13)) (x3.length : Int) 0 x426000 x426001)
def heraldlaw24_exact.l1 : Nat → List (List Int) → List Int → List Int → Int → Int → Int → Int → Int → Int → List (List Int) → List (List Int) → Option (Bool)
  | 0, _, _, _, _, _, _, _, _, _, _, _ => none
  | k + 1, x0, x1, x3, x5, x13, x14, x15, x33, x34, x426000, x426001 => if x34 < x33 then (if x5 = 0 then (none) else (if 0 ≤ x34 then (if x34 < (x426000.length : Int) then (if x34 < (x3.length : Int) then (if 0 ≤ (rd x3 x34) then (if (rd x3 x34) < ((rd_L1 x426000 x34).length : Int) then (heraldlaw24_exact.l1 k x0 x1 x3 x5 x13 x14 (wrap64 ((wrap64 (Int.tdiv x15 x5)) * (rd (rd_L1 x426000 x34) (rd x3 x34)))) x33 (wrap64 (x34 + 1)) x426000 x426001) else (none)) else (none)) else (none)) else (none)) else (none))) else (heraldlaw24_exact.l2 k x1 x3 x5 x13 x14 x15 x0 (x0.length : Int) 0 x426000 x426001)
def heraldlaw24_exact.l2 : Nat → List Int → List Int → Int → Int → Int → Int → List (List Int) → Int → Int → List (List Int) → List (List Int) → Option (Bool)
  | 0, _, _, _, _, _, _, _, _, _, _, _ => none
  | k + 1, x1, x3, x5, x13, x14, x15, x53, x54, x55, x426000, x426001 => if x55 < x54 then (if 0 ≤ x55 then (if x55 < (x53.length : Int) then (if ((rd_L4 x53 x55).length : Int) ≥ (x3.length : Int) then (if 0 ≤ (x3.length : Int) then (if (x3.length : Int) ≤ ((rd_L4 x53 x55).length : Int) then ((heraldlaw24_alike.f k ((rd_L4 x53 x55).take ((x3.length : Int) : Int).toNat) x3).bind fun t431 => (heraldlaw24_exact.j3 k x1 x3 x5 x13 x14 x15 x55 (rd_L4 x53 x55) x53 x54 x55 t431 x426000 x426001)) else (none)) else (none)) else (heraldlaw24_exact.j3 k x1 x3 x5 x13 x14 x15 x55 (rd_L4 x53 x55) x53 x54 x55 false x426000 x426001)) else (none)) else (none)) else (some (x14 == x15))
def heraldlaw24_exact.j3 : Nat → List Int → List Int → Int → Int → Int → Int → Int → List Int → List (List Int) → Int → Int → Bool → List (List Int) → List (List Int) → Option (Bool)
  | 0, _, _, _, _, _, _, _, _, _, _, _, _, _, _ => none
  | k + 1, x1, x3, x5, x13, x14, x15, x17, x18, x53, x54, x55, x72, x426000, x426001 => if x72 = true then (if 0 ≤ x17 then (if x17 < (x1.length : Int) then (heraldlaw24_exact.j4 k x1 x3 x5 x13 (wrap64 (x14 + (wrap64 ((rd x1 x17) * x13)))) x15 x17 x18 x53 x54 x55 x426000 x426001) else (none)) else (none)) else (heraldlaw24_exact.j4 k x1 x3 x5 x13 x14 x15 x17 x18 x53 x54 x55 x426000 x426001)
def heraldlaw24_exact.j4 : Nat → List Int → List Int → Int → Int → Int → Int → Int → List Int → List (List Int) → Int → Int → List (List Int) → List (List Int) → Option (Bool)
  | 0, _, _, _, _, _, _, _, _, _, _, _, _, _ => none
  | k + 1, x1, x3, x5, x13, x14, x15, x17, x18, x53, x54, x55, x426000, x426001 => if (x18.length : Int) < (x3.length : Int) then (if 0 ≤ (x18.length : Int) then (if (x18.length : Int) ≤ (x3.length : Int) then ((heraldlaw24_alike.f k x18 (x3.take ((x18.length : Int) : Int).toNat)).bind fun t434 => (heraldlaw24_exact.j5 k x1 x3 x5 x13 x14 x15 x17 x18 x53 x54 x55 t434 x426000 x426001)) else (none)) else (none)) else (heraldlaw24_exact.j5 k x1 x3 x5 x13 x14 x15 x17 x18 x53 x54 x55 false x426000 x426001)
def heraldlaw24_exact.j5 : Nat → List Int → List Int → Int → Int → Int → Int → Int → List Int → List (List Int) → Int → Int → Bool → List (List Int) → List (List Int) → Option (Bool)
  | 0, _, _, _, _, _, _, _, _, _, _, _, _, _, _ => none
  | k + 1, x1, x3, x5, x13, x14, x15, x17, x18, x53, x54, x55, x93, x426000, x426001 => if x93 = true then (if 0 ≤ x17 then (if x17 < (x1.length : Int) then (heraldlaw24_exact.l3 k x1 x3 x5 x13 x14 x15 (wrap64 ((rd x1 x17) * x13)) (x18.length : Int) x53 x54 x55 x426000 x426001) else (none)) else (none)) else (heraldlaw24_exact.l2 k x1 x3 x5 x13 x14 x15 x53 x54 (wrap64 (x55 + 1)) x426000 x426001)
def heraldlaw24_exact.l3 : Nat → List Int → List Int → Int → Int → Int → Int → Int → Int → List (List Int) → Int → Int → List (List Int) → List (List Int) → Option (Bool)
  | 0, _, _, _, _, _, _, _, _, _, _, _, _, _ => none
  | k + 1, x1, x3, x5, x13, x14, x15, x19, x20, x53, x54, x55, x426000, x426001 => if x20 < (x3.length : Int) then (if x5 = 0 then (none) else (if 0 ≤ x20 then (if x20 < (x426000.length : Int) then (if 0 ≤ (rd x3 x20) then (if (rd x3 x20) < ((rd_L1 x426000 x20).length : Int) then (heraldlaw24_exact.l3 k x1 x3 x5 x13 x14 x15 (wrap64 ((wrap64 (Int.tdiv x19 x5)) * (rd (rd_L1 x426000 x20) (rd x3 x20)))) (wrap64 (x20 + 1)) x53 x54 x55 x426000 x426001) else (none)) else (none)) else (none)) else (none))) else (heraldlaw24_exact.l2 k x1 x3 x5 x13 (wrap64 (x14 + x19)) x15 x53 x54 (wrap64 (x55 + 1)) x426000 x426001)
end
def heraldlaw24_exact.f (k : Nat) (l0 : List (List Int)) (l1 : List Int) (l2_0 : List (List Int)) (l2_1 : List (List Int)) (l3 : List Int) (a4 : Int) (a5 : Int) : Option (Bool) := heraldlaw24_exact.l0 k l0 l1 l3 a4 a5 1 (l3.length : Int) 0 l2_0 l2_1
set_option maxHeartbeats 8000000 in
set_option maxRecDepth 100000 in
theorem heraldlaw24_exact.calls (k : Nat) (A0 : Option Addr) (c0 : Nat) (l0 : List (List Int)) (A1 : Option Addr) (c1 : Nat) (l1 : List Int) (A2_0 : Option Addr) (c2_0 : Nat) (l2_0 : List (List Int)) (A2_1 : Option Addr) (c2_1 : Nat) (l2_1 : List (List Int)) (A3 : Option Addr) (c3 : Nat) (l3 : List Int) (a4 : Int) (a5 : Int) (r : Bool) (w : World) (hr0 : Kd.C (Kd.slice 3 (Kd.int .i64)) w A0 l0.length l0) (hc0 : l0.length ≤ c0) (hr1 : Kd.C (Kd.int .i64) w A1 l1.length l1) (hc1 : l1.length ≤ c1) (hr2_0 : Kd.C (Kd.slice 2 (Kd.int .i64)) w A2_0 l2_0.length l2_0) (hc2_0 : l2_0.length ≤ c2_0) (hr2_1 : Kd.C (Kd.slice 2 (Kd.int .i64)) w A2_1 l2_1.length l2_1) (hc2_1 : l2_1.length ≤ c2_1) (hr3 : Kd.C (Kd.int .i64) w A3 l3.length l3) (hc3 : l3.length ≤ c3) (h : heraldlaw24_exact.f k l0 l1 l2_0 l2_1 l3 a4 a5 = some r) :
    Calls Try.prog 34 #[.slice A0 l0.length c0, .slice A1 l1.length c1, .agg #[.slice A2_0 l2_0.length c2_0, .slice A2_1 l2_1.length c2_1], .slice A3 l3.length c3, .int .i64 a4, .int .i64 a5] w fun e w' => e = .returned (.bool r) ∧ Below w.heap.size w w' := by
  have hu59 := Try.underlying59
  have HR0 := Aside0.mk hr0
  have HC0 := Aside0.mk hc0
  clear hr0 hc0
  have HR1 := Aside0.mk hr1
  have HC1 := Aside0.mk hc1
  clear hr1 hc1
  have HR2_0 := Aside0.mk hr2_0
  have HC2_0 := Aside0.mk hc2_0
  clear hr2_0 hc2_0
  have HR2_1 := Aside0.mk hr2_1
  have HC2_1 := Aside0.mk hc2_1
  clear hr2_1 hc2_1
  have HR3 := Aside0.mk hr3
  have HC3 := Aside0.mk hc3
  clear hr3 hc3
  have HB := Aside0.mk (Below.refl w.heap.size w)
  have H : (heraldlaw24_exact.l0 k l0 l1 l3 a4 a5 1 (l3.length : Int) 0 l2_0 l2_1) = some r := h
  clear h
  have H' := Aside0.mk H
  clear H
  go_enter Try.func34, Try.ntmps34
  go_wp2_with (first | ((with_reducible refine gate_dst (N := 8) rfl ?_); (try (refine gate_guard (by rfl) ?_; dsimp only)); refine box_event ?hg (N := 8) ?hd (cs := #[.slice A2_0 l2_0.length c2_0, .slice A2_1 l2_1.length c2_1]) (t := 59) ?hr ?_; (case hd => rfl); (case hg => rfl); (case hr => first | (go_simp; done) | (go_simp; rfl)); intro gb425 hg w7 hbox hb; have n0_ := Aside0.mk (below_step (by repeat (first | (with_reducible first | exact HB.out | apply below_alloc | apply pw_below_drewN | apply below_drew1) | exact HB.out)) hb); have n1_ := Aside0.mk (hbox); have n2_ := Aside0.mk ((by rw [hg]; exact (below_size (by repeat (first | (with_reducible first | exact HB.out | apply below_alloc | apply pw_below_drewN | apply below_drew1) | exact HB.out))) : w.heap.size ≤ gb425)); have n3_ := Aside0.mk ((by rw [hg]; exact (below_size (by repeat (first | (with_reducible first | exact HB.out | apply below_alloc | apply pw_below_drewN | apply below_drew1) | exact HB.out))) : w.heap.size ≤ gb425)); clear HB; have HB := n0_; have BK425 := n1_; have GW425 := n2_; have GE425 := n3_; clear n0_ n1_ n2_ n3_; clear hb hbox hg))
  repeat (go_quiet (first | ((with_reducible refine gate_dst (N := 8) rfl ?_); (try (refine gate_guard (by rfl) ?_; dsimp only)); refine box_event ?hg (N := 8) ?hd (cs := #[.slice A2_0 l2_0.length c2_0, .slice A2_1 l2_1.length c2_1]) (t := 59) ?hr ?_; (case hd => rfl); (case hg => rfl); (case hr => first | (go_simp; done) | (go_simp; rfl)); intro gb425 hg w7 hbox hb; have n0_ := Aside0.mk (below_step (by repeat (first | (with_reducible first | exact HB.out | apply below_alloc | apply pw_below_drewN | apply below_drew1) | exact HB.out)) hb); have n1_ := Aside0.mk (hbox); have n2_ := Aside0.mk ((by rw [hg]; exact (below_size (by repeat (first | (with_reducible first | exact HB.out | apply below_alloc | apply pw_below_drewN | apply below_drew1) | exact HB.out))) : w.heap.size ≤ gb425)); have n3_ := Aside0.mk ((by rw [hg]; exact (below_size (by repeat (first | (with_reducible first | exact HB.out | apply below_alloc | apply pw_below_drewN | apply below_drew1) | exact HB.out))) : w.heap.size ≤ gb425)); clear HB; have HB := n0_; have BK425 := n1_; have GW425 := n2_; have GE425 := n3_; clear n0_ n1_ n2_ n3_; clear hb hbox hg)); try go_wp2_with (first | ((with_reducible refine gate_dst (N := 8) rfl ?_); (try (refine gate_guard (by rfl) ?_; dsimp only)); refine box_event ?hg (N := 8) ?hd (cs := #[.slice A2_0 l2_0.length c2_0, .slice A2_1 l2_1.length c2_1]) (t := 59) ?hr ?_; (case hd => rfl); (case hg => rfl); (case hr => first | (go_simp; done) | (go_simp; rfl)); intro gb425 hg w7 hbox hb; have n0_ := Aside0.mk (below_step (by repeat (first | (with_reducible first | exact HB.out | apply below_alloc | apply pw_below_drewN | apply below_drew1) | exact HB.out)) hb); have n1_ := Aside0.mk (hbox); have n2_ := Aside0.mk ((by rw [hg]; exact (below_size (by repeat (first | (with_reducible first | exact HB.out | apply below_alloc | apply pw_below_drewN | apply below_drew1) | exact HB.out))) : w.heap.size ≤ gb425)); have n3_ := Aside0.mk ((by rw [hg]; exact (below_size (by repeat (first | (with_reducible first | exact HB.out | apply below_alloc | apply pw_below_drewN | apply below_drew1) | exact HB.out))) : w.heap.size ≤ gb425)); clear HB; have HB := n0_; have BK425 := n1_; have GW425 := n2_; have GE425 := n3_; clear n0_ n1_ n2_ n3_; clear hb hbox hg)))
  go_loopg [13, 23] k (fun kq v13 v23 w' => ∃ (x13_1 : Int) (x23_1 : Int), v13 = .int .i64 x13_1 ∧ v23 = .int .i64 x23_1 ∧ Aside0 (heraldlaw24_exact.l0 kq l0 l1 l3 a4 a5 x13_1 (l3.length : Int) x23_1 l2_0 l2_1 = some r) ∧ Aside0 (kq ≤ k) ∧ Aside0 (w'.heap[gb425]? = some (.cells #[(.slice A2_0 l2_0.length c2_0), (.slice A2_1 l2_1.length c2_1)] 59 (0, 0))) ∧ Aside0 (Below w.heap.size w w'))
  case atStart => exact ⟨(1), (0), (by first | rfl | (simp; done) | (simp [*]; done) | (simp [i64_w]; done) | (simp [*, i64_w]; done)), (by first | rfl | (simp; done) | (simp [*]; done) | (simp [i64_w]; done) | (simp [*, i64_w]; done)), H', ⟨Nat.le_refl _⟩, ⟨by (with_reducible repeat (first | refine blk_drewN ?_ _ | refine blk_drew ?_ | refine blk_alloc ?_ _)); exact BK425.out⟩, ⟨by repeat (first | (with_reducible first | exact HB.out | apply below_alloc | apply pw_below_drewN | apply below_drew1 | refine below_set ?_ GE425.out) | exact HB.out)⟩⟩
  case round =>
    clear H'
    try clear c1
    try clear c2
    try clear p2
    try clear c3
    obtain ⟨x13_1, x23_1, rfl, rfl, HA, HK1, BK425, HB⟩ := hrel
    cases gk with
    | zero => exact absurd HA.out (by simp [heraldlaw24_exact.l0])
    | succ k1 =>
      have H := HA.out
      clear HA
      simp only [heraldlaw24_exact.l0] at H
      by_cases c8 : x23_1 < (l3.length : Int)
      · rw [if_pos c8] at H
        have c8b0 : decide (x23_1 < (l3.length : Int)) = true := decide_eq_true c8
        clear c8
        have H' := Aside0.mk H
        clear H
        go_wp2
        repeat (go_quiet (fail); try go_wp2)
        go_roundg k1
        case measure => have := HK1.out; omega
        case rel => exact ⟨(wrap64 (x13_1 * a5)), (wrap64 (x23_1 + 1)), (by first | rfl | (simp; done) | (simp [*]; done) | (simp [i64_w]; done) | (simp [*, i64_w]; done)), (by first | rfl | (simp; done) | (simp [*]; done) | (simp [i64_w]; done) | (simp [*, i64_w]; done)), H', ⟨by have := HK1.out; omega⟩, ⟨by (with_reducible repeat (first | refine blk_drewN ?_ _ | refine blk_drew ?_ | refine blk_alloc ?_ _)); exact BK425.out⟩, ⟨by repeat (first | (with_reducible first | exact HB.out | apply below_alloc | apply pw_below_drewN | apply below_drew1 | refine below_set ?_ GE425.out) | exact HB.out)⟩⟩
      · rw [if_neg c8] at H
        have c8b0 : decide (x23_1 < (l3.length : Int)) = false := decide_eq_false c8
        clear c8
        have H' := Aside0.mk H
        clear H
        go_wp2
        repeat (go_quiet (fail); try go_wp2)
        go_loopg [15, 34] k1 (fun kq v15 v34 w' => ∃ (x15_2 : Int) (x34_2 : Int), v15 = .int .i64 x15_2 ∧ v34 = .int .i64 x34_2 ∧ Aside0 (heraldlaw24_exact.l1 kq l0 l1 l3 a5 x13_1 0 x15_2 (l3.length : Int) x34_2 l2_0 l2_1 = some r) ∧ Aside0 (kq ≤ k1) ∧ Aside0 (w'.heap[gb425]? = some (.cells #[(.slice A2_0 l2_0.length c2_0), (.slice A2_1 l2_1.length c2_1)] 59 (0, 0))) ∧ Aside0 (Below w.heap.size w w'))
        case atStart => exact ⟨(wrap64 (a4 * x13_1)), (0), (by first | rfl | (simp; done) | (simp [*]; done) | (simp [i64_w]; done) | (simp [*, i64_w]; done)), (by first | rfl | (simp; done) | (simp [*]; done) | (simp [i64_w]; done) | (simp [*, i64_w]; done)), H', ⟨Nat.le_refl _⟩, ⟨by (with_reducible repeat (first | refine blk_drewN ?_ _ | refine blk_drew ?_ | refine blk_alloc ?_ _)); exact BK425.out⟩, ⟨by repeat (first | (with_reducible first | exact HB.out | apply below_alloc | apply pw_below_drewN | apply below_drew1 | refine below_set ?_ GE425.out) | exact HB.out)⟩⟩
        case round =>
          clear H'
          try clear c1
          try clear c2
          try clear p2
          try clear c3
          try clear p6
          try clear c8
          try clear c8b0
          try clear p2
          obtain ⟨x15_2, x34_2, rfl, rfl, HA, HK2, BK425, HB⟩ := hrel
          cases gk with
          | zero => exact absurd HA.out (by simp [heraldlaw24_exact.l1])
          | succ k2 =>
            have H := HA.out
            clear HA
            simp only [heraldlaw24_exact.l1] at H
            by_cases c9 : x34_2 < (l3.length : Int)
            · rw [if_pos c9] at H
              have c9b0 : decide (x34_2 < (l3.length : Int)) = true := decide_eq_true c9
              clear c9
              by_cases c10 : a5 = 0
              · rw [if_pos c10] at H
                exact absurd H (by simp)
              · rw [if_neg c10] at H
                have c10b0 : (a5 == 0) = false := beq_eq_false_iff_ne.mpr c10
                have c10b1 : (a5 != 0) = true := bne_iff_ne.mpr c10
                by_cases c11 : 0 ≤ x34_2
                · rw [if_pos c11] at H
                  have c11b0 : decide (0 ≤ x34_2) = true := decide_eq_true c11
                  clear c11
                  by_cases c12 : x34_2 < (l2_0.length : Int)
                  · rw [if_pos c12] at H
                    have c12b0 : decide (x34_2 < (l2_0.length : Int)) = true := decide_eq_true c12
                    clear c12
                    by_cases c13 : x34_2 < (l3.length : Int)
                    · rw [if_pos c13] at H
                      have c13b0 : decide (x34_2 < (l3.length : Int)) = true := decide_eq_true c13
                      clear c13
                      by_cases c14 : 0 ≤ (rd l3 x34_2)
                      · rw [if_pos c14] at H
                        have c14b0 : decide (0 ≤ (rd l3 x34_2)) = true := decide_eq_true c14
                        clear c14
                        by_cases c15 : (rd l3 x34_2) < ((rd_L1 l2_0 x34_2).length : Int)
                        · rw [if_pos c15] at H
                          have c15b0 : decide ((rd l3 x34_2) < ((rd_L1 l2_0 x34_2).length : Int)) = true := decide_eq_true c15
                          clear c15
                          have H' := Aside0.mk H
                          clear H
                          have hcz16_0 : wr.cell? ⟨gb425, 0, none⟩ = some (.slice A2_0 l2_0.length c2_0) := (blk_cell BK425.out 0).trans rfl
                          have hcz16_1 : wr.cell? ⟨gb425, 1, none⟩ = some (.slice A2_1 l2_1.length c2_1) := (blk_cell BK425.out 1).trans rfl
                          have hfz16_0 := blk_frozen BK425.out 0
                          have hfz16_1 := blk_frozen BK425.out 1
                          have p426 : 0 ≤ (x34_2 : Int) := of_decide_eq_true (by first | (with_reducible assumption) | assumption)
                          have q426 : x34_2 < (l2_0.length : Int) := of_decide_eq_true (by first | (with_reducible assumption) | assumption)
                          obtain ⟨ad426, A426_0, c426_0, e426, hx426_0, hl426_0, hi426_0⟩ := at_L1 HR2_0.out x34_2 p426 q426
                          cases e426
                          replace hx426_0 := (HB.out.cell (World.block_lt_of_cell? w _ hx426_0)).trans hx426_0
                          have HR426_0 := Aside0.mk hi426_0
                          have HC426_0 := Aside0.mk hl426_0
                          clear hi426_0 hl426_0
                          replace p426 := eq_true p426
                          replace q426 := eq_true q426
                          have p427 : 0 ≤ (x34_2 : Int) := of_decide_eq_true (by first | (with_reducible assumption) | assumption)
                          have q427 : x34_2 < (l3.length : Int) := of_decide_eq_true (by first | (with_reducible assumption) | assumption)
                          obtain ⟨ad427, e427, hx427_0⟩ := Kd.at_int HR3.out x34_2 p427 q427
                          cases e427
                          replace hx427_0 := (HB.out.cell (World.block_lt_of_cell? w _ hx427_0)).trans hx427_0
                          replace p427 := eq_true p427
                          replace q427 := eq_true q427
                          have p428 : 0 ≤ ((rd l3 x34_2) : Int) := of_decide_eq_true (by first | (with_reducible assumption) | assumption)
                          have q428 : (rd l3 x34_2) < ((rd_L1 l2_0 x34_2).length : Int) := of_decide_eq_true (by first | (with_reducible assumption) | assumption)
                          obtain ⟨ad428, e428, hx428_0⟩ := Kd.at_int HR426_0.out (rd l3 x34_2) p428 q428
                          cases e428
                          replace hx428_0 := (HB.out.cell (World.block_lt_of_cell? w _ hx428_0)).trans hx428_0
                          replace p428 := eq_true p428
                          replace q428 := eq_true q428
                          go_wp2
                          repeat (go_quiet (fail); try go_wp2)
                          go_roundg k2
                          case measure => have := HK1.out; have := HK2.out; omega
                          case rel => exact ⟨(wrap64 ((wrap64 (Int.tdiv x15_2 a5)) * (rd (rd_L1 l2_0 x34_2) (rd l3 x34_2)))), (wrap64 (x34_2 + 1)), (by first | rfl | (simp; done) | (simp [*]; done) | (simp [i64_w]; done) | (simp [*, i64_w]; done)), (by first | rfl | (simp; done) | (simp [*]; done) | (simp [i64_w]; done) | (simp [*, i64_w]; done)), H', ⟨by have := HK1.out; have := HK2.out; omega⟩, ⟨by (with_reducible repeat (first | refine blk_drewN ?_ _ | refine blk_drew ?_ | refine blk_alloc ?_ _)); exact BK425.out⟩, ⟨by repeat (first | (with_reducible first | exact HB.out | apply below_alloc | apply pw_below_drewN | apply below_drew1 | refine below_set ?_ GE425.out) | exact HB.out)⟩⟩
                        · rw [if_neg c15] at H
                          exact absurd H (by simp)
                      · rw [if_neg c14] at H
                        exact absurd H (by simp)
                    · rw [if_neg c13] at H
                      exact absurd H (by simp)
                  · rw [if_neg c12] at H
                    exact absurd H (by simp)
                · rw [if_neg c11] at H
                  exact absurd H (by simp)
            · rw [if_neg c9] at H
              have c9b0 : decide (x34_2 < (l3.length : Int)) = false := decide_eq_false c9
              clear c9
              have H' := Aside0.mk H
              clear H
              go_wp2
              repeat (go_quiet (fail); try go_wp2)
              go_loopg [14, 55] k2 (fun kq v14 v55 w' => ∃ (x14_3 : Int) (x55_3 : Int), v14 = .int .i64 x14_3 ∧ v55 = .int .i64 x55_3 ∧ Aside0 (heraldlaw24_exact.l2 kq l1 l3 a5 x13_1 x14_3 x15_2 l0 (l0.length : Int) x55_3 l2_0 l2_1 = some r) ∧ Aside0 (kq ≤ k2) ∧ Aside0 (w'.heap[gb425]? = some (.cells #[(.slice A2_0 l2_0.length c2_0), (.slice A2_1 l2_1.length c2_1)] 59 (0, 0))) ∧ Aside0 (Below w.heap.size w w'))
              case atStart => exact ⟨(0), (0), (by first | rfl | (simp; done) | (simp [*]; done) | (simp [i64_w]; done) | (simp [*, i64_w]; done)), (by first | rfl | (simp; done) | (simp [*]; done) | (simp [i64_w]; done) | (simp [*, i64_w]; done)), H', ⟨Nat.le_refl _⟩, ⟨by (with_reducible repeat (first | refine blk_drewN ?_ _ | refine blk_drew ?_ | refine blk_alloc ?_ _)); exact BK425.out⟩, ⟨by repeat (first | (with_reducible first | exact HB.out | apply below_alloc | apply pw_below_drewN | apply below_drew1 | refine below_set ?_ GE425.out) | exact HB.out)⟩⟩
              case round =>
                clear H'
                try clear c1
                try clear c2
                try clear p2
                try clear c3
                try clear c4
                try clear p4
                try clear q4
                try clear hx4
                try clear p6
                try clear c8
                try clear c8b0
                try clear c9
                try clear c9b0
                try clear c10
                try clear c10b0
                try clear c10b1
                try clear c11
                try clear c11b0
                try clear c12
                try clear c12b0
                try clear c13
                try clear c13b0
                try clear c14
                try clear c14b0
                try clear c15
                try clear c15b0
                try clear hcz16_0
                try clear hcz16_1
                try clear hfz16_0
                try clear hfz16_1
                try clear hx426_0
                try clear hx427_0
                try clear hx428_0
                try clear p2
                try clear p426
                try clear p427
                try clear p428
                try clear p6
                try clear q426
                try clear q427
                try clear q428
                obtain ⟨x14_3, x55_3, rfl, rfl, HA, HK3, BK425, HB⟩ := hrel
                cases gk with
                | zero => exact absurd HA.out (by simp [heraldlaw24_exact.l2])
                | succ k3 =>
                  have H := HA.out
                  clear HA
                  simp only [heraldlaw24_exact.l2] at H
                  by_cases c17 : x55_3 < (l0.length : Int)
                  · rw [if_pos c17] at H
                    have c17b0 : decide (x55_3 < (l0.length : Int)) = true := decide_eq_true c17
                    clear c17
                    by_cases c18 : 0 ≤ x55_3
                    · rw [if_pos c18] at H
                      have c18b0 : decide (0 ≤ x55_3) = true := decide_eq_true c18
                      clear c18
                      by_cases c19 : x55_3 < (l0.length : Int)
                      · rw [if_pos c19] at H
                        have c19b0 : decide (x55_3 < (l0.length : Int)) = true := decide_eq_true c19
                        clear c19
                        have HC20 := Aside0.mk H
                        clear H
                        have p429 : 0 ≤ (x55_3 : Int) := of_decide_eq_true (by first | (with_reducible assumption) | assumption)
                        have q429 : x55_3 < (l0.length : Int) := of_decide_eq_true (by first | (with_reducible assumption) | assumption)
                        obtain ⟨ad429, A429_0, c429_0, e429, hx429_0, hl429_0, hi429_0⟩ := at_L4 HR0.out x55_3 p429 q429
                        cases e429
                        replace hx429_0 := (HB.out.cell (World.block_lt_of_cell? w _ hx429_0)).trans hx429_0
                        have HR429_0 := Aside0.mk hi429_0
                        have HC429_0 := Aside0.mk hl429_0
                        clear hi429_0 hl429_0
                        replace p429 := eq_true p429
                        replace q429 := eq_true q429
                        go_upto_region 15 with (fail)
                        repeat (go_quiet (fail); go_upto_region 15 with (fail))
                        go_cut [72] (fun v72 wc => ∃ (kq : Nat) (x72_19 : Bool), v72 = .bool x72_19 ∧ Aside0 (heraldlaw24_exact.j3 kq l1 l3 a5 x13_1 x14_3 x15_2 x55_3 (rd_L4 l0 x55_3) l0 (l0.length : Int) x55_3 x72_19 l2_0 l2_1 = some r) ∧ Aside0 (kq ≤ k3) ∧ Aside0 (wc.heap[gb425]? = some (.cells #[(.slice A2_0 l2_0.length c2_0), (.slice A2_1 l2_1.length c2_1)] 59 (0, 0))) ∧ Aside0 (Below w.heap.size w wc))
                        case first =>
                          have H := HC20.out
                          clear HC20
                          by_cases c21 : ((rd_L4 l0 x55_3).length : Int) ≥ (l3.length : Int)
                          · rw [if_pos c21] at H
                            have c21b0 : decide ((l3.length : Int) ≤ ((rd_L4 l0 x55_3).length : Int)) = true := decide_eq_true c21
                            have c21b1 : decide (l3.length ≤ (rd_L4 l0 x55_3).length) = true := decide_eq_true (Int.ofNat_le.mp c21)
                            clear c21
                            (first | rw [c21b0] | (simp only [i64_w, i32_w]; rw [c21b0]) | skip)
                            by_cases c22 : 0 ≤ (l3.length : Int)
                            · rw [if_pos c22] at H
                              have c22b0 := eq_true c22
                              have c22b1 : decide (0 ≤ (l3.length : Int)) = true := decide_eq_true c22
                              clear c22
                              by_cases c23 : (l3.length : Int) ≤ ((rd_L4 l0 x55_3).length : Int)
                              · rw [if_pos c23] at H
                                have c23b0 := eq_true c23
                                have c23b1 : decide ((l3.length : Int) ≤ ((rd_L4 l0 x55_3).length : Int)) = true := decide_eq_true c23
                                clear c23
                                replace H := Option.bind_eq_some_iff.mp H
                                obtain ⟨t431, A240, H⟩ := H
                                replace H : (heraldlaw24_exact.j3 k3 l1 l3 a5 x13_1 x14_3 x15_2 x55_3 (rd_L4 l0 x55_3) l0 (l0.length : Int) x55_3 t431 l2_0 l2_1) = some r := H
                                have A24 := Aside0.mk A240
                                clear A240
                                have H' := Aside0.mk H
                                clear H
                                obtain ⟨i025, hi025, _, hsz25, _⟩ := info_parts info3
                                obtain ⟨hcut25, hA25, hC25⟩ := print_take_of (P := Try.prog) (Value.int .i64) 0 60 3 .i64 Try.underlying60 hi025 hsz25 A429_0 c429_0 (rd_L4 l0 x55_3) (l3.length : Int) (of_decide_eq_true (by first | (with_reducible assumption) | assumption)) (of_decide_eq_true (by first | (with_reducible assumption) | assumption)) HC429_0.out
                                have HR430 := Aside0.mk (Kd.C_of_reads (h1 := fun _ => rfl) (hA25 _ (Kd.reads_of_C HR429_0.out)))
                                have HC430 := Aside0.mk hC25
                                clear hA25 hC25 hi025 hsz25
                                obtain ⟨tk25, htk25⟩ : ∃ t_, (rd_L4 l0 x55_3).take ((l3.length : Int) : Int).toNat = t_ := ⟨_, rfl⟩
                                rw [htk25] at hcut25 HR430 HC430 A24
                                clear htk25
                                go_wp2_with (first | (go_at_call 33; (with_reducible refine (heraldlaw24_alike.calls k3 _ _ _ _ _ l3 t431 _ ?side1 ?side2 ?side3 ?side4 A24.out).mono ?_); (case side1 => repeat (first | exact (Kd.C_below HR430.out HB.out) | (with_reducible refine Kd.C_alloc ?_ _) | (with_reducible refine Kd.C_drewN ?_ _) | (with_reducible refine Kd.C_drew ?_))); (case side2 => exact HC430.out); (case side3 => repeat (first | exact (Kd.C_below HR3.out HB.out) | (with_reducible refine Kd.C_alloc ?_ _) | (with_reducible refine Kd.C_drewN ?_ _) | (with_reducible refine Kd.C_drew ?_))); (case side4 => exact HC3.out); rintro e w' ⟨rfl, ⟨nd, rfl⟩⟩; (try first | exact ⟨rfl, _, World.drewN_drewN _ _ _⟩ | exact ⟨rfl, _, Eq.trans (World.drewN_drewN _ _ _) (congrArg (World.drewN _) (Nat.add_assoc _ _ _))⟩)))
                                repeat (go_quiet (first | (go_at_call 33; (with_reducible refine (heraldlaw24_alike.calls k3 _ _ _ _ _ l3 t431 _ ?side1 ?side2 ?side3 ?side4 A24.out).mono ?_); (case side1 => repeat (first | exact (Kd.C_below HR430.out HB.out) | (with_reducible refine Kd.C_alloc ?_ _) | (with_reducible refine Kd.C_drewN ?_ _) | (with_reducible refine Kd.C_drew ?_))); (case side2 => exact HC430.out); (case side3 => repeat (first | exact (Kd.C_below HR3.out HB.out) | (with_reducible refine Kd.C_alloc ?_ _) | (with_reducible refine Kd.C_drewN ?_ _) | (with_reducible refine Kd.C_drew ?_))); (case side4 => exact HC3.out); rintro e w' ⟨rfl, ⟨nd, rfl⟩⟩; (try first | exact ⟨rfl, _, World.drewN_drewN _ _ _⟩ | exact ⟨rfl, _, Eq.trans (World.drewN_drewN _ _ _) (congrArg (World.drewN _) (Nat.add_assoc _ _ _))⟩))); try go_wp2_with (first | (go_at_call 33; (with_reducible refine (heraldlaw24_alike.calls k3 _ _ _ _ _ l3 t431 _ ?side1 ?side2 ?side3 ?side4 A24.out).mono ?_); (case side1 => repeat (first | exact (Kd.C_below HR430.out HB.out) | (with_reducible refine Kd.C_alloc ?_ _) | (with_reducible refine Kd.C_drewN ?_ _) | (with_reducible refine Kd.C_drew ?_))); (case side2 => exact HC430.out); (case side3 => repeat (first | exact (Kd.C_below HR3.out HB.out) | (with_reducible refine Kd.C_alloc ?_ _) | (with_reducible refine Kd.C_drewN ?_ _) | (with_reducible refine Kd.C_drew ?_))); (case side4 => exact HC3.out); rintro e w' ⟨rfl, ⟨nd, rfl⟩⟩; (try first | exact ⟨rfl, _, World.drewN_drewN _ _ _⟩ | exact ⟨rfl, _, Eq.trans (World.drewN_drewN _ _ _) (congrArg (World.drewN _) (Nat.add_assoc _ _ _))⟩))))
                                go_meet
                                case rel => exact ⟨_, (t431), (by first | rfl | (simp; done) | (simp [*]; done) | (simp [i64_w]; done) | (simp [*, i64_w]; done)), H', ⟨by have := HK1.out; have := HK2.out; have := HK3.out; first | omega | exact Nat.le_refl _⟩, ⟨by (with_reducible repeat (first | refine blk_drewN ?_ _ | refine blk_drew ?_ | refine blk_alloc ?_ _)); exact BK425.out⟩, ⟨by repeat (first | (with_reducible first | exact HB.out | apply below_alloc | apply pw_below_drewN | apply below_drew1 | refine below_set ?_ GE425.out) | exact HB.out)⟩⟩
                              · rw [if_neg c23] at H
                                exact absurd H (by simp)
                            · rw [if_neg c22] at H
                              exact absurd H (by simp)
                          · rw [if_neg c21] at H
                            have c21b0 : decide ((l3.length : Int) ≤ ((rd_L4 l0 x55_3).length : Int)) = false := decide_eq_false c21
                            have c21b1 : decide (l3.length ≤ (rd_L4 l0 x55_3).length) = false := decide_eq_false (fun h => c21 (Int.ofNat_le.mpr h))
                            clear c21
                            (first | rw [c21b0] | (simp only [i64_w, i32_w]; rw [c21b0]) | skip)
                            have H' := Aside0.mk H
                            clear H
                            go_wp2
                            repeat (go_quiet (fail); try go_wp2)
                            go_meet
                            case rel => exact ⟨_, (false), (by first | rfl | (simp; done) | (simp [*]; done) | (simp [i64_w]; done) | (simp [*, i64_w]; done)), H', ⟨by have := HK1.out; have := HK2.out; have := HK3.out; first | omega | exact Nat.le_refl _⟩, ⟨by (with_reducible repeat (first | refine blk_drewN ?_ _ | refine blk_drew ?_ | refine blk_alloc ?_ _)); exact BK425.out⟩, ⟨by repeat (first | (with_reducible first | exact HB.out | apply below_alloc | apply pw_below_drewN | apply below_drew1 | refine below_set ?_ GE425.out) | exact HB.out)⟩⟩
                        case rest =>
                          clear HC20
                          try clear c1
                          try clear c2
                          try clear p2
                          try clear c3
                          try clear c4
                          try clear p4
                          try clear q4
                          try clear hx4
                          try clear p6
                          try clear c8
                          try clear c8b0
                          try clear c9
                          try clear c9b0
                          try clear c10
                          try clear c10b0
                          try clear c10b1
                          try clear c11
                          try clear c11b0
                          try clear c12
                          try clear c12b0
                          try clear c13
                          try clear c13b0
                          try clear c14
                          try clear c14b0
                          try clear c15
                          try clear c15b0
                          try clear c17
                          try clear c17b0
                          try clear c18
                          try clear c18b0
                          try clear c19
                          try clear c19b0
                          try clear c21
                          try clear c21b0
                          try clear c21b1
                          try clear c22
                          try clear c22b0
                          try clear c22b1
                          try clear c23
                          try clear c23b0
                          try clear c23b1
                          try clear hcz16_0
                          try clear hcz16_1
                          try clear hfz16_0
                          try clear hfz16_1
                          try clear hx426_0
                          try clear hx427_0
                          try clear hx428_0
                          try clear hx429_0
                          try clear p2
                          try clear p4
                          try clear p426
                          try clear p427
                          try clear p428
                          try clear p429
                          try clear p6
                          try clear q4
                          try clear q426
                          try clear q427
                          try clear q428
                          try clear q429
                          obtain ⟨kq, x72_19, rfl, HA, HJ19, BK425, HB⟩ := hcut
                          cases kq with
                          | zero => exact absurd HA.out (by simp [heraldlaw24_exact.j3])
                          | succ kj19 =>
                            have H := HA.out
                            clear HA
                            simp only [heraldlaw24_exact.j3] at H
                            have HC26 := Aside0.mk H
                            clear H
                            go_upto_if 72 with (fail)
                            repeat (go_quiet (fail); go_upto_if 72 with (fail))
                            go_cut [14] (fun v14 wc => ∃ (kq : Nat) (x14_25 : Int), v14 = .int .i64 x14_25 ∧ Aside0 (heraldlaw24_exact.j4 kq l1 l3 a5 x13_1 x14_25 x15_2 x55_3 (rd_L4 l0 x55_3) l0 (l0.length : Int) x55_3 l2_0 l2_1 = some r) ∧ Aside0 (kq ≤ kj19) ∧ Aside0 (wc.heap[gb425]? = some (.cells #[(.slice A2_0 l2_0.length c2_0), (.slice A2_1 l2_1.length c2_1)] 59 (0, 0))) ∧ Aside0 (Below w.heap.size w wc))
                            case first =>
                              have H := HC26.out
                              clear HC26
                              by_cases c27 : x72_19 = true
                              · subst c27
                                have H1 : (if 0 ≤ x55_3 then (if x55_3 < (l1.length : Int) then (heraldlaw24_exact.j4 kj19 l1 l3 a5 x13_1 (wrap64 (x14_3 + (wrap64 ((rd l1 x55_3) * x13_1)))) x15_2 x55_3 (rd_L4 l0 x55_3) l0 (l0.length : Int) x55_3 l2_0 l2_1) else (none)) else (none)) = some r := by rw [if_pos rfl] at H; exact H
                                clear H
                                have H := H1
                                clear H1
                                by_cases c28 : 0 ≤ x55_3
                                · rw [if_pos c28] at H
                                  have c28b0 : decide (0 ≤ x55_3) = true := decide_eq_true c28
                                  clear c28
                                  (first | rw [c28b0] | (simp only [i64_w, i32_w]; rw [c28b0]) | skip)
                                  by_cases c29 : x55_3 < (l1.length : Int)
                                  · rw [if_pos c29] at H
                                    have c29b0 : decide (x55_3 < (l1.length : Int)) = true := decide_eq_true c29
                                    clear c29
                                    have H' := Aside0.mk H
                                    clear H
                                    have p432 : 0 ≤ (x55_3 : Int) := of_decide_eq_true (by first | (with_reducible assumption) | assumption)
                                    have q432 : x55_3 < (l1.length : Int) := of_decide_eq_true (by first | (with_reducible assumption) | assumption)
                                    obtain ⟨ad432, e432, hx432_0⟩ := Kd.at_int HR1.out x55_3 p432 q432
                                    cases e432
                                    replace hx432_0 := (HB.out.cell (World.block_lt_of_cell? w _ hx432_0)).trans hx432_0
                                    replace p432 := eq_true p432
                                    replace q432 := eq_true q432
                                    go_wp2
                                    repeat (go_quiet (fail); try go_wp2)
                                    go_meet
                                    case rel => exact ⟨_, (wrap64 (x14_3 + (wrap64 ((rd l1 x55_3) * x13_1)))), (by first | rfl | (simp; done) | (simp [*]; done) | (simp [i64_w]; done) | (simp [*, i64_w]; done)), H', ⟨by have := HK1.out; have := HK2.out; have := HK3.out; have := HJ19.out; first | omega | exact Nat.le_refl _⟩, ⟨by (with_reducible repeat (first | refine blk_drewN ?_ _ | refine blk_drew ?_ | refine blk_alloc ?_ _)); exact BK425.out⟩, ⟨by repeat (first | (with_reducible first | exact HB.out | apply below_alloc | apply pw_below_drewN | apply below_drew1 | refine below_set ?_ GE425.out) | exact HB.out)⟩⟩
                                  · rw [if_neg c29] at H
                                    exact absurd H (by simp)
                                · rw [if_neg c28] at H
                                  exact absurd H (by simp)
                              · replace c27 := Bool.eq_false_iff.mpr c27
                                subst c27
                                have H1 : (heraldlaw24_exact.j4 kj19 l1 l3 a5 x13_1 x14_3 x15_2 x55_3 (rd_L4 l0 x55_3) l0 (l0.length : Int) x55_3 l2_0 l2_1) = some r := by rw [if_neg (show ¬ (false = true) by decide)] at H; exact H
                                clear H
                                have H := H1
                                clear H1
                                have H' := Aside0.mk H
                                clear H
                                go_wp2
                                repeat (go_quiet (fail); try go_wp2)
                                go_meet
                                case rel => exact ⟨_, (x14_3), (by first | rfl | (simp; done) | (simp [*]; done) | (simp [i64_w]; done) | (simp [*, i64_w]; done)), H', ⟨by have := HK1.out; have := HK2.out; have := HK3.out; have := HJ19.out; first | omega | exact Nat.le_refl _⟩, ⟨by (with_reducible repeat (first | refine blk_drewN ?_ _ | refine blk_drew ?_ | refine blk_alloc ?_ _)); exact BK425.out⟩, ⟨by repeat (first | (with_reducible first | exact HB.out | apply below_alloc | apply pw_below_drewN | apply below_drew1 | refine below_set ?_ GE425.out) | exact HB.out)⟩⟩
                            case rest =>
                              clear HC26
                              try clear c1
                              try clear c2
                              try clear p2
                              try clear c3
                              try clear c4
                              try clear p4
                              try clear q4
                              try clear hx4
                              try clear p6
                              try clear c8
                              try clear c8b0
                              try clear c9
                              try clear c9b0
                              try clear c10
                              try clear c10b0
                              try clear c10b1
                              try clear c11
                              try clear c11b0
                              try clear c12
                              try clear c12b0
                              try clear c13
                              try clear c13b0
                              try clear c14
                              try clear c14b0
                              try clear c15
                              try clear c15b0
                              try clear c17
                              try clear c17b0
                              try clear c18
                              try clear c18b0
                              try clear c19
                              try clear c19b0
                              try clear c21
                              try clear c21b0
                              try clear c21b1
                              try clear c22
                              try clear c22b0
                              try clear c22b1
                              try clear c23
                              try clear c23b0
                              try clear c23b1
                              try clear c27
                              try clear c28
                              try clear c28b0
                              try clear c29
                              try clear c29b0
                              try clear hcz16_0
                              try clear hcz16_1
                              try clear hfz16_0
                              try clear hfz16_1
                              try clear hx426_0
                              try clear hx427_0
                              try clear hx428_0
                              try clear hx429_0
                              try clear hx432_0
                              try clear p2
                              try clear p4
                              try clear p426
                              try clear p427
                              try clear p428
                              try clear p429
                              try clear p432
                              try clear p6
                              try clear q4
                              try clear q426
                              try clear q427
                              try clear q428
                              try clear q429
                              try clear q432
                              obtain ⟨kq, x14_25, rfl, HA, HJ25, BK425, HB⟩ := hcut
                              cases kq with
                              | zero => exact absurd HA.out (by simp [heraldlaw24_exact.j4])
                              | succ kj25 =>
                                have H := HA.out
                                clear HA
                                simp only [heraldlaw24_exact.j4] at H
                                have HC30 := Aside0.mk H
                                clear H
                                go_upto_region 17 with (fail)
                                repeat (go_quiet (fail); go_upto_region 17 with (fail))
                                go_cut [93] (fun v93 wc => ∃ (kq : Nat) (x93_29 : Bool), v93 = .bool x93_29 ∧ Aside0 (heraldlaw24_exact.j5 kq l1 l3 a5 x13_1 x14_25 x15_2 x55_3 (rd_L4 l0 x55_3) l0 (l0.length : Int) x55_3 x93_29 l2_0 l2_1 = some r) ∧ Aside0 (kq ≤ kj25) ∧ Aside0 (wc.heap[gb425]? = some (.cells #[(.slice A2_0 l2_0.length c2_0), (.slice A2_1 l2_1.length c2_1)] 59 (0, 0))) ∧ Aside0 (Below w.heap.size w wc))
                                case first =>
                                  have H := HC30.out
                                  clear HC30
                                  by_cases c31 : ((rd_L4 l0 x55_3).length : Int) < (l3.length : Int)
                                  · rw [if_pos c31] at H
                                    have c31b0 : decide (((rd_L4 l0 x55_3).length : Int) < (l3.length : Int)) = true := decide_eq_true c31
                                    have c31b1 : decide ((rd_L4 l0 x55_3).length < l3.length) = true := decide_eq_true (Int.ofNat_lt.mp c31)
                                    clear c31
                                    (first | rw [c31b0] | (simp only [i64_w, i32_w]; rw [c31b0]) | skip)
                                    by_cases c32 : 0 ≤ ((rd_L4 l0 x55_3).length : Int)
                                    · rw [if_pos c32] at H
                                      have c32b0 := eq_true c32
                                      have c32b1 : decide (0 ≤ ((rd_L4 l0 x55_3).length : Int)) = true := decide_eq_true c32
                                      clear c32
                                      by_cases c33 : ((rd_L4 l0 x55_3).length : Int) ≤ (l3.length : Int)
                                      · rw [if_pos c33] at H
                                        have c33b0 := eq_true c33
                                        have c33b1 : decide (((rd_L4 l0 x55_3).length : Int) ≤ (l3.length : Int)) = true := decide_eq_true c33
                                        clear c33
                                        replace H := Option.bind_eq_some_iff.mp H
                                        obtain ⟨t434, A340, H⟩ := H
                                        replace H : (heraldlaw24_exact.j5 kj25 l1 l3 a5 x13_1 x14_25 x15_2 x55_3 (rd_L4 l0 x55_3) l0 (l0.length : Int) x55_3 t434 l2_0 l2_1) = some r := H
                                        have A34 := Aside0.mk A340
                                        clear A340
                                        have H' := Aside0.mk H
                                        clear H
                                        obtain ⟨i035, hi035, _, hsz35, _⟩ := info_parts info3
                                        obtain ⟨hcut35, hA35, hC35⟩ := print_take_of (P := Try.prog) (Value.int .i64) 0 60 3 .i64 Try.underlying60 hi035 hsz35 A3 c3 l3 ((rd_L4 l0 x55_3).length : Int) (of_decide_eq_true (by first | (with_reducible assumption) | assumption)) (of_decide_eq_true (by first | (with_reducible assumption) | assumption)) HC3.out
                                        have HR433 := Aside0.mk (Kd.C_of_reads (h1 := fun _ => rfl) (hA35 _ (Kd.reads_of_C HR3.out)))
                                        have HC433 := Aside0.mk hC35
                                        clear hA35 hC35 hi035 hsz35
                                        obtain ⟨tk35, htk35⟩ : ∃ t_, l3.take (((rd_L4 l0 x55_3).length : Int) : Int).toNat = t_ := ⟨_, rfl⟩
                                        rw [htk35] at hcut35 HR433 HC433 A34
                                        clear htk35
                                        go_wp2_with (first | (go_at_call 33; (with_reducible refine (heraldlaw24_alike.calls kj25 _ _ (rd_L4 l0 x55_3) _ _ _ t434 _ ?side1 ?side2 ?side3 ?side4 A34.out).mono ?_); (case side1 => repeat (first | exact (Kd.C_below HR429_0.out HB.out) | (with_reducible refine Kd.C_alloc ?_ _) | (with_reducible refine Kd.C_drewN ?_ _) | (with_reducible refine Kd.C_drew ?_))); (case side2 => exact HC429_0.out); (case side3 => repeat (first | exact (Kd.C_below HR433.out HB.out) | (with_reducible refine Kd.C_alloc ?_ _) | (with_reducible refine Kd.C_drewN ?_ _) | (with_reducible refine Kd.C_drew ?_))); (case side4 => exact HC433.out); rintro e w' ⟨rfl, ⟨nd, rfl⟩⟩; (try first | exact ⟨rfl, _, World.drewN_drewN _ _ _⟩ | exact ⟨rfl, _, Eq.trans (World.drewN_drewN _ _ _) (congrArg (World.drewN _) (Nat.add_assoc _ _ _))⟩)))
                                        repeat (go_quiet (first | (go_at_call 33; (with_reducible refine (heraldlaw24_alike.calls kj25 _ _ (rd_L4 l0 x55_3) _ _ _ t434 _ ?side1 ?side2 ?side3 ?side4 A34.out).mono ?_); (case side1 => repeat (first | exact (Kd.C_below HR429_0.out HB.out) | (with_reducible refine Kd.C_alloc ?_ _) | (with_reducible refine Kd.C_drewN ?_ _) | (with_reducible refine Kd.C_drew ?_))); (case side2 => exact HC429_0.out); (case side3 => repeat (first | exact (Kd.C_below HR433.out HB.out) | (with_reducible refine Kd.C_alloc ?_ _) | (with_reducible refine Kd.C_drewN ?_ _) | (with_reducible refine Kd.C_drew ?_))); (case side4 => exact HC433.out); rintro e w' ⟨rfl, ⟨nd, rfl⟩⟩; (try first | exact ⟨rfl, _, World.drewN_drewN _ _ _⟩ | exact ⟨rfl, _, Eq.trans (World.drewN_drewN _ _ _) (congrArg (World.drewN _) (Nat.add_assoc _ _ _))⟩))); try go_wp2_with (first | (go_at_call 33; (with_reducible refine (heraldlaw24_alike.calls kj25 _ _ (rd_L4 l0 x55_3) _ _ _ t434 _ ?side1 ?side2 ?side3 ?side4 A34.out).mono ?_); (case side1 => repeat (first | exact (Kd.C_below HR429_0.out HB.out) | (with_reducible refine Kd.C_alloc ?_ _) | (with_reducible refine Kd.C_drewN ?_ _) | (with_reducible refine Kd.C_drew ?_))); (case side2 => exact HC429_0.out); (case side3 => repeat (first | exact (Kd.C_below HR433.out HB.out) | (with_reducible refine Kd.C_alloc ?_ _) | (with_reducible refine Kd.C_drewN ?_ _) | (with_reducible refine Kd.C_drew ?_))); (case side4 => exact HC433.out); rintro e w' ⟨rfl, ⟨nd, rfl⟩⟩; (try first | exact ⟨rfl, _, World.drewN_drewN _ _ _⟩ | exact ⟨rfl, _, Eq.trans (World.drewN_drewN _ _ _) (congrArg (World.drewN _) (Nat.add_assoc _ _ _))⟩))))
                                        go_meet
                                        case rel => exact ⟨_, (t434), (by first | rfl | (simp; done) | (simp [*]; done) | (simp [i64_w]; done) | (simp [*, i64_w]; done)), H', ⟨by have := HK1.out; have := HK2.out; have := HK3.out; have := HJ19.out; have := HJ25.out; first | omega | exact Nat.le_refl _⟩, ⟨by (with_reducible repeat (first | refine blk_drewN ?_ _ | refine blk_drew ?_ | refine blk_alloc ?_ _)); exact BK425.out⟩, ⟨by repeat (first | (with_reducible first | exact HB.out | apply below_alloc | apply pw_below_drewN | apply below_drew1 | refine below_set ?_ GE425.out) | exact HB.out)⟩⟩
                                      · rw [if_neg c33] at H
                                        exact absurd H (by simp)
                                    · rw [if_neg c32] at H
                                      exact absurd H (by simp)
                                  · rw [if_neg c31] at H
                                    have c31b0 : decide (((rd_L4 l0 x55_3).length : Int) < (l3.length : Int)) = false := decide_eq_false c31
                                    have c31b1 : decide ((rd_L4 l0 x55_3).length < l3.length) = false := decide_eq_false (fun h => c31 (Int.ofNat_lt.mpr h))
                                    clear c31
                                    (first | rw [c31b0] | (simp only [i64_w, i32_w]; rw [c31b0]) | skip)
                                    have H' := Aside0.mk H
                                    clear H
                                    go_wp2
                                    repeat (go_quiet (fail); try go_wp2)
                                    go_meet
                                    case rel => exact ⟨_, (false), (by first | rfl | (simp; done) | (simp [*]; done) | (simp [i64_w]; done) | (simp [*, i64_w]; done)), H', ⟨by have := HK1.out; have := HK2.out; have := HK3.out; have := HJ19.out; have := HJ25.out; first | omega | exact Nat.le_refl _⟩, ⟨by (with_reducible repeat (first | refine blk_drewN ?_ _ | refine blk_drew ?_ | refine blk_alloc ?_ _)); exact BK425.out⟩, ⟨by repeat (first | (with_reducible first | exact HB.out | apply below_alloc | apply pw_below_drewN | apply below_drew1 | refine below_set ?_ GE425.out) | exact HB.out)⟩⟩
                                case rest =>
                                  clear HC30
                                  try clear c1
                                  try clear c2
                                  try clear p2
                                  try clear c3
                                  try clear c4
                                  try clear p4
                                  try clear q4
                                  try clear hx4
                                  try clear p6
                                  try clear c8
                                  try clear c8b0
                                  try clear c9
                                  try clear c9b0
                                  try clear c10
                                  try clear c10b0
                                  try clear c10b1
                                  try clear c11
                                  try clear c11b0
                                  try clear c12
                                  try clear c12b0
                                  try clear c13
                                  try clear c13b0
                                  try clear c14
                                  try clear c14b0
                                  try clear c15
                                  try clear c15b0
                                  try clear c17
                                  try clear c17b0
                                  try clear c18
                                  try clear c18b0
                                  try clear c19
                                  try clear c19b0
                                  try clear c21
                                  try clear c21b0
                                  try clear c21b1
                                  try clear c22
                                  try clear c22b0
                                  try clear c22b1
                                  try clear c23
                                  try clear c23b0
                                  try clear c23b1
                                  try clear c27
                                  try clear c28
                                  try clear c28b0
                                  try clear c29
                                  try clear c29b0
                                  try clear c31
                                  try clear c31b0
                                  try clear c31b1
                                  try clear c32
                                  try clear c32b0
                                  try clear c32b1
                                  try clear c33
                                  try clear c33b0
                                  try clear c33b1
                                  try clear c34
                                  try clear hcz16_0
                                  try clear hcz16_1
                                  try clear hfz16_0
                                  try clear hfz16_1
                                  try clear hx426_0
                                  try clear hx427_0
                                  try clear hx428_0
                                  try clear hx429_0
                                  try clear hx432_0
                                  try clear p2
                                  try clear p4
                                  try clear p426
                                  try clear p427
                                  try clear p428
                                  try clear p429
                                  try clear p432
                                  try clear p6
                                  try clear q4
                                  try clear q426
                                  try clear q427
                                  try clear q428
                                  try clear q429
                                  try clear q432
                                  obtain ⟨kq, x93_29, rfl, HA, HJ29, BK425, HB⟩ := hcut
                                  cases kq with
                                  | zero => exact absurd HA.out (by simp [heraldlaw24_exact.j5])
                                  | succ kj29 =>
                                    have H := HA.out
                                    clear HA
                                    simp only [heraldlaw24_exact.j5] at H
                                    by_cases c36 : x93_29 = true
                                    · subst c36
                                      have H1 : (if 0 ≤ x55_3 then (if x55_3 < (l1.length : Int) then (heraldlaw24_exact.l3 kj29 l1 l3 a5 x13_1 x14_25 x15_2 (wrap64 ((rd l1 x55_3) * x13_1)) ((rd_L4 l0 x55_3).length : Int) l0 (l0.length : Int) x55_3 l2_0 l2_1) else (none)) else (none)) = some r := by rw [if_pos rfl] at H; exact H
                                      clear H
                                      have H := H1
                                      clear H1
                                      by_cases c37 : 0 ≤ x55_3
                                      · rw [if_pos c37] at H
                                        have c37b0 : decide (0 ≤ x55_3) = true := decide_eq_true c37
                                        clear c37
                                        by_cases c38 : x55_3 < (l1.length : Int)
                                        · rw [if_pos c38] at H
                                          have c38b0 : decide (x55_3 < (l1.length : Int)) = true := decide_eq_true c38
                                          clear c38
                                          have H' := Aside0.mk H
                                          clear H
                                          have p435 : 0 ≤ (x55_3 : Int) := of_decide_eq_true (by first | (with_reducible assumption) | assumption)
                                          have q435 : x55_3 < (l1.length : Int) := of_decide_eq_true (by first | (with_reducible assumption) | assumption)
                                          obtain ⟨ad435, e435, hx435_0⟩ := Kd.at_int HR1.out x55_3 p435 q435
                                          cases e435
                                          replace hx435_0 := (HB.out.cell (World.block_lt_of_cell? w _ hx435_0)).trans hx435_0
                                          replace p435 := eq_true p435
                                          replace q435 := eq_true q435
                                          go_wp2
                                          repeat (go_quiet (fail); try go_wp2)
                                          go_loopg [19, 20] kj29 (fun kq v19 v20 w' => ∃ (x19_7 : Int) (x20_7 : Int), v19 = .int .i64 x19_7 ∧ v20 = .int .i64 x20_7 ∧ Aside0 (heraldlaw24_exact.l3 kq l1 l3 a5 x13_1 x14_25 x15_2 x19_7 x20_7 l0 (l0.length : Int) x55_3 l2_0 l2_1 = some r) ∧ Aside0 (kq ≤ kj29) ∧ Aside0 (w'.heap[gb425]? = some (.cells #[(.slice A2_0 l2_0.length c2_0), (.slice A2_1 l2_1.length c2_1)] 59 (0, 0))) ∧ Aside0 (Below w.heap.size w w'))
                                          case atStart => exact ⟨(wrap64 ((rd l1 x55_3) * x13_1)), (((rd_L4 l0 x55_3).length : Int)), (by first | rfl | (simp; done) | (simp [*]; done) | (simp [i64_w]; done) | (simp [*, i64_w]; done)), (by first | rfl | (simp; done) | (simp [*]; done) | (simp [i64_w]; done) | (simp [*, i64_w]; done)), H', ⟨Nat.le_refl _⟩, ⟨by (with_reducible repeat (first | refine blk_drewN ?_ _ | refine blk_drew ?_ | refine blk_alloc ?_ _)); exact BK425.out⟩, ⟨by repeat (first | (with_reducible first | exact HB.out | apply below_alloc | apply pw_below_drewN | apply below_drew1 | refine below_set ?_ GE425.out) | exact HB.out)⟩⟩
                                          case round =>
                                            clear H'
                                            try clear c1
                                            try clear c2
                                            try clear p2
                                            try clear c3
                                            try clear c4
                                            try clear p4
                                            try clear q4
                                            try clear hx4
                                            try clear p6
                                            try clear c8
                                            try clear c8b0
                                            try clear c9
                                            try clear c9b0
                                            try clear c10
                                            try clear c10b0
                                            try clear c10b1
                                            try clear c11
                                            try clear c11b0
                                            try clear c12
                                            try clear c12b0
                                            try clear c13
                                            try clear c13b0
                                            try clear c14
                                            try clear c14b0
                                            try clear c15
                                            try clear c15b0
                                            try clear c17
                                            try clear c17b0
                                            try clear c18
                                            try clear c18b0
                                            try clear c19
                                            try clear c19b0
                                            try clear c21
                                            try clear c21b0
                                            try clear c21b1
                                            try clear c22
                                            try clear c22b0
                                            try clear c22b1
                                            try clear c23
                                            try clear c23b0
                                            try clear c23b1
                                            try clear c27
                                            try clear c28
                                            try clear c28b0
                                            try clear c29
                                            try clear c29b0
                                            try clear c31
                                            try clear c31b0
                                            try clear c31b1
                                            try clear c32
                                            try clear c32b0
                                            try clear c32b1
                                            try clear c33
                                            try clear c33b0
                                            try clear c33b1
                                            try clear c34
                                            try clear c36
                                            try clear c37
                                            try clear c37b0
                                            try clear c38
                                            try clear c38b0
                                            try clear hcz16_0
                                            try clear hcz16_1
                                            try clear hfz16_0
                                            try clear hfz16_1
                                            try clear hx426_0
                                            try clear hx427_0
                                            try clear hx428_0
                                            try clear hx429_0
                                            try clear hx432_0
                                            try clear hx435_0
                                            try clear p2
                                            try clear p4
                                            try clear p426
                                            try clear p427
                                            try clear p428
                                            try clear p429
                                            try clear p432
                                            try clear p435
                                            try clear p6
                                            try clear q4
                                            try clear q426
                                            try clear q427
                                            try clear q428
                                            try clear q429
                                            try clear q432
                                            try clear q435
                                            obtain ⟨x19_7, x20_7, rfl, rfl, HA, HK7, BK425, HB⟩ := hrel
                                            cases gk with
                                            | zero => exact absurd HA.out (by simp [heraldlaw24_exact.l3])
                                            | succ k7 =>
                                              have H := HA.out
                                              clear HA
                                              simp only [heraldlaw24_exact.l3] at H
                                              by_cases c39 : x20_7 < (l3.length : Int)
                                              · rw [if_pos c39] at H
                                                have c39b0 : decide (x20_7 < (l3.length : Int)) = true := decide_eq_true c39
                                                clear c39
                                                by_cases c40 : a5 = 0
                                                · rw [if_pos c40] at H
                                                  exact absurd H (by simp)
                                                · rw [if_neg c40] at H
                                                  have c40b0 : (a5 == 0) = false := beq_eq_false_iff_ne.mpr c40
                                                  have c40b1 : (a5 != 0) = true := bne_iff_ne.mpr c40
                                                  by_cases c41 : 0 ≤ x20_7
                                                  · rw [if_pos c41] at H
                                                    have c41b0 : decide (0 ≤ x20_7) = true := decide_eq_true c41
                                                    clear c41
                                                    by_cases c42 : x20_7 < (l2_0.length : Int)
                                                    · rw [if_pos c42] at H
                                                      have c42b0 : decide (x20_7 < (l2_0.length : Int)) = true := decide_eq_true c42
                                                      clear c42
                                                      by_cases c43 : 0 ≤ (rd l3 x20_7)
                                                      · rw [if_pos c43] at H
                                                        have c43b0 : decide (0 ≤ (rd l3 x20_7)) = true := decide_eq_true c43
                                                        clear c43
                                                        by_cases c44 : (rd l3 x20_7) < ((rd_L1 l2_0 x20_7).length : Int)
                                                        · rw [if_pos c44] at H
                                                          have c44b0 : decide ((rd l3 x20_7) < ((rd_L1 l2_0 x20_7).length : Int)) = true := decide_eq_true c44
                                                          clear c44
                                                          have H' := Aside0.mk H
                                                          clear H
                                                          have hcz45_0 : wr.cell? ⟨gb425, 0, none⟩ = some (.slice A2_0 l2_0.length c2_0) := (blk_cell BK425.out 0).trans rfl
                                                          have hcz45_1 : wr.cell? ⟨gb425, 1, none⟩ = some (.slice A2_1 l2_1.length c2_1) := (blk_cell BK425.out 1).trans rfl
                                                          have hfz45_0 := blk_frozen BK425.out 0
                                                          have hfz45_1 := blk_frozen BK425.out 1
                                                          have p436 : 0 ≤ (x20_7 : Int) := of_decide_eq_true (by first | (with_reducible assumption) | assumption)
                                                          have q436 : x20_7 < (l2_0.length : Int) := of_decide_eq_true (by first | (with_reducible assumption) | assumption)
                                                          obtain ⟨ad436, A436_0, c436_0, e436, hx436_0, hl436_0, hi436_0⟩ := at_L1 HR2_0.out x20_7 p436 q436
                                                          cases e436
                                                          replace hx436_0 := (HB.out.cell (World.block_lt_of_cell? w _ hx436_0)).trans hx436_0
                                                          have HR436_0 := Aside0.mk hi436_0
                                                          have HC436_0 := Aside0.mk hl436_0
                                                          clear hi436_0 hl436_0
                                                          replace p436 := eq_true p436
                                                          replace q436 := eq_true q436
                                                          have p437 : 0 ≤ (x20_7 : Int) := of_decide_eq_true (by first | (with_reducible assumption) | assumption)
                                                          have q437 : x20_7 < (l3.length : Int) := of_decide_eq_true (by first | (with_reducible assumption) | assumption)
                                                          obtain ⟨ad437, e437, hx437_0⟩ := Kd.at_int HR3.out x20_7 p437 q437
                                                          cases e437
                                                          replace hx437_0 := (HB.out.cell (World.block_lt_of_cell? w _ hx437_0)).trans hx437_0
                                                          replace p437 := eq_true p437
                                                          replace q437 := eq_true q437
                                                          have p438 : 0 ≤ ((rd l3 x20_7) : Int) := of_decide_eq_true (by first | (with_reducible assumption) | assumption)
                                                          have q438 : (rd l3 x20_7) < ((rd_L1 l2_0 x20_7).length : Int) := of_decide_eq_true (by first | (with_reducible assumption) | assumption)
                                                          obtain ⟨ad438, e438, hx438_0⟩ := Kd.at_int HR436_0.out (rd l3 x20_7) p438 q438
                                                          cases e438
                                                          replace hx438_0 := (HB.out.cell (World.block_lt_of_cell? w _ hx438_0)).trans hx438_0
                                                          replace p438 := eq_true p438
                                                          replace q438 := eq_true q438
                                                          go_wp2
                                                          repeat (go_quiet (fail); try go_wp2)
                                                          go_roundg k7
                                                          case measure => have := HK1.out; have := HK2.out; have := HK3.out; have := HJ19.out; have := HJ25.out; have := HJ29.out; have := HK7.out; omega
                                                          case rel => exact ⟨(wrap64 ((wrap64 (Int.tdiv x19_7 a5)) * (rd (rd_L1 l2_0 x20_7) (rd l3 x20_7)))), (wrap64 (x20_7 + 1)), (by first | rfl | (simp; done) | (simp [*]; done) | (simp [i64_w]; done) | (simp [*, i64_w]; done)), (by first | rfl | (simp; done) | (simp [*]; done) | (simp [i64_w]; done) | (simp [*, i64_w]; done)), H', ⟨by have := HK1.out; have := HK2.out; have := HK3.out; have := HJ19.out; have := HJ25.out; have := HJ29.out; have := HK7.out; omega⟩, ⟨by (with_reducible repeat (first | refine blk_drewN ?_ _ | refine blk_drew ?_ | refine blk_alloc ?_ _)); exact BK425.out⟩, ⟨by repeat (first | (with_reducible first | exact HB.out | apply below_alloc | apply pw_below_drewN | apply below_drew1 | refine below_set ?_ GE425.out) | exact HB.out)⟩⟩
                                                        · rw [if_neg c44] at H
                                                          exact absurd H (by simp)
                                                      · rw [if_neg c43] at H
                                                        exact absurd H (by simp)
                                                    · rw [if_neg c42] at H
                                                      exact absurd H (by simp)
                                                  · rw [if_neg c41] at H
                                                    exact absurd H (by simp)
                                              · rw [if_neg c39] at H
                                                have c39b0 : decide (x20_7 < (l3.length : Int)) = false := decide_eq_false c39
                                                clear c39
                                                have H' := Aside0.mk H
                                                clear H
                                                go_wp2
                                                repeat (go_quiet (fail); try go_wp2)
                                                go_roundg k7
                                                case measure => have := HK1.out; have := HK2.out; have := HK3.out; have := HJ19.out; have := HJ25.out; have := HJ29.out; have := HK7.out; omega
                                                case rel => exact ⟨(wrap64 (x14_25 + x19_7)), (wrap64 (x55_3 + 1)), (by first | rfl | (simp; done) | (simp [*]; done) | (simp [i64_w]; done) | (simp [*, i64_w]; done)), (by first | rfl | (simp; done) | (simp [*]; done) | (simp [i64_w]; done) | (simp [*, i64_w]; done)), H', ⟨by have := HK1.out; have := HK2.out; have := HK3.out; have := HJ19.out; have := HJ25.out; have := HJ29.out; have := HK7.out; omega⟩, ⟨by (with_reducible repeat (first | refine blk_drewN ?_ _ | refine blk_drew ?_ | refine blk_alloc ?_ _)); exact BK425.out⟩, ⟨by repeat (first | (with_reducible first | exact HB.out | apply below_alloc | apply pw_below_drewN | apply below_drew1 | refine below_set ?_ GE425.out) | exact HB.out)⟩⟩
                                        · rw [if_neg c38] at H
                                          exact absurd H (by simp)
                                      · rw [if_neg c37] at H
                                        exact absurd H (by simp)
                                    · replace c36 := Bool.eq_false_iff.mpr c36
                                      subst c36
                                      have H1 : (heraldlaw24_exact.l2 kj29 l1 l3 a5 x13_1 x14_25 x15_2 l0 (l0.length : Int) (wrap64 (x55_3 + 1)) l2_0 l2_1) = some r := by rw [if_neg (show ¬ (false = true) by decide)] at H; exact H
                                      clear H
                                      have H := H1
                                      clear H1
                                      have H' := Aside0.mk H
                                      clear H
                                      go_wp2
                                      repeat (go_quiet (fail); try go_wp2)
                                      go_roundg kj29
                                      case measure => have := HK1.out; have := HK2.out; have := HK3.out; have := HJ19.out; have := HJ25.out; have := HJ29.out; omega
                                      case rel => exact ⟨(x14_25), (wrap64 (x55_3 + 1)), (by first | rfl | (simp; done) | (simp [*]; done) | (simp [i64_w]; done) | (simp [*, i64_w]; done)), (by first | rfl | (simp; done) | (simp [*]; done) | (simp [i64_w]; done) | (simp [*, i64_w]; done)), H', ⟨by have := HK1.out; have := HK2.out; have := HK3.out; have := HJ19.out; have := HJ25.out; have := HJ29.out; omega⟩, ⟨by (with_reducible repeat (first | refine blk_drewN ?_ _ | refine blk_drew ?_ | refine blk_alloc ?_ _)); exact BK425.out⟩, ⟨by repeat (first | (with_reducible first | exact HB.out | apply below_alloc | apply pw_below_drewN | apply below_drew1 | refine below_set ?_ GE425.out) | exact HB.out)⟩⟩
                      · rw [if_neg c19] at H
                        exact absurd H (by simp)
                    · rw [if_neg c18] at H
                      exact absurd H (by simp)
                  · rw [if_neg c17] at H
                    have c17b0 : decide (x55_3 < (l0.length : Int)) = false := decide_eq_false c17
                    clear c17
                    obtain rfl := Option.some.inj H
                    go_wp2
                    repeat (go_quiet (fail); try go_wp2)
                    go_ret
                    exact ⟨by first | rfl | (simp [errW_none, errW_some] <;> rfl) | (simp [*, errW_none, errW_some] <;> rfl), by repeat (first | (with_reducible first | exact HB.out | apply below_alloc | apply pw_below_drewN | apply below_drew1 | refine below_set ?_ GE425.out) | exact HB.out)⟩
end Go.Proofs.Ytldbdifdldmgfaa.PAll
end

section
namespace Go.Proofs.Ytldbdifdldmgfaa.PAll
open Go.RowKit Go.Proofs.YtldbdifdldmgfaaW.PrintWords Go.Proofs.YtldbdifdldmgfaaW.PrintLast Go.Proofs.YtldbdifdldmgfaaW.PrintMore
set_option linter.unusedVariables false
section
variable {α : Type} {d : Kd α} {e base g g' q j : Nat} {ok ok' : Nat → Prop} {w W w1 : World} {v u : Value} {xs : List α} {o : Obj} {t : TypeId} {cs : Array Value}
theorem vb (h : Aside0 (Kd.V d e W base ok v xs)) (hb : Below W.heap.size W w1) : Aside0 (Kd.V d e w1 base ok v xs) := ⟨Kd.V_below h.out hb⟩
theorem ve (h : Aside0 (Kd.V d e W base ok v xs)) (a : Nat) (ha : a = W.heap.size) (hb : Below W.heap.size W w1) : Aside0 (Kd.V d e w1 base (fun k => ok k ∧ k ≠ a) v xs) := ⟨Kd.V_below (Kd.V_elderB h.out a (Nat.le_of_eq ha.symm)) hb⟩
theorem bb (h : Aside0 (W.heap[g]? = some o)) (hb : Below W.heap.size W w1) : Aside0 (w1.heap[g]? = some o) := ⟨blk_below h.out hb⟩
theorem vf (h : Aside0 (Kd.V d e W base ok v xs)) (n : ∀ k, ok k → k ≠ q) (hb : Below (W.setCell ⟨q, j, none⟩ u).heap.size (W.setCell ⟨q, j, none⟩ u) w1) : Aside0 (Kd.V d e w1 base ok v xs) := ⟨Kd.V_below (Kd.V_far (p := ⟨q, j, none⟩) h.out n u) hb⟩
theorem sb (h : Below w.heap.size w W) (hg : Aside0 (w.heap.size ≤ g)) : Below w.heap.size w (W.setCell ⟨g, j, none⟩ u) := below_set h hg.out
end
theorem sa {α : Type} (l : List α) (i : Nat) (a : α) : l.toArray.setIfInBounds i a = (l.set i a).toArray := List.setIfInBounds_toArray ..
theorem sz {α : Type} (l : List α) (x a : α) : (x :: l).set 0 a = a :: l := List.set_cons_zero
theorem ss {α : Type} (l : List α) (x a : α) (i : Nat) : (x :: l).set (i + 1) a = x :: l.set i a := List.set_cons_succ
end Go.Proofs.Ytldbdifdldmgfaa.PAll
end

section
namespace Go.Proofs.Ytldbdifdldmgfaa.PAll
open Go.RowKit Go.Proofs.YtldbdifdldmgfaaW.PrintWords Go.Proofs.YtldbdifdldmgfaaW.PrintLast Go.Proofs.YtldbdifdldmgfaaW.PrintMore
set_option linter.unusedVariables false
def bm0 : Array Bool := #[false, false, false, false, false, false, false, false, false, false, false, false, false, false, false, false, false, false, false, false, false, false, false, false, false, false, false, false, false, false, false, false, false, false, false, false, false, false, false, false, false, false, false, false, false, false, false, false, false, false, false, false, false, false, false, false, false, false, false, false]
def bm1 : Array Bool := #[true, false, false, false, false, false, false, false, false, false, false, false, false, false, false, false, false, false, false, false, false, false, false, false, false, false, false, false, false, false, false, false, false, false, false, false, false, false, false, false, false, false, false, false, false, false, false, false, false, false, false, false, false, false, false, false, false, false, false, false]
def bm2 : Array Bool := #[true, false, true, false, false, false, false, false, false, false, false, false, false, false, false, false, false, false, false, false, false, false, false, false, false, false, false, false, false, false, false, false, false, false, false, false, false, false, false, false, false, false, false, false, false, false, false, false, false, false, false, false, false, false, false, false, false, false, false, false]
def bm3 : Array Bool := #[true, false, true, false, false, false, true, false, false, false, false, false, false, false, false, false, false, false, false, false, false, false, false, false, false, false, false, false, false, false, false, false, false, false, false, false, false, false, false, false, false, false, false, false, false, false, false, false, false, false, false, false, false, false, false, false, false, false, false, false]
def bm4 : Array Bool := #[true, true, true, false, false, false, true, false, false, false, false, false, false, false, false, false, false, false, false, false, false, false, false, false, false, false, false, false, false, false, false, false, false, false, false, false, false, false, false, false, false, false, false, false, false, false, false, false, false, false, false, false, false, false, false, false, false, false, false, false]
def bm5 : Array Bool := #[true, true, true, true, false, false, true, false, false, false, false, false, false, false, false, false, false, false, false, false, false, false, false, false, false, false, false, false, false, false, false, false, false, false, false, false, false, false, false, false, false, false, false, false, false, false, false, false, false, false, false, false, false, false, false, false, false, false, false, false]
def bm6 : Array Bool := #[true, true, true, true, true, false, true, false, false, false, false, false, false, false, false, false, false, false, false, false, false, false, false, false, false, false, false, false, false, false, false, false, false, false, false, false, false, false, false, false, false, false, false, false, false, false, false, false, false, false, false, false, false, false, false, false, false, false, false, false]
def bm7 : Array Bool := #[true, true, true, true, true, true, true, false, false, false, false, false, false, false, false, false, false, false, false, false, false, false, false, false, false, false, false, false, false, false, false, false, false, false, false, false, false, false, false, false, false, false, false, false, false, false, false, false, false, false, false, false, false, false, false, false, false, false, false, false]
def bm8 : Array Bool := #[true, true, true, true, true, true, true, true, false, false, false, false, false, false, false, false, false, false, false, false, false, false, false, false, false, false, false, false, false, false, false, false, false, false, false, false, false, false, false, false, false, false, false, false, false, false, false, false, false, false, false, false, false, false, false, false, false, false, false, false]
def bm9 : Array Bool := #[true, true, true, true, true, true, true, true, true, false, false, false, false, false, false, false, false, false, false, false, false, false, false, false, false, false, false, false, false, false, false, false, false, false, false, false, false, false, false, false, false, false, false, false, false, false, false, false, false, false, false, false, false, false, false, false, false, false, false, false]
def bm10 : Array Bool := #[true, true, true, true, true, true, true, true, true, true, false, false, false, false, false, false, false, false, false, false, false, false, false, false, false, false, false, false, false, false, false, false, false, false, false, false, false, false, false, false, false, false, false, false, false, false, false, false, false, false, false, false, false, false, false, false, false, false, false, false]
def bm11 : Array Bool := #[true, true, true, true, true, true, true, true, true, true, false, true, false, false, false, false, false, false, false, false, false, false, false, false, false, false, false, false, false, false, false, false, false, false, false, false, false, false, false, false, false, false, false, false, false, false, false, false, false, false, false, false, false, false, false, false, false, false, false, false]
def bm12 : Array Bool := #[true, true, true, true, true, true, true, true, true, true, true, true, false, false, false, false, false, false, false, false, false, false, false, false, false, false, false, false, false, false, false, false, false, false, false, false, false, false, false, false, false, false, false, false, false, false, false, false, false, false, false, false, false, false, false, false, false, false, false, false]
def bm13 : Array Bool := #[true, true, true, true, true, true, true, true, true, true, true, true, true, false, false, false, false, false, false, false, false, false, false, false, false, false, false, false, false, false, false, false, false, false, false, false, false, false, false, false, false, false, false, false, false, false, false, false, false, false, false, false, false, false, false, false, false, false, false, false]
def bm14 : Array Bool := #[true, true, true, true, true, true, true, true, true, true, true, true, true, true, false, false, false, false, false, false, false, false, false, false, false, false, false, false, false, false, false, false, false, false, false, false, false, false, false, false, false, false, false, false, false, false, false, false, false, false, false, false, false, false, false, false, false, false, false, false]
def bm15 : Array Bool := #[true, true, true, true, true, true, true, true, true, true, true, true, true, true, true, false, false, false, false, false, false, false, false, false, false, false, false, false, false, false, false, false, false, false, false, false, false, false, false, false, false, false, false, false, false, false, false, false, false, false, false, false, false, false, false, false, false, false, false, false]
def bm16 : Array Bool := #[true, true, true, true, true, true, true, true, true, true, true, true, true, true, true, true, false, false, false, false, false, false, false, false, false, false, false, false, false, false, false, false, false, false, false, false, false, false, false, false, false, false, false, false, false, false, false, false, false, false, false, false, false, false, false, false, false, false, false, false]
def bm17 : Array Bool := #[true, true, true, true, true, true, true, true, true, true, true, true, true, true, true, true, true, false, false, false, false, false, false, false, false, false, false, false, false, false, false, false, false, false, false, false, false, false, false, false, false, false, false, false, false, false, false, false, false, false, false, false, false, false, false, false, false, false, false, false]
def bm18 : Array Bool := #[true, true, true, true, true, true, true, true, true, true, true, true, true, true, true, true, true, true, false, false, false, false, false, false, false, false, false, false, false, false, false, false, false, false, false, false, false, false, false, false, false, false, false, false, false, false, false, false, false, false, false, false, false, false, false, false, false, false, false, false]
def bm19 : Array Bool := #[true, true, true, true, true, true, true, true, true, true, true, true, true, true, true, true, true, true, true, false, false, false, false, false, false, false, false, false, false, false, false, false, false, false, false, false, false, false, false, false, false, false, false, false, false, false, false, false, false, false, false, false, false, false, false, false, false, false, false, false]
def bm20 : Array Bool := #[true, true, true, true, true, true, true, true, true, true, true, true, true, true, true, true, true, true, true, true, false, false, false, false, false, false, false, false, false, false, false, false, false, false, false, false, false, false, false, false, false, false, false, false, false, false, false, false, false, false, false, false, false, false, false, false, false, false, false, false]
def bm21 : Array Bool := #[true, true, true, true, true, true, true, true, true, true, true, true, true, true, true, true, true, true, true, true, true, false, false, false, false, false, false, false, false, false, false, false, false, false, false, false, false, false, false, false, false, false, false, false, false, false, false, false, false, false, false, false, false, false, false, false, false, false, false, false]
def bm22 : Array Bool := #[true, true, true, true, true, true, true, true, true, true, true, true, true, true, true, true, true, true, true, true, true, true, false, false, false, false, false, false, false, false, false, false, false, false, false, false, false, false, false, false, false, false, false, false, false, false, false, false, false, false, false, false, false, false, false, false, false, false, false, false]
def bm23 : Array Bool := #[true, true, true, true, true, true, true, true, true, true, true, true, true, true, true, true, true, true, true, true, true, true, true, false, false, false, false, false, false, false, false, false, false, false, false, false, false, false, false, false, false, false, false, false, false, false, false, false, false, false, false, false, false, false, false, false, false, false, false, false]
def bm24 : Array Bool := #[true, true, true, true, true, true, true, true, true, true, true, true, true, true, true, true, true, true, true, true, true, true, true, true, false, false, false, false, false, false, false, false, false, false, false, false, false, false, false, false, false, false, false, false, false, false, false, false, false, false, false, false, false, false, false, false, false, false, false, false]
def bm25 : Array Bool := #[true, true, true, true, true, true, true, true, true, true, true, true, true, true, true, true, true, true, true, true, true, true, true, true, true, false, false, false, false, false, false, false, false, false, false, false, false, false, false, false, false, false, false, false, false, false, false, false, false, false, false, false, false, false, false, false, false, false, false, false]
def bm26 : Array Bool := #[true, true, true, true, true, true, true, true, true, true, true, true, true, true, true, true, true, true, true, true, true, true, true, true, true, true, false, false, false, false, false, false, false, false, false, false, false, false, false, false, false, false, false, false, false, false, false, false, false, false, false, false, false, false, false, false, false, false, false, false]
def bm27 : Array Bool := #[true, true, true, true, true, true, true, true, true, true, true, true, true, true, true, true, true, true, true, true, true, true, true, true, true, true, true, false, false, false, false, false, false, false, false, false, false, false, false, false, false, false, false, false, false, false, false, false, false, false, false, false, false, false, false, false, false, false, false, false]
def bm28 : Array Bool := #[true, true, true, true, true, true, true, true, true, true, true, true, true, true, true, true, true, true, true, true, true, true, true, true, true, true, true, true, false, false, false, false, false, false, false, false, false, false, false, false, false, false, false, false, false, false, false, false, false, false, false, false, false, false, false, false, false, false, false, false]
def bm29 : Array Bool := #[true, true, true, true, true, true, true, true, true, true, true, true, true, true, true, true, true, true, true, true, true, true, true, true, true, true, true, true, true, false, false, false, false, false, false, false, false, false, false, false, false, false, false, false, false, false, false, false, false, false, false, false, false, false, false, false, false, false, false, false]
def bm30 : Array Bool := #[true, true, true, true, true, true, true, true, true, true, true, true, true, true, true, true, true, true, true, true, true, true, true, true, true, true, true, true, true, true, false, false, false, false, false, false, false, false, false, false, false, false, false, false, false, false, false, false, false, false, false, false, false, false, false, false, false, false, false, false]
def bm31 : Array Bool := #[true, true, true, true, true, true, true, true, true, true, true, true, true, true, true, true, true, true, true, true, true, true, true, true, true, true, true, true, true, true, true, false, false, false, false, false, false, false, false, false, false, false, false, false, false, false, false, false, false, false, false, false, false, false, false, false, false, false, false, false]
def bm32 : Array Bool := #[true, true, true, true, true, true, true, true, true, true, true, true, true, true, true, true, true, true, true, true, true, true, true, true, true, true, true, true, true, true, true, true, false, false, false, false, false, false, false, false, false, false, false, false, false, false, false, false, false, false, false, false, false, false, false, false, false, false, false, false]
def bm33 : Array Bool := #[true, true, true, true, true, true, true, true, true, true, true, true, true, true, true, true, true, true, true, true, true, true, true, true, true, true, true, true, true, true, true, true, true, false, false, false, false, false, false, false, false, false, false, false, false, false, false, false, false, false, false, false, false, false, false, false, false, false, false, false]
def bm34 : Array Bool := #[true, true, true, true, true, true, true, true, true, true, true, true, true, true, true, true, true, true, true, true, true, true, true, true, true, true, true, true, true, true, true, true, true, true, false, false, false, false, false, false, false, false, false, false, false, false, false, false, false, false, false, false, false, false, false, false, false, false, false, false]
def bm35 : Array Bool := #[true, true, true, true, true, true, true, true, true, true, true, true, true, true, true, true, true, true, true, true, true, true, true, true, true, true, true, true, true, true, true, true, true, true, true, false, false, false, false, false, false, false, false, false, false, false, false, false, false, false, false, false, false, false, false, false, false, false, false, false]
def bm36 : Array Bool := #[true, true, true, true, true, true, true, true, true, true, true, true, true, true, true, true, true, true, true, true, true, true, true, true, true, true, true, true, true, true, true, true, true, true, true, true, false, false, false, false, false, false, false, false, false, false, false, false, false, false, false, false, false, false, false, false, false, false, false, false]
def bm37 : Array Bool := #[true, true, true, true, true, true, true, true, true, true, true, true, true, true, true, true, true, true, true, true, true, true, true, true, true, true, true, true, true, true, true, true, true, true, true, true, true, false, false, false, false, false, false, false, false, false, false, false, false, false, false, false, false, false, false, false, false, false, false, false]
def bm38 : Array Bool := #[true, true, true, true, true, true, true, true, true, true, true, true, true, true, true, true, true, true, true, true, true, true, true, true, true, true, true, true, true, true, true, true, true, true, true, true, true, true, false, false, false, false, false, false, false, false, false, false, false, false, false, false, false, false, false, false, false, false, false, false]
def bm39 : Array Bool := #[true, true, true, true, true, true, true, true, true, true, true, true, true, true, true, true, true, true, true, true, true, true, true, true, true, true, true, true, true, true, true, true, true, true, true, true, true, true, true, false, false, false, false, false, false, false, false, false, false, false, false, false, false, false, false, false, false, false, false, false]
def bm40 : Array Bool := #[true, true, true, true, true, true, true, true, true, true, true, true, true, true, true, true, true, true, true, true, true, true, true, true, true, true, true, true, true, true, true, true, true, true, true, true, true, true, true, true, false, false, false, false, false, false, false, false, false, false, false, false, false, false, false, false, false, false, false, false]
def bm41 : Array Bool := #[true, true, true, true, true, true, true, true, true, true, true, true, true, true, true, true, true, true, true, true, true, true, true, true, true, true, true, true, true, true, true, true, true, true, true, true, true, true, true, true, true, false, false, false, false, false, false, false, false, false, false, false, false, false, false, false, false, false, false, false]
def bm42 : Array Bool := #[true, true, true, true, true, true, true, true, true, true, true, true, true, true, true, true, true, true, true, true, true, true, true, true, true, true, true, true, true, true, true, true, true, true, true, true, true, true, true, true, true, true, false, false, false, false, false, false, false, false, false, false, false, false, false, false, false, false, false, false]
def bm43 : Array Bool := #[true, true, true, true, true, true, true, true, true, true, true, true, true, true, true, true, true, true, true, true, true, true, true, true, true, true, true, true, true, true, true, true, true, true, true, true, true, true, true, true, true, true, true, false, false, false, false, false, false, false, false, false, false, false, false, false, false, false, false, false]
def bm44 : Array Bool := #[true, true, true, true, true, true, true, true, true, true, true, true, true, true, true, true, true, true, true, true, true, true, true, true, true, true, true, true, true, true, true, true, true, true, true, true, true, true, true, true, true, true, true, true, false, false, false, false, false, false, false, false, false, false, false, false, false, false, false, false]
def bm45 : Array Bool := #[true, true, true, true, true, true, true, true, true, true, true, true, true, true, true, true, true, true, true, true, true, true, true, true, true, true, true, true, true, true, true, true, true, true, true, true, true, true, true, true, true, true, true, true, true, false, false, false, false, false, false, false, false, false, false, false, false, false, false, false]
def bm46 : Array Bool := #[true, true, true, true, true, true, true, true, true, true, true, true, true, true, true, true, true, true, true, true, true, true, true, true, true, true, true, true, true, true, true, true, true, true, true, true, true, true, true, true, true, true, true, true, true, true, false, false, false, false, false, false, false, false, false, false, false, false, false, false]
def bm47 : Array Bool := #[true, true, true, true, true, true, true, true, true, true, true, true, true, true, true, true, true, true, true, true, true, true, true, true, true, true, true, true, true, true, true, true, true, true, true, true, true, true, true, true, true, true, true, true, true, true, true, false, false, false, false, false, false, false, false, false, false, false, false, false]
def bm48 : Array Bool := #[true, true, true, true, true, true, true, true, true, true, true, true, true, true, true, true, true, true, true, true, true, true, true, true, true, true, true, true, true, true, true, true, true, true, true, true, true, true, true, true, true, true, true, true, true, true, true, true, false, false, false, false, false, false, false, false, false, false, false, false]
def bm49 : Array Bool := #[true, true, true, true, true, true, true, true, true, true, true, true, true, true, true, true, true, true, true, true, true, true, true, true, true, true, true, true, true, true, true, true, true, true, true, true, true, true, true, true, true, true, true, true, true, true, true, true, true, false, false, false, false, false, false, false, false, false, false, false]
def bm50 : Array Bool := #[true, true, true, true, true, true, true, true, true, true, true, true, true, true, true, true, true, true, true, true, true, true, true, true, true, true, true, true, true, true, true, true, true, true, true, true, true, true, true, true, true, true, true, true, true, true, true, true, true, true, false, false, false, false, false, false, false, false, false, false]
def bm51 : Array Bool := #[true, true, true, true, true, true, true, true, true, true, true, true, true, true, true, true, true, true, true, true, true, true, true, true, true, true, true, true, true, true, true, true, true, true, true, true, true, true, true, true, true, true, true, true, true, true, true, true, true, true, true, false, false, false, false, false, false, false, false, false]
def bm52 : Array Bool := #[true, true, true, true, true, true, true, true, true, true, true, true, true, true, true, true, true, true, true, true, true, true, true, true, true, true, true, true, true, true, true, true, true, true, true, true, true, true, true, true, true, true, true, true, true, true, true, true, true, true, true, true, false, false, false, false, false, false, false, false]
def bm53 : Array Bool := #[true, true, true, true, true, true, true, true, true, true, true, true, true, true, true, true, true, true, true, true, true, true, true, true, true, true, true, true, true, true, true, true, true, true, true, true, true, true, true, true, true, true, true, true, true, true, true, true, true, true, true, true, true, false, false, false, false, false, false, false]
def bm54 : Array Bool := #[true, true, true, true, true, true, true, true, true, true, true, true, true, true, true, true, true, true, true, true, true, true, true, true, true, true, true, true, true, true, true, true, true, true, true, true, true, true, true, true, true, true, true, true, true, true, true, true, true, true, true, true, true, true, false, false, false, false, false, false]
def bm55 : Array Bool := #[true, true, true, true, true, true, true, true, true, true, true, true, true, true, true, true, true, true, true, true, true, true, true, true, true, true, true, true, true, true, true, true, true, true, true, true, true, true, true, true, true, true, true, true, true, true, true, true, true, true, true, true, true, true, true, false, false, false, false, false]
def bm56 : Array Bool := #[true, true, true, true, true, true, true, true, true, true, true, true, true, true, true, true, true, true, true, true, true, true, true, true, true, true, true, true, true, true, true, true, true, true, true, true, true, true, true, true, true, true, true, true, true, true, true, true, true, true, true, true, true, true, true, true, false, false, false, false]
def bm57 : Array Bool := #[true, true, true, true, true, true, true, true, true, true, true, true, true, true, true, true, true, true, true, true, true, true, true, true, true, true, true, true, true, true, true, true, true, true, true, true, true, true, true, true, true, true, true, true, true, true, true, true, true, true, true, true, true, true, true, true, true, false, false, false]
def bm58 : Array Bool := #[true, true, true, true, true, true, true, true, true, true, true, true, true, true, true, true, true, true, true, true, true, true, true, true, true, true, true, true, true, true, true, true, true, true, true, true, true, true, true, true, true, true, true, true, true, true, true, true, true, true, true, true, true, true, true, true, true, true, false, false]
def bm59 : Array Bool := #[true, true, true, true, true, true, true, true, true, true, true, true, true, true, true, true, true, true, true, true, true, true, true, true, true, true, true, true, true, true, true, true, true, true, true, true, true, true, true, true, true, true, true, true, true, true, true, true, true, true, true, true, true, true, true, true, true, true, true, false]
def bm60 : Array Bool := #[true, true, true, true, true, true, true, true, true, true, true, true, true, true, true, true, true, true, true, true, true, true, true, true, true, true, true, true, true, true, true, true, true, true, true, true, true, true, true, true, true, true, true, true, true, true, true, true, true, true, true, true, true, true, true, true, true, true, true, true]
def bm61 : Array Bool := #[true, true, true, true, true, true, true, true, true, true, true, true, true, true, true, true, true, true, true, false, true, false, false, false, false, false, false, false, false, false, false, false, false, false, false, false, false, false, false, false, false, false, false, false, false, false, false, false, false, false, false, false, false, false, false, false, false, false, false, false]
def bm62 : Array Bool := #[true, true, true, true, true, true, true, true, true, true, true, true, true, true, true, true, true, true, true, false, true, false, false, false, true, false, false, false, false, false, false, false, false, false, false, false, false, false, false, false, false, false, false, false, false, false, false, false, false, false, false, false, false, false, false, false, false, false, false, false]
def bm63 : Array Bool := #[true, true, true, true, true, true, true, true, true, true, true, true, true, true, true, true, true, true, true, true, true, false, false, false, true, false, false, false, false, false, false, false, false, false, false, false, false, false, false, false, false, false, false, false, false, false, false, false, false, false, false, false, false, false, false, false, false, false, false, false]
def bm64 : Array Bool := #[true, true, true, true, true, true, true, true, true, true, true, true, true, true, true, true, true, true, true, true, true, true, false, false, true, false, false, false, false, false, false, false, false, false, false, false, false, false, false, false, false, false, false, false, false, false, false, false, false, false, false, false, false, false, false, false, false, false, false, false]
def bm65 : Array Bool := #[true, true, true, true, true, true, true, true, true, true, true, true, true, true, true, true, true, true, true, true, true, true, true, false, true, false, false, false, false, false, false, false, false, false, false, false, false, false, false, false, false, false, false, false, false, false, false, false, false, false, false, false, false, false, false, false, false, false, false, false]
def bm66 : Array Bool := #[true, true, true, true, true, true, true, true, true, true, true, true, true, true, true, true, true, true, true, true, true, true, true, true, true, true, true, true, true, true, true, true, true, true, true, true, true, false, true, false, false, false, false, false, false, false, false, false, false, false, false, false, false, false, false, false, false, false, false, false]
def bm67 : Array Bool := #[true, true, true, true, true, true, true, true, true, true, true, true, true, true, true, true, true, true, true, true, true, true, true, true, true, true, true, true, true, true, true, true, true, true, true, true, true, false, true, false, false, false, true, false, false, false, false, false, false, false, false, false, false, false, false, false, false, false, false, false]
def bm68 : Array Bool := #[true, true, true, true, true, true, true, true, true, true, true, true, true, true, true, true, true, true, true, true, true, true, true, true, true, true, true, true, true, true, true, true, true, true, true, true, true, true, true, false, false, false, true, false, false, false, false, false, false, false, false, false, false, false, false, false, false, false, false, false]
def bm69 : Array Bool := #[true, true, true, true, true, true, true, true, true, true, true, true, true, true, true, true, true, true, true, true, true, true, true, true, true, true, true, true, true, true, true, true, true, true, true, true, true, true, true, true, false, false, true, false, false, false, false, false, false, false, false, false, false, false, false, false, false, false, false, false]
def bm70 : Array Bool := #[true, true, true, true, true, true, true, true, true, true, true, true, true, true, true, true, true, true, true, true, true, true, true, true, true, true, true, true, true, true, true, true, true, true, true, true, true, true, true, true, true, false, true, false, false, false, false, false, false, false, false, false, false, false, false, false, false, false, false, false]
def bm71 : Array Bool := #[true, true, true, true, true, true, true, true, true, true, true, true, true, true, true, true, true, true, true, true, true, true, true, true, true, true, true, true, true, true, true, true, true, true, true, true, true, true, true, true, true, true, true, true, true, true, false, true, false, false, false, false, false, false, false, false, false, false, false, false]
def bm72 : Array Bool := #[true, true, true, true, true, true, true, true, true, true, true, true, true, true, true, true, true, true, true, true, true, true, true, true, true, true, true, true, true, true, true, true, true, true, true, true, true, true, true, true, true, true, true, true, true, true, false, true, false, false, false, true, false, false, false, false, false, false, false, false]
def bm73 : Array Bool := #[true, true, true, true, true, true, true, true, true, true, true, true, true, true, true, true, true, true, true, true, true, true, true, true, true, true, true, true, true, true, true, true, true, true, true, true, true, true, true, true, true, true, true, true, true, true, true, true, false, false, false, true, false, false, false, false, false, false, false, false]
def bm74 : Array Bool := #[true, true, true, true, true, true, true, true, true, true, true, true, true, true, true, true, true, true, true, true, true, true, true, true, true, true, true, true, true, true, true, true, true, true, true, true, true, true, true, true, true, true, true, true, true, true, true, true, true, false, false, true, false, false, false, false, false, false, false, false]
def bm75 : Array Bool := #[true, true, true, true, true, true, true, true, true, true, true, true, true, true, true, true, true, true, true, true, true, true, true, true, true, true, true, true, true, true, true, true, true, true, true, true, true, true, true, true, true, true, true, true, true, true, true, true, true, true, false, true, false, false, false, false, false, false, false, false]
def bm76 : Array Bool := #[true, true, true, true, true, true, true, true, true, true, true, false, false, false, false, false, false, false, false, false, false, false, false, false, false, false, false, false, false, false, false, false, false, false, false, false, false, false, false, false, false, false, false, false, false, false, false, false, false, false, false, false, false, false, false, false, false, false, false, false]
def bm77 : Array Bool := #[false, false, false, false, false, false, false, false, false, false]
def bm78 : Array Bool := #[true, false, false, false, false, false, false, false, false, false]
def bm79 : Array Bool := #[true, true, false, false, false, false, false, false, false, false]
def bm80 : Array Bool := #[true, true, false, true, false, false, false, false, false, false]
def bm81 : Array Bool := #[true, true, false, true, true, false, false, false, false, false]
def bm82 : Array Bool := #[true, true, false, true, true, true, false, false, false, false]
def bm83 : Array Bool := #[true, true, false, true, true, true, true, false, false, false]
def bm84 : Array Bool := #[true, true, false, true, true, true, true, true, false, false]
def bm85 : Array Bool := #[true, true, true, true, true, true, true, true, false, false]
def bm86 : Array Bool := #[true, true, true, true, true, true, true, true, true, false]
def bm87 : Array Bool := #[true, true, true, true, true, true, true, true, true, true]
section
variable {P : Program} {ops : Array Oper} {Q : Exit → Act → World → Prop} {md : Region.Mode} {S : World → Prop} {ds : List Nat} {T : Bool × List (List Nat × List Nat)} {i : Nat} {N : Option Tmp} {oi : Oper} {v : Value} {fuel : Nat} {l : Array Bool} {a : Act} {w : World}
/-- 'pure_' with its table. -/
theorem pu (HT : Aside0 (rtab md ops = T)) (l' : Array Bool) (hi : ops[i]? = some oi) (hN : oi.dst = N) (h0 : anyT T l.toList l'.toList i = true) (hQ : ∀ c a w, Q (.panic c) (a.put oi.dst v) w → Q (.panic c) a w) (hw : Region.wanted oi (yielded ops a.tmps) = true) (hy : ∀ w, (execOp a.eval oi).run P w = .ok (.value v) w) {a' : Act} (ha : a.put N v = a') (h : wpAnyLast P md ops Q S ds fuel l' a' w) : wpAnyLast P md ops Q S ds (fuel + 1) l a w := pure_ l' hi hN (any_of HT.out h0) hQ (Or.inl ⟨hw, hy⟩) ha h
theorem pn (HT : Aside0 (rtab md ops = T)) (l' : Array Bool) (hi : ops[i]? = some oi) (hN : oi.dst = N) (h0 : anyT T l.toList l'.toList i = true) (hQ : ∀ c a w, Q (.panic c) (a.put oi.dst undef) w → Q (.panic c) a w) (hw : Region.wanted oi (yielded ops a.tmps) = false) {a' : Act} (ha : a.put N undef = a') (h : wpAnyLast P md ops Q S ds fuel l' a' w) : wpAnyLast P md ops Q S ds (fuel + 1) l a w := pure_ l' hi hN (any_of HT.out h0) hQ (Or.inr ⟨hw, rfl⟩) ha h
end
end Go.Proofs.Ytldbdifdldmgfaa.PAll
end

section
namespace Go.Proofs.Ytldbdifdldmgfaa.PAll
open Go.RowKit Go.Proofs.YtldbdifdldmgfaaW.PrintWords Go.Proofs.YtldbdifdldmgfaaW.PrintLast Go.Proofs.YtldbdifdldmgfaaW.PrintMore
attribute [local go_sem] max2_int min2_int max_two min_two max_three min_three max_four min_four   -- for this text's walks alone
set_option linter.unusedVariables false
set_option linter.unusedSimpArgs false
mutual
def hcp.j0 : Nat → Int → Bool → List (List Int) → List (List Int) → Option (Bool)
 | 0, _, _, _, _ => none
 | k + 1, x3, x36, x440000, x440001 => if x36 = true then (some true) else (if 0 < (x440000.length : Int) then ((heraldref24_Sum.f k (rd_L1 x440000 0)).bind fun t442 => (if t442 = 2 then (hcp.j1 k x3 t442 false x440000 x440001) else (hcp.j1 k x3 t442 (t442 != 4) x440000 x440001))) else (none))
def hcp.j1 : Nat → Int → Int → Bool → List (List Int) → List (List Int) → Option (Bool)
 | 0, _, _, _, _, _ => none
 | k + 1, x3, x4, x47, x440000, x440001 => if x47 = true then (some true) else (hcp.l0 k x3 x4 (x440000.length : Int) 0 x440000 x440001)
def hcp.l0 : Nat → Int → Int → Int → Int → List (List Int) → List (List Int) → Option (Bool)
 | 0, _, _, _, _, _, _ => none
 | k + 1, x3, x4, x50, x51, x440000, x440001 => if x51 < x50 then (if 0 ≤ x51 then (if x51 < (x440000.length : Int) then ((heraldref24_Sum.f k (rd_L1 x440000 x51)).bind fun t444 => (if t444 = x4 then (if ((rd_L1 x440000 x51).length : Int) > 4 then (hcp.j3 k x3 x4 x50 x51 true x440000 x440001) else (if 0 < (x440000.length : Int) then (if ((rd_L1 x440000 x51).length : Int) = ((rd_L1 x440000 0).length : Int) then (if x51 < x3 then (if x51 < (x440001.length : Int) then ((heraldref24_Sum.f k (rd_L1 x440001 x51)).bind fun t449 => (if t449 = x4 then (hcp.j3 k x3 x4 x50 x51 (((rd_L1 x440001 x51).length : Int) != ((rd_L1 x440000 0).length : Int)) x440000 x440001) else (hcp.j3 k x3 x4 x50 x51 true x440000 x440001))) else (none)) else (hcp.j3 k x3 x4 x50 x51 false x440000 x440001)) else (hcp.j3 k x3 x4 x50 x51 true x440000 x440001)) else (none))) else (hcp.j3 k x3 x4 x50 x51 true x440000 x440001))) else (none)) else (none)) else (hcp.l1 k x3 x4 1 (wrap64 (x3 + 1)) 0 x440000 x440001)
def hcp.j3 : Nat → Int → Int → Int → Int → Bool → List (List Int) → List (List Int) → Option (Bool)
 | 0, _, _, _, _, _, _, _ => none
 | k + 1, x3, x4, x50, x51, x113, x440000, x440001 => if x113 = true then (some true) else (hcp.l0 k x3 x4 x50 (wrap64 (x51 + 1)) x440000 x440001)
def hcp.l1 : Nat → Int → Int → Int → Int → Int → List (List Int) → List (List Int) → Option (Bool)
 | 0, _, _, _, _, _, _, _ => none
 | k + 1, x3, x4, x6, x116, x117, x440000, x440001 => if x117 < x116 then (hcp.l1 k x3 x4 (wrap64 (x6 * x4)) x116 (wrap64 (x117 + 1)) x440000 x440001) else (hcp.l2 k x3 x4 x6 ([] : List (List Int)) ([] : List Int) x6 0 x440000 x440001)
def hcp.l2 : Nat → Int → Int → Int → List (List Int) → List Int → Int → Int → List (List Int) → List (List Int) → Option (Bool)
 | 0, _, _, _, _, _, _, _, _, _ => none
 | k + 1, x3, x4, x6, x7, x8, x123, x124, x440000, x440001 => if x124 < x123 then (hcp.l3 k x3 x4 x6 x7 x8 ([] : List Int) x124 0 x123 x124 x440000 x440001) else (hcp.l6 k x4 x6 x7 x8 x7 (x7.length : Int) 0 x440000 x440001)
def hcp.l3 : Nat → Int → Int → Int → List (List Int) → List Int → List Int → Int → Int → Int → Int → List (List Int) → List (List Int) → Option (Bool)
 | 0, _, _, _, _, _, _, _, _, _, _, _, _ => none
 | k + 1, x3, x4, x6, x7, x8, x10, x11, x12, x123, x124, x440000, x440001 => if x12 ≤ x3 then (if x4 = 0 then (none) else (if x10.length < 17592186044416 then (hcp.l3 k x3 x4 x6 x7 x8 (x10 ++ [Int.tmod x11 x4]) (wrap64 (Int.tdiv x11 x4)) (wrap64 (x12 + 1)) x123 x124 x440000 x440001) else (none))) else ((couple_Chain.f k x440000 x440001 x10).bind fun bt455 => (if bt455.2.2 = 0 then (if (bt455.1.length : Int) < 1 then (hcp.j7 k x3 x4 x6 x7 x8 bt455.1 x123 x124 true x440000 x440001) else (if (bt455.1.length : Int) > (wrap64 (x3 + 1)) then (hcp.j7 k x3 x4 x6 x7 x8 bt455.1 x123 x124 true x440000 x440001) else (hcp.j7 k x3 x4 x6 x7 x8 bt455.1 x123 x124 (bt455.2.1 != (wrap64 ((bt455.1.length : Int) - 1))) x440000 x440001))) else (hcp.j7 k x3 x4 x6 x7 x8 bt455.1 x123 x124 true x440000 x440001)))
def hcp.j7 : Nat → Int → Int → Int → List (List Int) → List Int → List Int → Int → Int → Bool → List (List Int) → List (List Int) → Option (Bool)
 | 0, _, _, _, _, _, _, _, _, _, _, _ => none
 | k + 1, x3, x4, x6, x7, x8, x13, x123, x124, x172, x440000, x440001 => if x172 = true then (some false) else (hcp.l4 k x3 x4 x6 x7 x8 x13 x123 x124 x13 (x13.length : Int) 0 x440000 x440001)
def hcp.l4 : Nat → Int → Int → Int → List (List Int) → List Int → List Int → Int → Int → List Int → Int → Int → List (List Int) → List (List Int) → Option (Bool)
 | 0, _, _, _, _, _, _, _, _, _, _, _, _, _ => none
 | k + 1, x3, x4, x6, x7, x8, x13, x123, x124, x173, x174, x175, x440000, x440001 => if x175 < x174 then (if 0 ≤ x175 then (if x175 < (x173.length : Int) then (if (rd x173 x175) < 0 then (some false) else (if 0 < (x440000.length : Int) then (if (rd x173 x175) ≥ ((rd_L1 x440000 0).length : Int) then (some false) else (hcp.l4 k x3 x4 x6 x7 x8 x13 x123 x124 x173 x174 (wrap64 (x175 + 1)) x440000 x440001)) else (none))) else (none)) else (none)) else (hcp.l5 k x3 x4 x6 x7 x8 x13 0 x123 x124 x440000 x440001)
def hcp.j10 : Nat → Int → Int → Int → List (List Int) → List Int → List Int → Int → Int → Int → List (List Int) → List (List Int) → Option (Bool)
 | 0, _, _, _, _, _, _, _, _, _, _, _ => none
 | k + 1, x3, x4, x6, x7, x8, x13, x18, x123, x124, x440000, x440001 => if x18 = (x7.length : Int) then (if x7.length < 5864062014805 then (if x8.length < 17592186044416 then ((some (x8 ++ [0] : List Int)).bind fun y467 => (if 0 ≤ x18 then (if x18 < (y467.length : Int) then (hcp.l2 k x3 x4 x6 (x7 ++ [x13]) (y467.set (x18 : Int).toNat (wrap64 ((rd y467 x18) + 1))) x123 (wrap64 (x124 + 1)) x440000 x440001) else (none)) else (none))) else (none)) else (none)) else (if 0 ≤ x18 then (if x18 < (x8.length : Int) then (hcp.l2 k x3 x4 x6 x7 (x8.set (x18 : Int).toNat (wrap64 ((rd x8 x18) + 1))) x123 (wrap64 (x124 + 1)) x440000 x440001) else (none)) else (none))
def hcp.l5 : Nat → Int → Int → Int → List (List Int) → List Int → List Int → Int → Int → Int → List (List Int) → List (List Int) → Option (Bool)
 | 0, _, _, _, _, _, _, _, _, _, _, _ => none
 | k + 1, x3, x4, x6, x7, x8, x13, x18, x123, x124, x440000, x440001 => if x18 < (x7.length : Int) then (if 0 ≤ x18 then ((heraldlaw24_alike.f k (rd_L4 x7 x18) x13).bind fun t463 => (if t463 = true then (hcp.j10 k x3 x4 x6 x7 x8 x13 x18 x123 x124 x440000 x440001) else (hcp.l5 k x3 x4 x6 x7 x8 x13 (wrap64 (x18 + 1)) x123 x124 x440000 x440001))) else (none)) else (hcp.j10 k x3 x4 x6 x7 x8 x13 x18 x123 x124 x440000 x440001)
def hcp.l6 : Nat → Int → Int → List (List Int) → List Int → List (List Int) → Int → Int → List (List Int) → List (List Int) → Option (Bool)
 | 0, _, _, _, _, _, _, _, _, _ => none
 | k + 1, x4, x6, x7, x8, x224, x225, x226, x440000, x440001 => if x226 < x225 then (if 0 ≤ x226 then (if x226 < (x224.length : Int) then (hcp.l7 k x4 x6 x7 x8 (rd_L4 x224 x226) 1 x224 x225 x226 x440000 x440001) else (none)) else (none)) else (some true)
def hcp.l7 : Nat → Int → Int → List (List Int) → List Int → List Int → Int → List (List Int) → Int → Int → List (List Int) → List (List Int) → Option (Bool)
 | 0, _, _, _, _, _, _, _, _, _, _, _ => none
 | k + 1, x4, x6, x7, x8, x20, x21, x224, x225, x226, x440000, x440001 => if x21 ≤ (x20.length : Int) then (if 0 ≤ x21 then ((heraldlaw24_exact.f k x7 x8 x440000 x440001 (x20.take (x21 : Int).toNat) x6 x4).bind fun t476 => (if t476 = true then (hcp.l7 k x4 x6 x7 x8 x20 (wrap64 (x21 + 1)) x224 x225 x226 x440000 x440001) else (some false))) else (none)) else (hcp.l6 k x4 x6 x7 x8 x224 x225 (wrap64 (x226 + 1)) x440000 x440001)
end
def hcp.f (k : Nat) (l0_0 : List (List Int)) (l0_1 : List (List Int)) : Option (Bool) := (heraldlaw24_awake.f k).bind fun t440 => (if t440 = true then (if (l0_1.length : Int) > 3 then (hcp.j0 k (l0_1.length : Int) true l0_0 l0_1) else (hcp.j0 k (l0_1.length : Int) ((l0_0.length : Int) != (wrap64 ((l0_1.length : Int) + 1))) l0_0 l0_1)) else (some false))
def hcp.T12 : Bool × List (List Nat × List Nat) := (true, [([], []), ([0], [0]), ([], []), ([1, 2], [1, 2]), ([3], [3]), ([4], [4]), ([], []), ([5, 6], [5, 6]), ([7, 5], [7]), ([8], [8]), ([9, 8], [8, 9]), ([8], [8]), ([10, 11, 8], [8, 10, 11]), ([12, 8], [8, 12]), ([13, 8], [8, 13]), ([14, 8], [8, 14]), ([8, 15], [8, 15]), ([16, 8], [16]), ([17], [17]), ([18, 17], [17, 18]), ([17], [17]), ([19, 20, 17], [17, 19, 20]), ([21, 17], [17, 21]), ([22, 17], [17, 22]), ([17], [17]), ([24, 17], [17, 24]), ([25, 17], [17, 25]), ([26, 17], [17, 26]), ([27, 17], [17, 27]), ([23, 28, 17], [17, 23, 28]), ([17, 29], [17, 29]), ([30, 17], [30]), ([31], [31]), ([31], [31]), ([32, 33, 31], [31, 32, 33]), ([34, 31, 31], [31, 34]), ([35], [35]), ([36, 35], [35, 36]), ([35], [35]), ([37, 38, 35], [35, 37, 38]), ([39, 35], [35, 39]), ([40, 35, 35], [35, 40]), ([35], [35]), ([41, 42, 35], [35, 41, 42]), ([43, 41, 35], [35, 43]), ([44], [44]), ([45, 44], [44, 45]), ([44], [44]), ([46, 47, 44], [44, 46, 47]), ([48, 44], [44, 48]), ([49, 44], [44, 49]), ([44], [44]), ([51, 44], [44, 51]), ([52, 44], [44, 52]), ([53, 44], [44, 53]), ([54, 44], [44, 54]), ([50, 55, 44], [44, 50, 55]), ([44, 56, 35], [35, 44, 56]), ([35, 57, 31], [31, 35, 57]), ([31, 58], [31, 58])])
def hcp.B12 : List Nat := [0, 1, 0, 7, 15, 31, 0, 127, 255, 511, 1023, 511, 4095, 8191, 16383, 32767, 65535, 131071, 262143, 524287, 262143, 2097151, 4194303, 8388607, 262143, 17039359, 50593791, 117702655, 251920383, 536870911, 1073741823, 2147483647, 4294967295, 4294967295, 17179869183, 34359738367, 68719476735, 137438953471, 68719476735, 549755813887, 1099511627775, 2199023255551, 68719476735, 8796093022207, 17592186044415, 35184372088831, 70368744177663, 35184372088831, 281474976710655, 562949953421311, 1125899906842623, 35184372088831, 2286984185774079, 6790583813144575, 15797783067885567, 33812181577367551, 72057594037927935, 144115188075855871, 288230376151711743, 576460752303423487]
theorem hcp.tab12 : rtab .any (opsOf Try.f12 12) = hcp.T12 := by kernel_rfl
theorem hcp.bits12 : waitsOk hcp.T12.2 hcp.B12 = true := by kernel_rfl
def hcp.T53 : Bool × List (List Nat × List Nat) := (true, [([], []), ([], []), ([], []), ([], []), ([], []), ([3, 4], [3, 4]), ([], []), ([], []), ([0, 1, 2, 5, 6, 7], [0, 1, 2, 5, 6, 7]), ([8], [8])])
def hcp.B53 : List Nat := [0, 0, 0, 0, 0, 24, 0, 0, 255, 511]
theorem hcp.tab53 : rtab .any (opsOf Try.f12 53) = hcp.T53 := by kernel_rfl
theorem hcp.bits53 : waitsOk hcp.T53.2 hcp.B53 = true := by kernel_rfl
end Go.Proofs.Ytldbdifdldmgfaa.PAll
end
