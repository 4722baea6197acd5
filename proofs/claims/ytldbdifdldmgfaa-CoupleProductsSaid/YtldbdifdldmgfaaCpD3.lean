/- Texts of this session and printed texts, merged, what is not needed left out: Pc. -/
import Derived.Test.YtldbdifdldmgfaaCpD0
import Derived.Test.YtldbdifdldmgfaaCpD1
import Derived.Test.YtldbdifdldmgfaaCpD2
section
namespace Go.Proofs.Ytldbdifdldmgfaa.PAll
open Go.RowKit Go.Proofs.YtldbdifdldmgfaaW.PrintWords Go.Proofs.YtldbdifdldmgfaaW.PrintLast Go.Proofs.YtldbdifdldmgfaaW.PrintMore
attribute [local go_sem] max2_int min2_int max_two min_two max_three min_three max_four min_four   -- for this text's walks alone
set_option linter.unusedVariables false
set_option linter.unusedSimpArgs false
set_option maxHeartbeats 8000000 in
set_option maxRecDepth 100000 in
theorem hcp.calls (k : Nat) (A0_0 : Option Addr) (c0_0 : Nat) (l0_0 : List (List Int)) (A0_1 : Option Addr) (c0_1 : Nat) (l0_1 : List (List Int)) (r : Bool) (w : World) (hr0_0 : Kd.C (Kd.slice 2 (Kd.int .i64)) w A0_0 l0_0.length l0_0) (hc0_0 : l0_0.length ≤ c0_0) (hr0_1 : Kd.C (Kd.slice 2 (Kd.int .i64)) w A0_1 l0_1.length l0_1) (hc0_1 : l0_1.length ≤ c0_1) (h : hcp.f k l0_0 l0_1 = some r) :
  Calls Try.prog 12 #[.agg #[.slice A0_0 l0_0.length c0_0, .slice A0_1 l0_1.length c0_1]] w fun e w' => e = .returned (.bool r) ∧ Below w.heap.size w w' := by
 have hu59 := Try.underlying59
 have HR0_0 := Aside0.mk hr0_0
 have HC0_0 := Aside0.mk hc0_0
 clear hr0_0 hc0_0
 have HR0_1 := Aside0.mk hr0_1
 have HC0_1 := Aside0.mk hc0_1
 clear hr0_1 hc0_1
 have HB := Aside0.mk (Below.refl w.heap.size w)
 have H : ((heraldlaw24_awake.f k).bind fun t440 => (if t440 = true then (if (l0_1.length : Int) > 3 then (hcp.j0 k (l0_1.length : Int) true l0_0 l0_1) else (hcp.j0 k (l0_1.length : Int) ((l0_0.length : Int) != (wrap64 ((l0_1.length : Int) + 1))) l0_0 l0_1)) else (some false))) = some r := h
 clear h
 replace H := Option.bind_eq_some_iff.mp H
 obtain ⟨t440, A20, H⟩ := H
 replace H : (if t440 = true then (if (l0_1.length : Int) > 3 then (hcp.j0 k (l0_1.length : Int) true l0_0 l0_1) else (hcp.j0 k (l0_1.length : Int) ((l0_0.length : Int) != (wrap64 ((l0_1.length : Int) + 1))) l0_0 l0_1)) else (some false)) = some r := H
 have A2 := Aside0.mk A20
 clear A20
 by_cases c3 : t440 = true
 ·subst c3
  have H1 : (if (l0_1.length : Int) > 3 then (hcp.j0 k (l0_1.length : Int) true l0_0 l0_1) else (hcp.j0 k (l0_1.length : Int) ((l0_0.length : Int) != (wrap64 ((l0_1.length : Int) + 1))) l0_0 l0_1)) = some r := by rw [if_pos rfl] at H; exact H
  clear H
  have H := H1
  clear H1
  have HC4 := Aside0.mk H
  clear H
  go_enter Try.func12, Try.ntmps12
  go_upto_region 4 with (first | ((with_reducible refine gate_dst (N := 1) rfl ?_); (try (refine gate_guard (by rfl) ?_; dsimp only)); refine box_event ?hg (N := 1) ?hd (cs := #[.slice A0_0 l0_0.length c0_0, .slice A0_1 l0_1.length c0_1]) (t := 59) ?hr ?_; (case hd => rfl); (case hg => rfl); (case hr => first | (go_simp; done) | (go_simp; rfl)); intro gb439 hg w5 hbox hb; have BK439 := Aside0.mk (hbox); have GW439 := Aside0.mk ((by rw [hg]; exact (below_size HB.out) : w.heap.size ≤ gb439)); have GE439 := Aside0.mk ((by rw [hg]; exact (below_size HB.out) : w.heap.size ≤ gb439)); replace HB := Aside0.mk (below_step HB.out hb); clear hb hbox hg) | ((with_reducible refine gate_callee (f := 14) rfl ?_); refine goesL_ (some 22) rfl rfl Try.func14 (by kernel_rfl) rfl #[] rfl (by (try simp only [List.map_toArray, List.map_cons, List.map_nil]); first | done | rfl | (simp only [List.length_drop, List.length_take]; rfl)) ?_; (with_reducible refine (heraldlaw24_awake.calls k  true _ A2.out).mono ?_); rintro e w6 ⟨rfl, hb⟩; refine ⟨_, rfl, ?_⟩; replace BK439 := bb BK439 hb; replace HB := Aside0.mk (below_step (by repeat (first | exact HB.out | apply pw_below_drewN | refine sb ?_ GE439)) hb); (try clear hb); (try clear hb2); (try clear hk); (try clear hi); have hcz7_0 : w6.cell? ⟨gb439, 0, none⟩ = some (.slice A0_0 l0_0.length c0_0) := (blk_cell BK439.out 0).trans rfl; have hcz7_1 : w6.cell? ⟨gb439, 1, none⟩ = some (.slice A0_1 l0_1.length c0_1) := (blk_cell BK439.out 1).trans rfl; have hfz7_0 := blk_frozen BK439.out 0; have hfz7_1 := blk_frozen BK439.out 1))
  (try simp only [Act.put, List.setIfInBounds_toArray, List.set_cons_zero, List.set_cons_succ])
  go_cut [36] (fun v36 wc => ∃ (kq : Nat) (x36_3 : Bool), v36 = .bool x36_3 ∧ Aside0 (hcp.j0 kq (l0_1.length : Int) x36_3 l0_0 l0_1 = some r) ∧ Aside0 (kq ≤ k) ∧ Aside0 (wc.heap[gb439]? = some (.cells #[(.slice A0_0 l0_0.length c0_0), (.slice A0_1 l0_1.length c0_1)] 59 (0, 0))) ∧ Aside0 (Below w.heap.size w wc))
  case first =>
   have H := HC4.out
   clear HC4
   by_cases c8 : (l0_1.length : Int) > 3
   ·rw [if_pos c8] at H
    have c8b0 : decide (3 < (l0_1.length : Int)) = true := decide_eq_true c8
    have c8b1 : decide (3 < l0_1.length) = true := decide_eq_true (by omega)
    clear c8
    (first | rw [c8b0] | (simp only [i64_w, i32_w]; rw [c8b0]) | skip)
    as_aux_lemma =>
     have H' := Aside0.mk H
     clear H
     go_wp2
     go_meet
     case rel => exact ⟨_, (true), (by first | rfl | (simp; done) | (simp [*]; done) | (simp [i64_w]; done) | (simp [*, i64_w]; done)), H', ⟨by first | omega | exact Nat.le_refl _⟩, ⟨by exact BK439.out⟩, ⟨by repeat (first | exact HB.out | apply pw_below_drewN | refine sb ?_ GE439)⟩⟩
   ·rw [if_neg c8] at H
    have c8b0 : decide (3 < (l0_1.length : Int)) = false := decide_eq_false c8
    have c8b1 : decide (3 < l0_1.length) = false := decide_eq_false (by omega)
    clear c8
    (first | rw [c8b0] | (simp only [i64_w, i32_w]; rw [c8b0]) | skip)
    as_aux_lemma =>
     have H' := Aside0.mk H
     clear H
     have hcz9_0 : w6.cell? ⟨gb439, 0, none⟩ = some (.slice A0_0 l0_0.length c0_0) := (blk_cell BK439.out 0).trans rfl
     have hcz9_1 : w6.cell? ⟨gb439, 1, none⟩ = some (.slice A0_1 l0_1.length c0_1) := (blk_cell BK439.out 1).trans rfl
     have hfz9_0 := blk_frozen BK439.out 0
     have hfz9_1 := blk_frozen BK439.out 1
     go_wp2
     go_meet
     case rel => exact ⟨_, (((l0_0.length : Int) != (wrap64 ((l0_1.length : Int) + 1)))), (by first | rfl | (simp; done) | (simp [*]; done) | (simp [i64_w]; done) | (simp [*, i64_w]; done)), H', ⟨by first | omega | exact Nat.le_refl _⟩, ⟨by exact BK439.out⟩, ⟨by repeat (first | exact HB.out | apply pw_below_drewN | refine sb ?_ GE439)⟩⟩
  case rest =>
   clear HC4
   try clear c1
   try clear p2
   try clear c3
   try clear p6
   try clear c8
   try clear c8b0
   try clear c8b1
   try clear hcz7_0
   try clear hcz7_1
   try clear hcz9_0
   try clear hcz9_1
   try clear hfz7_0
   try clear hfz7_1
   try clear hfz9_0
   try clear hfz9_1
   obtain ⟨kq, x36_3, rfl, HA, HJ3, BK439, HB⟩ := hcut
   cases kq with
   | zero => exact absurd HA.out (by simp [hcp.j0])
   | succ kj3 =>
    have H := HA.out
    clear HA
    simp only [hcp.j0] at H
    by_cases c10 : x36_3 = true
    ·subst c10
     have H1 : (some true) = some r := by rw [if_pos rfl] at H; exact H
     clear H
     have H := H1
     clear H1
     as_aux_lemma =>
      obtain rfl := Option.some.inj H
      go_wp2
      go_ret
      exact ⟨by first | rfl | (simp [errW_none, errW_some] <;> rfl) | (simp [*, errW_none, errW_some] <;> rfl), by repeat (first | exact HB.out | apply pw_below_drewN | refine sb ?_ GE439)⟩
    ·replace c10 := Bool.eq_false_iff.mpr c10
     subst c10
     have H1 : (if 0 < (l0_0.length : Int) then ((heraldref24_Sum.f kj3 (rd_L1 l0_0 0)).bind fun t442 => (if t442 = 2 then (hcp.j1 kj3 (l0_1.length : Int) t442 false l0_0 l0_1) else (hcp.j1 kj3 (l0_1.length : Int) t442 (t442 != 4) l0_0 l0_1))) else (none)) = some r := by rw [if_neg (show ¬ (false = true) by decide)] at H; exact H
     clear H
     have H := H1
     clear H1
     by_cases c11 : 0 < (l0_0.length : Int)
     ·rw [if_pos c11] at H
      have c11b0 : decide (0 < (l0_0.length : Int)) = true := decide_eq_true c11
      have c11b1 : decide (0 < l0_0.length) = true := decide_eq_true (by omega)
      clear c11
      replace H := Option.bind_eq_some_iff.mp H
      obtain ⟨t442, A120, H⟩ := H
      replace H : (if t442 = 2 then (hcp.j1 kj3 (l0_1.length : Int) t442 false l0_0 l0_1) else (hcp.j1 kj3 (l0_1.length : Int) t442 (t442 != 4) l0_0 l0_1)) = some r := H
      have A12 := Aside0.mk A120
      clear A120
      have HC13 := Aside0.mk H
      clear H
      have hcz14_0 : wc.cell? ⟨gb439, 0, none⟩ = some (.slice A0_0 l0_0.length c0_0) := (blk_cell BK439.out 0).trans rfl
      have hcz14_1 : wc.cell? ⟨gb439, 1, none⟩ = some (.slice A0_1 l0_1.length c0_1) := (blk_cell BK439.out 1).trans rfl
      have hfz14_0 := blk_frozen BK439.out 0
      have hfz14_1 := blk_frozen BK439.out 1
      have p441 : 0 ≤ (0 : Int) := (by omega)
      have q441 : 0 < (l0_0.length : Int) := of_decide_eq_true (by first | (with_reducible assumption) | assumption)
      obtain ⟨ad441, A441_0, c441_0, e441, hx441_0, hl441_0, hi441_0⟩ := at_L1 HR0_0.out 0 p441 q441
      cases e441
      have qi441 : (0 < l0_0.length) = True := eq_true (by omega)
      (try rw [show ((0 : Int)).toNat = 0 from rfl] at hx441_0)
      (try rw [Addr.add_zero'] at hx441_0)
      replace hx441_0 := (HB.out.cell (World.block_lt_of_cell? w _ hx441_0)).trans hx441_0
      have HR441_0 := Aside0.mk hi441_0
      have HC441_0 := Aside0.mk hl441_0
      clear hi441_0 hl441_0
      replace p441 := eq_true p441
      replace q441 := eq_true q441
      go_upto_region 7 with (first | ((with_reducible refine gate_callee (f := 15) rfl ?_); refine goesL_ (some 41) rfl rfl Try.func15 (by kernel_rfl) rfl #[.slice A441_0 (rd_L1 l0_0 0).length c441_0] rfl (by (try simp only [List.map_toArray, List.map_cons, List.map_nil]); first | done | rfl | (simp only [List.length_drop, List.length_take]; rfl)) ?_; (with_reducible refine (heraldref24_Sum.calls kj3 _ _ (rd_L1 l0_0 0) t442 _ ?side1 ?side2 A12.out).mono ?_); (case side1 => repeat (first | exact (Kd.C_below HR441_0.out HB.out) | (with_reducible refine Kd.C_alloc ?_ _) | (with_reducible refine Kd.C_drewN ?_ _) | (with_reducible refine Kd.C_drew ?_))); (case side2 => exact HC441_0.out); rintro e w' ⟨rfl, ⟨nd, rfl⟩⟩; refine ⟨_, rfl, ?_⟩))
      (try simp only [Act.put, List.setIfInBounds_toArray, List.set_cons_zero, List.set_cons_succ])
      go_cut [47] (fun v47 wc => ∃ (kq : Nat) (x47_12 : Bool), v47 = .bool x47_12 ∧ Aside0 (hcp.j1 kq (l0_1.length : Int) t442 x47_12 l0_0 l0_1 = some r) ∧ Aside0 (kq ≤ kj3) ∧ Aside0 (wc.heap[gb439]? = some (.cells #[(.slice (some ad441) l0_0.length c0_0), (.slice A0_1 l0_1.length c0_1)] 59 (0, 0))) ∧ Aside0 (Below w.heap.size w wc))
      case first =>
       have H := HC13.out
       clear HC13
       by_cases c15 : t442 = 2
       ·rw [if_pos c15] at H
        have c15b0 : (t442 == 2) = true := beq_iff_eq.mpr c15
        have c15b1 : (t442 != 2) = false := bne_eq_false_iff_eq.mpr c15
        clear c15
        (first | rw [c15b0] | (simp only [i64_w, i32_w]; rw [c15b0]) | skip)
        as_aux_lemma =>
         have H' := Aside0.mk H
         clear H
         go_wp2
         go_meet
         case rel => exact ⟨_, (false), (by first | rfl | (simp; done) | (simp [*]; done) | (simp [i64_w]; done) | (simp [*, i64_w]; done)), H', ⟨by have := HJ3.out; first | omega | exact Nat.le_refl _⟩, ⟨by exact BK439.out⟩, ⟨by repeat (first | exact HB.out | apply pw_below_drewN | refine sb ?_ GE439)⟩⟩
       ·rw [if_neg c15] at H
        have c15b0 : (t442 == 2) = false := beq_eq_false_iff_ne.mpr c15
        have c15b1 : (t442 != 2) = true := bne_iff_ne.mpr c15
        (first | rw [c15b0] | (simp only [i64_w, i32_w]; rw [c15b0]) | skip)
        as_aux_lemma =>
         have H' := Aside0.mk H
         clear H
         go_wp2
         go_meet
         case rel => exact ⟨_, ((t442 != 4)), (by first | rfl | (simp; done) | (simp [*]; done) | (simp [i64_w]; done) | (simp [*, i64_w]; done)), H', ⟨by have := HJ3.out; first | omega | exact Nat.le_refl _⟩, ⟨by exact BK439.out⟩, ⟨by repeat (first | exact HB.out | apply pw_below_drewN | refine sb ?_ GE439)⟩⟩
      case rest =>
       clear HC13
       try clear c1
       try clear p2
       try clear c3
       try clear c4
       try clear p4
       try clear q4
       try clear hx4
       try clear qi4
       try clear p6
       try clear c8
       try clear c8b0
       try clear c8b1
       try clear c10
       try clear c11
       try clear c11b0
       try clear c11b1
       try clear c12
       try clear c14
       try clear c15
       try clear c15b0
       try clear c15b1
       try clear hcz14_0
       try clear hcz14_1
       try clear hcz7_0
       try clear hcz7_1
       try clear hcz9_0
       try clear hcz9_1
       try clear hfz14_0
       try clear hfz14_1
       try clear hfz7_0
       try clear hfz7_1
       try clear hfz9_0
       try clear hfz9_1
       try clear hx441_0
       try clear p2
       try clear p441
       try clear p6
       try clear q441
       obtain ⟨kq, x47_12, rfl, HA, HJ12, BK439, HB⟩ := hcut
       cases kq with
       | zero => exact absurd HA.out (by simp [hcp.j1])
       | succ kj12 =>
        have H := HA.out
        clear HA
        simp only [hcp.j1] at H
        by_cases c16 : x47_12 = true
        ·subst c16
         have H1 : (some true) = some r := by rw [if_pos rfl] at H; exact H
         clear H
         have H := H1
         clear H1
         as_aux_lemma =>
          obtain rfl := Option.some.inj H
          go_wp2
          go_ret
          exact ⟨by first | rfl | (simp [errW_none, errW_some] <;> rfl) | (simp [*, errW_none, errW_some] <;> rfl), by repeat (first | exact HB.out | apply pw_below_drewN | refine sb ?_ GE439)⟩
        ·replace c16 := Bool.eq_false_iff.mpr c16
         subst c16
         have H1 : (hcp.l0 kj12 (l0_1.length : Int) t442 (l0_0.length : Int) 0 l0_0 l0_1) = some r := by rw [if_neg (show ¬ (false = true) by decide)] at H; exact H
         clear H
         have H := H1
         clear H1
         have H' := Aside0.mk H
         clear H
         have hcz17_0 : wc.cell? ⟨gb439, 0, none⟩ = some (.slice (some ad441) l0_0.length c0_0) := (blk_cell BK439.out 0).trans rfl
         have hcz17_1 : wc.cell? ⟨gb439, 1, none⟩ = some (.slice A0_1 l0_1.length c0_1) := (blk_cell BK439.out 1).trans rfl
         have hfz17_0 := blk_frozen BK439.out 0
         have hfz17_1 := blk_frozen BK439.out 1
         go_wp2
         go_loopg [51] kj12 (fun kq v51 w' => ∃ (x51_3 : Int), v51 = .int .i64 x51_3 ∧ Aside0 (hcp.l0 kq (l0_1.length : Int) t442 (l0_0.length : Int) x51_3 l0_0 l0_1 = some r) ∧ Aside0 (kq ≤ kj12) ∧ Aside0 (w'.heap[gb439]? = some (.cells #[(.slice (some ad441) l0_0.length c0_0), (.slice A0_1 l0_1.length c0_1)] 59 (0, 0))) ∧ Aside0 (Below w.heap.size w w'))
         case atStart => exact ⟨(0), (by first | rfl | (simp; done) | (simp [*]; done) | (simp [i64_w]; done) | (simp [*, i64_w]; done)), H', ⟨Nat.le_refl _⟩, ⟨by exact BK439.out⟩, ⟨by repeat (first | exact HB.out | apply pw_below_drewN | refine sb ?_ GE439)⟩⟩
         case round =>
          clear H'
          try clear c1
          try clear p2
          try clear c3
          try clear c4
          try clear p4
          try clear q4
          try clear hx4
          try clear qi4
          try clear p6
          try clear c8
          try clear c8b0
          try clear c8b1
          try clear c10
          try clear c11
          try clear c11b0
          try clear c11b1
          try clear c12
          try clear c14
          try clear c15
          try clear c15b0
          try clear c15b1
          try clear c16
          try clear hcz14_0
          try clear hcz14_1
          try clear hcz17_0
          try clear hcz17_1
          try clear hcz7_0
          try clear hcz7_1
          try clear hcz9_0
          try clear hcz9_1
          try clear hfz14_0
          try clear hfz14_1
          try clear hfz17_0
          try clear hfz17_1
          try clear hfz7_0
          try clear hfz7_1
          try clear hfz9_0
          try clear hfz9_1
          try clear hx441_0
          try clear p2
          try clear p4
          try clear p441
          try clear p6
          try clear q4
          try clear q441
          obtain ⟨x51_3, rfl, HA, HK3, BK439, HB⟩ := hrel
          cases gk with
          | zero => exact absurd HA.out (by simp [hcp.l0])
          | succ k3 =>
           have H := HA.out
           clear HA
           simp only [hcp.l0] at H
           by_cases c18 : x51_3 < (l0_0.length : Int)
           ·rw [if_pos c18] at H
            have c18b0 : decide (x51_3 < (l0_0.length : Int)) = true := decide_eq_true c18
            clear c18
            have HC19 := Aside0.mk H
            clear H
            go_upto_region 12 with (fail)
            go_cut [113] (fun v113 wc => ∃ (kq : Nat) (x113_18 : Bool), v113 = .bool x113_18 ∧ Aside0 (hcp.j3 kq (l0_1.length : Int) t442 (l0_0.length : Int) x51_3 x113_18 l0_0 l0_1 = some r) ∧ Aside0 (kq ≤ k3) ∧ Aside0 (wc.heap[gb439]? = some (.cells #[(.slice (some ad441) l0_0.length c0_0), (.slice A0_1 l0_1.length c0_1)] 59 (0, 0))) ∧ Aside0 (Below w.heap.size w wc))
            case first =>
             have H := HC19.out
             clear HC19
             by_cases c20 : 0 ≤ x51_3
             ·rw [if_pos c20] at H
              have c20b0 : decide (0 ≤ x51_3) = true := decide_eq_true c20
              clear c20
              (first | rw [c20b0] | (simp only [i64_w, i32_w]; rw [c20b0]) | skip)
              by_cases c21 : x51_3 < (l0_0.length : Int)
              ·rw [if_pos c21] at H
               have c21b0 : decide (x51_3 < (l0_0.length : Int)) = true := decide_eq_true c21
               clear c21
               replace H := Option.bind_eq_some_iff.mp H
               obtain ⟨t444, A220, H⟩ := H
               replace H : (if t444 = t442 then (if ((rd_L1 l0_0 x51_3).length : Int) > 4 then (hcp.j3 k3 (l0_1.length : Int) t442 (l0_0.length : Int) x51_3 true l0_0 l0_1) else (if 0 < (l0_0.length : Int) then (if ((rd_L1 l0_0 x51_3).length : Int) = ((rd_L1 l0_0 0).length : Int) then (if x51_3 < (l0_1.length : Int) then (if x51_3 < (l0_1.length : Int) then ((heraldref24_Sum.f k3 (rd_L1 l0_1 x51_3)).bind fun t449 => (if t449 = t442 then (hcp.j3 k3 (l0_1.length : Int) t442 (l0_0.length : Int) x51_3 (((rd_L1 l0_1 x51_3).length : Int) != ((rd_L1 l0_0 0).length : Int)) l0_0 l0_1) else (hcp.j3 k3 (l0_1.length : Int) t442 (l0_0.length : Int) x51_3 true l0_0 l0_1))) else (none)) else (hcp.j3 k3 (l0_1.length : Int) t442 (l0_0.length : Int) x51_3 false l0_0 l0_1)) else (hcp.j3 k3 (l0_1.length : Int) t442 (l0_0.length : Int) x51_3 true l0_0 l0_1)) else (none))) else (hcp.j3 k3 (l0_1.length : Int) t442 (l0_0.length : Int) x51_3 true l0_0 l0_1)) = some r := H
               have A22 := Aside0.mk A220
               clear A220
               by_cases c23 : t444 = t442
               ·rw [if_pos c23] at H
                have c23b0 : (t444 == t442) = true := beq_iff_eq.mpr c23
                have c23b1 : (t444 != t442) = false := bne_eq_false_iff_eq.mpr c23
                clear c23
                by_cases c24 : ((rd_L1 l0_0 x51_3).length : Int) > 4
                ·rw [if_pos c24] at H
                 have c24b0 : decide (4 < ((rd_L1 l0_0 x51_3).length : Int)) = true := decide_eq_true c24
                 have c24b1 : decide (4 < (rd_L1 l0_0 x51_3).length) = true := decide_eq_true (by omega)
                 clear c24
                 as_aux_lemma =>
                  have H' := Aside0.mk H
                  clear H
                  try go_wp2
                  replace BK439 := Aside0.mk (blk_drew BK439.out)
                  replace HB := Aside0.mk (below_drew1 HB.out)
                  have p443 : 0 ≤ (x51_3 : Int) := of_decide_eq_true (by first | (with_reducible assumption) | assumption)
                  have q443 : x51_3 < (l0_0.length : Int) := of_decide_eq_true (by first | (with_reducible assumption) | assumption)
                  obtain ⟨ad443, A443_0, c443_0, e443, hx443_0, hl443_0, hi443_0⟩ := at_L1 HR0_0.out x51_3 p443 q443
                  have hw443_0 := hx443_0
                  obtain rfl : ad441 = ad443 := (by injection e443)
                  replace hx443_0 := (HB.out.cell (World.block_lt_of_cell? w _ hx443_0)).trans hx443_0
                  have HR443_0 := Aside0.mk hi443_0
                  have HC443_0 := Aside0.mk hl443_0
                  clear hi443_0 hl443_0
                  replace p443 := eq_true p443
                  replace q443 := eq_true q443
                  have p445 : 0 ≤ (x51_3 : Int) := of_decide_eq_true (by first | (with_reducible assumption) | assumption)
                  have q445 : x51_3 < (l0_0.length : Int) := of_decide_eq_true (by first | (with_reducible assumption) | assumption)
                  obtain ⟨ad445, A445_0, c445_0, e445, hx445_0, hl445_0, hi445_0⟩ := at_L1 HR0_0.out x51_3 p445 q445
                  have hw445_0 := hx445_0
                  obtain rfl : ad441 = ad445 := (by injection e445)
                  replace hx445_0 := (HB.out.cell (World.block_lt_of_cell? w _ hx445_0)).trans hx445_0
                  have HR445_0 := Aside0.mk hi445_0
                  have HC445_0 := Aside0.mk hl445_0
                  clear hi445_0 hl445_0
                  replace p445 := eq_true p445
                  replace q445 := eq_true q445
                  have ea_ := Option.some.inj (hx443_0.symm.trans hx445_0)
                  injection ea_ with ea_ en_ ec_
                  subst ea_
                  subst ec_
                  clear en_
                  refine start_ (n := 60) (S := fun w' => w'.cell? ⟨gb439, 0, none⟩ = some (.slice (some ad441) l0_0.length c0_0) ∧ w'.cell? ⟨gb439, 1, none⟩ = some (.slice A0_1 l0_1.length c0_1) ∧ w'.cell? (ad441.add (x51_3).toNat) = some (.slice A443_0 (rd_L1 l0_0 x51_3).length c443_0) ∧ w'.cell? (ad441.add (x51_3).toNat) = some (.slice A443_0 (rd_L1 l0_0 x51_3).length c443_0)) (ds := []) bm0 (by kernel_rfl) rfl rfl ⟨(blk_cell BK439.out 0).trans rfl, (blk_cell BK439.out 1).trans rfl, ((HB.out.cell (World.block_lt_of_cell? w _ hw443_0)).trans hw443_0), ((HB.out.cell (World.block_lt_of_cell? w _ hw445_0)).trans hw445_0)⟩ (fun hHeld => ?_); refine with_tabW hcp.tab12 hcp.bits12 (fun HT_ HW_ => ?_)
                  generalize wr.drew = w25 at BK439 HB HR443_0 HR445_0 hx443_0 hx445_0 hHeld ⊢
                  refine pu HT_ (i := 0) (N := some 54) (v := ?_) (a' := ?_) bm1 rfl rfl (by kernel_rfl) (fun _ _ _ h => h) (by rfl) ?_ ?_ ?_
                  rotate_left;(·intro w';go_simp;with_reducible rfl);rotate_left;(·simp only [Act.put, sa, sz, ss, i64_w, i32_w];rfl)
                  refine pu HT_ (i := 2) (N := some 56) (v := ?_) (a' := ?_) bm2 rfl rfl (by kernel_rfl) (fun _ _ _ h => h) (by rfl) ?_ ?_ ?_
                  rotate_left;(·intro w';go_simp;with_reducible rfl);rotate_left;(·simp only [Act.put, sa, sz, ss, i64_w, i32_w];rfl)
                  refine pu HT_ (i := 6) (N := some 60) (v := ?_) (a' := ?_) bm3 rfl rfl (by kernel_rfl) (fun _ _ _ h => h) (by rfl) ?_ ?_ ?_
                  rotate_left;(·intro w';go_simp;with_reducible rfl);rotate_left;(·simp only [Act.put, sa, sz, ss, i64_w, i32_w];rfl)
                  refine take_ (i := 1) (N := some 55) (v := ?_) (a' := ?_) bm4 rfl rfl (take_ofW HT_.out HW_.out (by kernel_rfl)) (fun _ _ _ h => h) (Or.inl ⟨by rfl, ?_⟩) hHeld ?_ ?_
                  rotate_left;(·rintro w' ⟨s0, s1, s2, s3⟩;go_simp;with_reducible rfl);rotate_left;(·simp only [Act.put, sa, sz, ss, i64_w, i32_w];rfl)
                  refine pu HT_ (i := 3) (N := some 57) (v := ?_) (a' := ?_) bm5 rfl rfl (by kernel_rfl) (fun _ _ _ h => h) (by rfl) ?_ ?_ ?_
                  rotate_left;(·intro w';go_simp;with_reducible rfl);rotate_left;(·simp only [Act.put, sa, sz, ss, i64_w, i32_w];rfl)
                  refine take_ (i := 4) (N := some 58) (v := ?_) (a' := ?_) bm6 rfl rfl (take_ofW HT_.out HW_.out (by kernel_rfl)) (fun _ _ _ h => h) (Or.inl ⟨by rfl, ?_⟩) hHeld ?_ ?_
                  rotate_left;(·rintro w' ⟨s0, s1, s2, s3⟩;go_simp;with_reducible rfl);rotate_left;(·simp only [Act.put, sa, sz, ss, i64_w, i32_w];rfl)
                  refine one_ (i := 5) (N := some 59) bm7 rfl rfl (one_of HT_.out (by kernel_rfl)) (by decide) (fun K hK => ?_)
                  refine goes_ Try.func15 (by kernel_rfl) rfl #[.slice A443_0 (rd_L1 l0_0 x51_3).length c443_0] (by rfl) rfl rfl (by (try simp only [List.map_toArray, List.map_cons, List.map_nil]); first | done | rfl | (simp only [List.length_drop, List.length_take]; rfl)) ?_
                  with_reducible refine (heraldref24_Sum.calls k3 _ _ (rd_L1 l0_0 x51_3) t444 _ ?side1 ?side2 A22.out).mono ?_
                  (case side1 => repeat (first | exact (Kd.C_below HR443_0.out HB.out) | (with_reducible refine Kd.C_alloc ?_ _) | (with_reducible refine Kd.C_drewN ?_ _) | (with_reducible refine Kd.C_drew ?_)))
                  (case side2 => exact HC443_0.out)
                  rintro e w' ⟨rfl, ⟨nd, rfl⟩⟩
                  refine ⟨_, rfl, ?_⟩
                  refine hK.out _ _ ⟨(blk_cell BK439.out 0).trans rfl, (blk_cell BK439.out 1).trans rfl, ((HB.out.cell (World.block_lt_of_cell? w _ hw443_0)).trans hw443_0), ((HB.out.cell (World.block_lt_of_cell? w _ hw445_0)).trans hw445_0)⟩ (fun hHeld => ?_)
                  clear hK K
                  refine norm_ (a' := ?_) ?_ ?_
                  rotate_left;(·show Act.put _ (some 59) _ = _;simp only [Act.put, sa, sz, ss, i64_w, i32_w];rfl)
                  refine pu HT_ (i := 7) (N := some 61) (v := ?_) (a' := ?_) bm8 rfl rfl (by kernel_rfl) (fun _ _ _ h => h) (by rfl) ?_ ?_ ?_
                  rotate_left;(·intro w';go_simp;with_reducible rfl);rotate_left;(·simp only [Act.put, sa, sz, ss, i64_w, i32_w];rfl)
                  refine pu HT_ (i := 8) (N := some 62) (v := ?_) (a' := ?_) bm9 rfl rfl (by kernel_rfl) (fun _ _ _ h => h) (by rfl) ?_ ?_ ?_
                  rotate_left;(·intro w';go_simp;with_reducible rfl);rotate_left;(·simp only [Act.put, sa, sz, ss, i64_w, i32_w];rfl)
                  refine pu HT_ (i := 9) (N := some 63) (v := ?_) (a' := ?_) bm10 rfl rfl (by kernel_rfl) (fun _ _ _ h => h) (by rfl) ?_ ?_ ?_
                  rotate_left;(·intro w';go_simp;with_reducible rfl);rotate_left;(·simp only [Act.put, sa, sz, ss, i64_w, i32_w];rfl)
                  refine pu HT_ (i := 11) (N := some 65) (v := ?_) (a' := ?_) bm11 rfl rfl (by kernel_rfl) (fun _ _ _ h => h) (by rfl) ?_ ?_ ?_
                  rotate_left;(·intro w';go_simp;with_reducible rfl);rotate_left;(·simp only [Act.put, sa, sz, ss, i64_w, i32_w];rfl)
                  refine take_ (i := 10) (N := some 64) (v := ?_) (a' := ?_) bm12 rfl rfl (take_ofW HT_.out HW_.out (by kernel_rfl)) (fun _ _ _ h => h) (Or.inl ⟨by rfl, ?_⟩) hHeld ?_ ?_
                  rotate_left;(·rintro w' ⟨s0, s1, s2, s3⟩;go_simp;with_reducible rfl);rotate_left;(·simp only [Act.put, sa, sz, ss, i64_w, i32_w];rfl)
                  refine pu HT_ (i := 12) (N := some 66) (v := ?_) (a' := ?_) bm13 rfl rfl (by kernel_rfl) (fun _ _ _ h => h) (by rfl) ?_ ?_ ?_
                  rotate_left;(·intro w';go_simp;with_reducible rfl);rotate_left;(·simp only [Act.put, sa, sz, ss, i64_w, i32_w];rfl)
                  refine take_ (i := 13) (N := some 67) (v := ?_) (a' := ?_) bm14 rfl rfl (take_ofW HT_.out HW_.out (by kernel_rfl)) (fun _ _ _ h => h) (Or.inl ⟨by rfl, ?_⟩) hHeld ?_ ?_
                  rotate_left;(·rintro w' ⟨s0, s1, s2, s3⟩;go_simp;with_reducible rfl);rotate_left;(·simp only [Act.put, sa, sz, ss, i64_w, i32_w];rfl)
                  refine pu HT_ (i := 14) (N := some 68) (v := ?_) (a' := ?_) bm15 rfl rfl (by kernel_rfl) (fun _ _ _ h => h) (by rfl) ?_ ?_ ?_
                  rotate_left;(·intro w';go_simp;with_reducible rfl);rotate_left;(·simp only [Act.put, sa, sz, ss, i64_w, i32_w];rfl)
                  refine pu HT_ (i := 15) (N := some 69) (v := ?_) (a' := ?_) bm16 rfl rfl (by kernel_rfl) (fun _ _ _ h => h) (by rfl) ?_ ?_ ?_
                  rotate_left;(·intro w';go_simp;with_reducible rfl);rotate_left;(·simp only [Act.put, sa, sz, ss, i64_w, i32_w];rfl)
                  refine pu HT_ (i := 16) (N := some 70) (v := ?_) (a' := ?_) bm17 rfl rfl (by kernel_rfl) (fun _ _ _ h => h) (by rfl) ?_ ?_ ?_
                  rotate_left;(·intro w';go_simp;with_reducible rfl);rotate_left;(·simp only [Act.put, sa, sz, ss, i64_w, i32_w];rfl)
                  refine pu HT_ (i := 17) (N := some 71) (v := ?_) (a' := ?_) bm18 rfl rfl (by kernel_rfl) (fun _ _ _ h => h) (by rfl) ?_ ?_ ?_
                  rotate_left;(·intro w';go_simp;with_reducible rfl);rotate_left;(·simp only [Act.put, sa, sz, ss, i64_w, i32_w];rfl)
                  refine pn HT_ (i := 18) (N := some 72) (a' := ?_) bm19 rfl rfl (by kernel_rfl) (fun _ _ _ h => h) (by rfl) ?_ ?_
                  rotate_left;(·simp only [Act.put, sa, sz, ss, i64_w, i32_w];rfl)
                  refine pn HT_ (i := 19) (N := some 73) (a' := ?_) bm20 rfl rfl (by kernel_rfl) (fun _ _ _ h => h) (by rfl) ?_ ?_
                  rotate_left;(·simp only [Act.put, sa, sz, ss, i64_w, i32_w];rfl)
                  refine pn HT_ (i := 20) (N := some 74) (a' := ?_) bm21 rfl rfl (by kernel_rfl) (fun _ _ _ h => h) (by rfl) ?_ ?_
                  rotate_left;(·simp only [Act.put, sa, sz, ss, i64_w, i32_w];rfl)
                  refine pn HT_ (i := 21) (N := some 75) (a' := ?_) bm22 rfl rfl (by kernel_rfl) (fun _ _ _ h => h) (by rfl) ?_ ?_
                  rotate_left;(·simp only [Act.put, sa, sz, ss, i64_w, i32_w];rfl)
                  refine pn HT_ (i := 22) (N := some 76) (a' := ?_) bm23 rfl rfl (by kernel_rfl) (fun _ _ _ h => h) (by rfl) ?_ ?_
                  rotate_left;(·simp only [Act.put, sa, sz, ss, i64_w, i32_w];rfl)
                  refine pn HT_ (i := 23) (N := some 77) (a' := ?_) bm24 rfl rfl (by kernel_rfl) (fun _ _ _ h => h) (by rfl) ?_ ?_
                  rotate_left;(·simp only [Act.put, sa, sz, ss, i64_w, i32_w];rfl)
                  refine pn HT_ (i := 24) (N := some 78) (a' := ?_) bm25 rfl rfl (by kernel_rfl) (fun _ _ _ h => h) (by rfl) ?_ ?_
                  rotate_left;(·simp only [Act.put, sa, sz, ss, i64_w, i32_w];rfl)
                  refine pn HT_ (i := 25) (N := some 79) (a' := ?_) bm26 rfl rfl (by kernel_rfl) (fun _ _ _ h => h) (by rfl) ?_ ?_
                  rotate_left;(·simp only [Act.put, sa, sz, ss, i64_w, i32_w];rfl)
                  refine pn HT_ (i := 26) (N := some 80) (a' := ?_) bm27 rfl rfl (by kernel_rfl) (fun _ _ _ h => h) (by rfl) ?_ ?_
                  rotate_left;(·simp only [Act.put, sa, sz, ss, i64_w, i32_w];rfl)
                  refine pn HT_ (i := 27) (N := some 81) (a' := ?_) bm28 rfl rfl (by kernel_rfl) (fun _ _ _ h => h) (by rfl) ?_ ?_
                  rotate_left;(·simp only [Act.put, sa, sz, ss, i64_w, i32_w];rfl)
                  refine pn HT_ (i := 28) (N := some 82) (a' := ?_) bm29 rfl rfl (by kernel_rfl) (fun _ _ _ h => h) (by rfl) ?_ ?_
                  rotate_left;(·simp only [Act.put, sa, sz, ss, i64_w, i32_w];rfl)
                  refine pn HT_ (i := 29) (N := some 83) (a' := ?_) bm30 rfl rfl (by kernel_rfl) (fun _ _ _ h => h) (by rfl) ?_ ?_
                  rotate_left;(·simp only [Act.put, sa, sz, ss, i64_w, i32_w];rfl)
                  refine pu HT_ (i := 30) (N := some 84) (v := ?_) (a' := ?_) bm31 rfl rfl (by kernel_rfl) (fun _ _ _ h => h) (by rfl) ?_ ?_ ?_
                  rotate_left;(·intro w';go_simp;with_reducible rfl);rotate_left;(·simp only [Act.put, sa, sz, ss, i64_w, i32_w];rfl)
                  refine pu HT_ (i := 31) (N := some 85) (v := ?_) (a' := ?_) bm32 rfl rfl (by kernel_rfl) (fun _ _ _ h => h) (by rfl) ?_ ?_ ?_
                  rotate_left;(·intro w';go_simp;with_reducible rfl);rotate_left;(·simp only [Act.put, sa, sz, ss, i64_w, i32_w];rfl)
                  refine pn HT_ (i := 32) (N := some 86) (a' := ?_) bm33 rfl rfl (by kernel_rfl) (fun _ _ _ h => h) (by rfl) ?_ ?_
                  rotate_left;(·simp only [Act.put, sa, sz, ss, i64_w, i32_w];rfl)
                  refine pn HT_ (i := 33) (N := some 87) (a' := ?_) bm34 rfl rfl (by kernel_rfl) (fun _ _ _ h => h) (by rfl) ?_ ?_
                  rotate_left;(·simp only [Act.put, sa, sz, ss, i64_w, i32_w];rfl)
                  refine pn HT_ (i := 34) (N := some 88) (a' := ?_) bm35 rfl rfl (by kernel_rfl) (fun _ _ _ h => h) (by rfl) ?_ ?_
                  rotate_left;(·simp only [Act.put, sa, sz, ss, i64_w, i32_w];rfl)
                  refine pn HT_ (i := 35) (N := some 89) (a' := ?_) bm36 rfl rfl (by kernel_rfl) (fun _ _ _ h => h) (by rfl) ?_ ?_
                  rotate_left;(·simp only [Act.put, sa, sz, ss, i64_w, i32_w];rfl)
                  refine pn HT_ (i := 36) (N := some 90) (a' := ?_) bm37 rfl rfl (by kernel_rfl) (fun _ _ _ h => h) (by rfl) ?_ ?_
                  rotate_left;(·simp only [Act.put, sa, sz, ss, i64_w, i32_w];rfl)
                  refine pn HT_ (i := 37) (N := some 91) (a' := ?_) bm38 rfl rfl (by kernel_rfl) (fun _ _ _ h => h) (by rfl) ?_ ?_
                  rotate_left;(·simp only [Act.put, sa, sz, ss, i64_w, i32_w];rfl)
                  refine pn HT_ (i := 38) (N := some 92) (a' := ?_) bm39 rfl rfl (by kernel_rfl) (fun _ _ _ h => h) (by rfl) ?_ ?_
                  rotate_left;(·simp only [Act.put, sa, sz, ss, i64_w, i32_w];rfl)
                  refine pn HT_ (i := 39) (N := some 93) (a' := ?_) bm40 rfl rfl (by kernel_rfl) (fun _ _ _ h => h) (by rfl) ?_ ?_
                  rotate_left;(·simp only [Act.put, sa, sz, ss, i64_w, i32_w];rfl)
                  refine pn HT_ (i := 40) (N := some 94) (a' := ?_) bm41 rfl rfl (by kernel_rfl) (fun _ _ _ h => h) (by rfl) ?_ ?_
                  rotate_left;(·simp only [Act.put, sa, sz, ss, i64_w, i32_w];rfl)
                  refine pn HT_ (i := 41) (N := some 95) (a' := ?_) bm42 rfl rfl (by kernel_rfl) (fun _ _ _ h => h) (by rfl) ?_ ?_
                  rotate_left;(·simp only [Act.put, sa, sz, ss, i64_w, i32_w];rfl)
                  refine pn HT_ (i := 42) (N := some 96) (a' := ?_) bm43 rfl rfl (by kernel_rfl) (fun _ _ _ h => h) (by rfl) ?_ ?_
                  rotate_left;(·simp only [Act.put, sa, sz, ss, i64_w, i32_w];rfl)
                  refine pn HT_ (i := 43) (N := some 97) (a' := ?_) bm44 rfl rfl (by kernel_rfl) (fun _ _ _ h => h) (by rfl) ?_ ?_
                  rotate_left;(·simp only [Act.put, sa, sz, ss, i64_w, i32_w];rfl)
                  refine pn HT_ (i := 44) (N := some 98) (a' := ?_) bm45 rfl rfl (by kernel_rfl) (fun _ _ _ h => h) (by rfl) ?_ ?_
                  rotate_left;(·simp only [Act.put, sa, sz, ss, i64_w, i32_w];rfl)
                  refine pn HT_ (i := 45) (N := some 99) (a' := ?_) bm46 rfl rfl (by kernel_rfl) (fun _ _ _ h => h) (by rfl) ?_ ?_
                  rotate_left;(·simp only [Act.put, sa, sz, ss, i64_w, i32_w];rfl)
                  refine pn HT_ (i := 46) (N := some 100) (a' := ?_) bm47 rfl rfl (by kernel_rfl) (fun _ _ _ h => h) (by rfl) ?_ ?_
                  rotate_left;(·simp only [Act.put, sa, sz, ss, i64_w, i32_w];rfl)
                  refine pn HT_ (i := 47) (N := some 101) (a' := ?_) bm48 rfl rfl (by kernel_rfl) (fun _ _ _ h => h) (by rfl) ?_ ?_
                  rotate_left;(·simp only [Act.put, sa, sz, ss, i64_w, i32_w];rfl)
                  refine pn HT_ (i := 48) (N := some 102) (a' := ?_) bm49 rfl rfl (by kernel_rfl) (fun _ _ _ h => h) (by rfl) ?_ ?_
                  rotate_left;(·simp only [Act.put, sa, sz, ss, i64_w, i32_w];rfl)
                  refine pn HT_ (i := 49) (N := some 103) (a' := ?_) bm50 rfl rfl (by kernel_rfl) (fun _ _ _ h => h) (by rfl) ?_ ?_
                  rotate_left;(·simp only [Act.put, sa, sz, ss, i64_w, i32_w];rfl)
                  refine pn HT_ (i := 50) (N := some 104) (a' := ?_) bm51 rfl rfl (by kernel_rfl) (fun _ _ _ h => h) (by rfl) ?_ ?_
                  rotate_left;(·simp only [Act.put, sa, sz, ss, i64_w, i32_w];rfl)
                  refine pn HT_ (i := 51) (N := some 105) (a' := ?_) bm52 rfl rfl (by kernel_rfl) (fun _ _ _ h => h) (by rfl) ?_ ?_
                  rotate_left;(·simp only [Act.put, sa, sz, ss, i64_w, i32_w];rfl)
                  refine pn HT_ (i := 52) (N := some 106) (a' := ?_) bm53 rfl rfl (by kernel_rfl) (fun _ _ _ h => h) (by rfl) ?_ ?_
                  rotate_left;(·simp only [Act.put, sa, sz, ss, i64_w, i32_w];rfl)
                  refine pn HT_ (i := 53) (N := some 107) (a' := ?_) bm54 rfl rfl (by kernel_rfl) (fun _ _ _ h => h) (by rfl) ?_ ?_
                  rotate_left;(·simp only [Act.put, sa, sz, ss, i64_w, i32_w];rfl)
                  refine pn HT_ (i := 54) (N := some 108) (a' := ?_) bm55 rfl rfl (by kernel_rfl) (fun _ _ _ h => h) (by rfl) ?_ ?_
                  rotate_left;(·simp only [Act.put, sa, sz, ss, i64_w, i32_w];rfl)
                  refine pn HT_ (i := 55) (N := some 109) (a' := ?_) bm56 rfl rfl (by kernel_rfl) (fun _ _ _ h => h) (by rfl) ?_ ?_
                  rotate_left;(·simp only [Act.put, sa, sz, ss, i64_w, i32_w];rfl)
                  refine pn HT_ (i := 56) (N := some 110) (a' := ?_) bm57 rfl rfl (by kernel_rfl) (fun _ _ _ h => h) (by rfl) ?_ ?_
                  rotate_left;(·simp only [Act.put, sa, sz, ss, i64_w, i32_w];rfl)
                  refine pn HT_ (i := 57) (N := some 111) (a' := ?_) bm58 rfl rfl (by kernel_rfl) (fun _ _ _ h => h) (by rfl) ?_ ?_
                  rotate_left;(·simp only [Act.put, sa, sz, ss, i64_w, i32_w];rfl)
                  refine pn HT_ (i := 58) (N := some 112) (a' := ?_) bm59 rfl rfl (by kernel_rfl) (fun _ _ _ h => h) (by rfl) ?_ ?_
                  rotate_left;(·simp only [Act.put, sa, sz, ss, i64_w, i32_w];rfl)
                  refine pu HT_ (i := 59) (N := some 113) (v := ?_) (a' := ?_) bm60 rfl rfl (by kernel_rfl) (fun _ _ _ h => h) (by rfl) ?_ ?_ ?_
                  rotate_left;(·intro w';go_simp;with_reducible rfl);rotate_left;(·simp only [Act.put, sa, sz, ss, i64_w, i32_w];rfl)
                  refine done_ (done_of HT_.out (by kernel_rfl)) ?_
                  try go_wp2
                  go_meet
                  case rel => exact ⟨_, (true), (by first | rfl | (simp; done) | (simp [*]; done) | (simp [i64_w]; done) | (simp [*, i64_w]; done)), H', ⟨by have := HJ3.out; have := HJ12.out; have := HK3.out; first | omega | exact Nat.le_refl _⟩, ⟨by exact BK439.out⟩, ⟨by repeat (first | exact HB.out | apply pw_below_drewN | refine sb ?_ GE439)⟩⟩
                ·rw [if_neg c24] at H
                 have c24b0 : decide (4 < ((rd_L1 l0_0 x51_3).length : Int)) = false := decide_eq_false c24
                 have c24b1 : decide (4 < (rd_L1 l0_0 x51_3).length) = false := decide_eq_false (by omega)
                 clear c24
                 by_cases c26 : 0 < (l0_0.length : Int)
                 ·rw [if_pos c26] at H
                  have c26b0 : decide (0 < (l0_0.length : Int)) = true := decide_eq_true c26
                  have c26b1 : decide (0 < l0_0.length) = true := decide_eq_true (by omega)
                  clear c26
                  by_cases c27 : ((rd_L1 l0_0 x51_3).length : Int) = ((rd_L1 l0_0 0).length : Int)
                  ·rw [if_pos c27] at H
                   have c27b0 : (((rd_L1 l0_0 x51_3).length : Int) == ((rd_L1 l0_0 0).length : Int)) = true := beq_iff_eq.mpr c27
                   have c27b1 : (((rd_L1 l0_0 x51_3).length : Int) != ((rd_L1 l0_0 0).length : Int)) = false := bne_eq_false_iff_eq.mpr c27
                   have c27b2 : ((rd_L1 l0_0 x51_3).length == (rd_L1 l0_0 0).length) = true := by first | simpa using c27 | (simp at c27 ⊢; omega)
                   clear c27
                   by_cases c28 : x51_3 < (l0_1.length : Int)
                   ·rw [if_pos c28] at H
                    have c28b0 : decide (x51_3 < (l0_1.length : Int)) = true := decide_eq_true c28
                    clear c28
                    by_cases c29 : x51_3 < (l0_1.length : Int)
                    ·rw [if_pos c29] at H
                     have c29b0 : decide (x51_3 < (l0_1.length : Int)) = true := decide_eq_true c29
                     clear c29
                     replace H := Option.bind_eq_some_iff.mp H
                     obtain ⟨t449, A300, H⟩ := H
                     replace H : (if t449 = t442 then (hcp.j3 k3 (l0_1.length : Int) t442 (l0_0.length : Int) x51_3 (((rd_L1 l0_1 x51_3).length : Int) != ((rd_L1 l0_0 0).length : Int)) l0_0 l0_1) else (hcp.j3 k3 (l0_1.length : Int) t442 (l0_0.length : Int) x51_3 true l0_0 l0_1)) = some r := H
                     have A30 := Aside0.mk A300
                     clear A300
                     by_cases c31 : t449 = t442
                     ·rw [if_pos c31] at H
                      have c31b0 : (t449 == t442) = true := beq_iff_eq.mpr c31
                      have c31b1 : (t449 != t442) = false := bne_eq_false_iff_eq.mpr c31
                      clear c31
                      as_aux_lemma =>
                       have H' := Aside0.mk H
                       clear H
                       try go_wp2
                       replace BK439 := Aside0.mk (blk_drew BK439.out)
                       replace HB := Aside0.mk (below_drew1 HB.out)
                       have p443 : 0 ≤ (x51_3 : Int) := of_decide_eq_true (by first | (with_reducible assumption) | assumption)
                       have q443 : x51_3 < (l0_0.length : Int) := of_decide_eq_true (by first | (with_reducible assumption) | assumption)
                       obtain ⟨ad443, A443_0, c443_0, e443, hx443_0, hl443_0, hi443_0⟩ := at_L1 HR0_0.out x51_3 p443 q443
                       have hw443_0 := hx443_0
                       obtain rfl : ad441 = ad443 := (by injection e443)
                       replace hx443_0 := (HB.out.cell (World.block_lt_of_cell? w _ hx443_0)).trans hx443_0
                       have HR443_0 := Aside0.mk hi443_0
                       have HC443_0 := Aside0.mk hl443_0
                       clear hi443_0 hl443_0
                       replace p443 := eq_true p443
                       replace q443 := eq_true q443
                       have p445 : 0 ≤ (x51_3 : Int) := of_decide_eq_true (by first | (with_reducible assumption) | assumption)
                       have q445 : x51_3 < (l0_0.length : Int) := of_decide_eq_true (by first | (with_reducible assumption) | assumption)
                       obtain ⟨ad445, A445_0, c445_0, e445, hx445_0, hl445_0, hi445_0⟩ := at_L1 HR0_0.out x51_3 p445 q445
                       have hw445_0 := hx445_0
                       obtain rfl : ad441 = ad445 := (by injection e445)
                       replace hx445_0 := (HB.out.cell (World.block_lt_of_cell? w _ hx445_0)).trans hx445_0
                       have HR445_0 := Aside0.mk hi445_0
                       have HC445_0 := Aside0.mk hl445_0
                       clear hi445_0 hl445_0
                       replace p445 := eq_true p445
                       replace q445 := eq_true q445
                       have ea_ := Option.some.inj (hx443_0.symm.trans hx445_0)
                       injection ea_ with ea_ en_ ec_
                       subst ea_
                       subst ec_
                       clear en_
                       have p446 : 0 ≤ (x51_3 : Int) := of_decide_eq_true (by first | (with_reducible assumption) | assumption)
                       have q446 : x51_3 < (l0_0.length : Int) := of_decide_eq_true (by first | (with_reducible assumption) | assumption)
                       obtain ⟨ad446, A446_0, c446_0, e446, hx446_0, hl446_0, hi446_0⟩ := at_L1 HR0_0.out x51_3 p446 q446
                       have hw446_0 := hx446_0
                       obtain rfl : ad441 = ad446 := (by injection e446)
                       replace hx446_0 := (HB.out.cell (World.block_lt_of_cell? w _ hx446_0)).trans hx446_0
                       have HR446_0 := Aside0.mk hi446_0
                       have HC446_0 := Aside0.mk hl446_0
                       clear hi446_0 hl446_0
                       replace p446 := eq_true p446
                       replace q446 := eq_true q446
                       have ea_ := Option.some.inj (hx443_0.symm.trans hx446_0)
                       injection ea_ with ea_ en_ ec_
                       subst ea_
                       subst ec_
                       clear en_
                       have p447 : 0 ≤ (0 : Int) := (by omega)
                       have q447 : 0 < (l0_0.length : Int) := of_decide_eq_true (by first | (with_reducible assumption) | assumption)
                       obtain ⟨ad447, A447_0, c447_0, e447, hx447_0, hl447_0, hi447_0⟩ := at_L1 HR0_0.out 0 p447 q447
                       have hw447_0 := hx447_0
                       (try rw [show ((0 : Int)).toNat = 0 from rfl] at hw447_0)
                       (try rw [show 0 * 1 = 0 from rfl] at hw447_0)
                       (try rw [Addr.add_zero'] at hw447_0)
                       obtain rfl : ad441 = ad447 := (by injection e447)
                       have qi447 : (0 < l0_0.length) = True := eq_true (by omega)
                       (try rw [show ((0 : Int)).toNat = 0 from rfl] at hx447_0)
                       (try rw [Addr.add_zero'] at hx447_0)
                       replace hx447_0 := (HB.out.cell (World.block_lt_of_cell? w _ hx447_0)).trans hx447_0
                       have HR447_0 := Aside0.mk hi447_0
                       have HC447_0 := Aside0.mk hl447_0
                       clear hi447_0 hl447_0
                       replace p447 := eq_true p447
                       replace q447 := eq_true q447
                       have p448 : 0 ≤ (x51_3 : Int) := of_decide_eq_true (by first | (with_reducible assumption) | assumption)
                       have q448 : x51_3 < (l0_1.length : Int) := of_decide_eq_true (by first | (with_reducible assumption) | assumption)
                       obtain ⟨ad448, A448_0, c448_0, e448, hx448_0, hl448_0, hi448_0⟩ := at_L1 HR0_1.out x51_3 p448 q448
                       have hw448_0 := hx448_0
                       cases e448
                       replace hx448_0 := (HB.out.cell (World.block_lt_of_cell? w _ hx448_0)).trans hx448_0
                       have HR448_0 := Aside0.mk hi448_0
                       have HC448_0 := Aside0.mk hl448_0
                       clear hi448_0 hl448_0
                       replace p448 := eq_true p448
                       replace q448 := eq_true q448
                       have p450 : 0 ≤ (x51_3 : Int) := of_decide_eq_true (by first | (with_reducible assumption) | assumption)
                       have q450 : x51_3 < (l0_1.length : Int) := of_decide_eq_true (by first | (with_reducible assumption) | assumption)
                       obtain ⟨ad450, A450_0, c450_0, e450, hx450_0, hl450_0, hi450_0⟩ := at_L1 HR0_1.out x51_3 p450 q450
                       have hw450_0 := hx450_0
                       obtain rfl : ad448 = ad450 := (by injection e450)
                       replace hx450_0 := (HB.out.cell (World.block_lt_of_cell? w _ hx450_0)).trans hx450_0
                       have HR450_0 := Aside0.mk hi450_0
                       have HC450_0 := Aside0.mk hl450_0
                       clear hi450_0 hl450_0
                       replace p450 := eq_true p450
                       replace q450 := eq_true q450
                       have ea_ := Option.some.inj (hx448_0.symm.trans hx450_0)
                       injection ea_ with ea_ en_ ec_
                       subst ea_
                       subst ec_
                       clear en_
                       have p451 : 0 ≤ (0 : Int) := (by omega)
                       have q451 : 0 < (l0_0.length : Int) := of_decide_eq_true (by first | (with_reducible assumption) | assumption)
                       obtain ⟨ad451, A451_0, c451_0, e451, hx451_0, hl451_0, hi451_0⟩ := at_L1 HR0_0.out 0 p451 q451
                       have hw451_0 := hx451_0
                       (try rw [show ((0 : Int)).toNat = 0 from rfl] at hw451_0)
                       (try rw [show 0 * 1 = 0 from rfl] at hw451_0)
                       (try rw [Addr.add_zero'] at hw451_0)
                       obtain rfl : ad441 = ad451 := (by injection e451)
                       have qi451 : (0 < l0_0.length) = True := eq_true (by omega)
                       (try rw [show ((0 : Int)).toNat = 0 from rfl] at hx451_0)
                       (try rw [Addr.add_zero'] at hx451_0)
                       replace hx451_0 := (HB.out.cell (World.block_lt_of_cell? w _ hx451_0)).trans hx451_0
                       have HR451_0 := Aside0.mk hi451_0
                       have HC451_0 := Aside0.mk hl451_0
                       clear hi451_0 hl451_0
                       replace p451 := eq_true p451
                       replace q451 := eq_true q451
                       have ea_ := Option.some.inj (hx447_0.symm.trans hx451_0)
                       injection ea_ with ea_ en_ ec_
                       subst ea_
                       subst ec_
                       clear en_
                       refine start_ (n := 60) (S := fun w' => w'.cell? ⟨gb439, 0, none⟩ = some (.slice (some ad441) l0_0.length c0_0) ∧ w'.cell? ⟨gb439, 1, none⟩ = some (.slice (some ad448) l0_1.length c0_1) ∧ w'.cell? (ad441.add (x51_3).toNat) = some (.slice A443_0 (rd_L1 l0_0 x51_3).length c443_0) ∧ w'.cell? (ad441.add (x51_3).toNat) = some (.slice A443_0 (rd_L1 l0_0 x51_3).length c443_0) ∧ w'.cell? (ad441.add (x51_3).toNat) = some (.slice A443_0 (rd_L1 l0_0 x51_3).length c443_0) ∧ w'.cell? ad441 = some (.slice A447_0 (rd_L1 l0_0 0).length c447_0) ∧ w'.cell? (ad448.add (x51_3).toNat) = some (.slice A448_0 (rd_L1 l0_1 x51_3).length c448_0) ∧ w'.cell? (ad448.add (x51_3).toNat) = some (.slice A448_0 (rd_L1 l0_1 x51_3).length c448_0) ∧ w'.cell? ad441 = some (.slice A447_0 (rd_L1 l0_0 0).length c447_0)) (ds := []) bm0 (by kernel_rfl) rfl rfl ⟨(blk_cell BK439.out 0).trans rfl, (blk_cell BK439.out 1).trans rfl, ((HB.out.cell (World.block_lt_of_cell? w _ hw443_0)).trans hw443_0), ((HB.out.cell (World.block_lt_of_cell? w _ hw445_0)).trans hw445_0), ((HB.out.cell (World.block_lt_of_cell? w _ hw446_0)).trans hw446_0), ((HB.out.cell (World.block_lt_of_cell? w _ hw447_0)).trans hw447_0), ((HB.out.cell (World.block_lt_of_cell? w _ hw448_0)).trans hw448_0), ((HB.out.cell (World.block_lt_of_cell? w _ hw450_0)).trans hw450_0), ((HB.out.cell (World.block_lt_of_cell? w _ hw451_0)).trans hw451_0)⟩ (fun hHeld => ?_); refine with_tabW hcp.tab12 hcp.bits12 (fun HT_ HW_ => ?_)
                       generalize wr.drew = w32 at BK439 HB HR443_0 HR445_0 HR446_0 HR447_0 HR448_0 HR450_0 HR451_0 hx443_0 hx445_0 hx446_0 hx447_0 hx448_0 hx450_0 hx451_0 hHeld ⊢
                       refine pu HT_ (i := 0) (N := some 54) (v := ?_) (a' := ?_) bm1 rfl rfl (by kernel_rfl) (fun _ _ _ h => h) (by rfl) ?_ ?_ ?_
                       rotate_left;(·intro w';go_simp;with_reducible rfl);rotate_left;(·simp only [Act.put, sa, sz, ss, i64_w, i32_w];rfl)
                       refine pu HT_ (i := 2) (N := some 56) (v := ?_) (a' := ?_) bm2 rfl rfl (by kernel_rfl) (fun _ _ _ h => h) (by rfl) ?_ ?_ ?_
                       rotate_left;(·intro w';go_simp;with_reducible rfl);rotate_left;(·simp only [Act.put, sa, sz, ss, i64_w, i32_w];rfl)
                       refine pu HT_ (i := 6) (N := some 60) (v := ?_) (a' := ?_) bm3 rfl rfl (by kernel_rfl) (fun _ _ _ h => h) (by rfl) ?_ ?_ ?_
                       rotate_left;(·intro w';go_simp;with_reducible rfl);rotate_left;(·simp only [Act.put, sa, sz, ss, i64_w, i32_w];rfl)
                       refine take_ (i := 1) (N := some 55) (v := ?_) (a' := ?_) bm4 rfl rfl (take_ofW HT_.out HW_.out (by kernel_rfl)) (fun _ _ _ h => h) (Or.inl ⟨by rfl, ?_⟩) hHeld ?_ ?_
                       rotate_left;(·rintro w' ⟨s0, s1, s2, s3, s4, s5, s6, s7, s8⟩;go_simp;with_reducible rfl);rotate_left;(·simp only [Act.put, sa, sz, ss, i64_w, i32_w];rfl)
                       refine pu HT_ (i := 3) (N := some 57) (v := ?_) (a' := ?_) bm5 rfl rfl (by kernel_rfl) (fun _ _ _ h => h) (by rfl) ?_ ?_ ?_
                       rotate_left;(·intro w';go_simp;with_reducible rfl);rotate_left;(·simp only [Act.put, sa, sz, ss, i64_w, i32_w];rfl)
                       refine take_ (i := 4) (N := some 58) (v := ?_) (a' := ?_) bm6 rfl rfl (take_ofW HT_.out HW_.out (by kernel_rfl)) (fun _ _ _ h => h) (Or.inl ⟨by rfl, ?_⟩) hHeld ?_ ?_
                       rotate_left;(·rintro w' ⟨s0, s1, s2, s3, s4, s5, s6, s7, s8⟩;go_simp;with_reducible rfl);rotate_left;(·simp only [Act.put, sa, sz, ss, i64_w, i32_w];rfl)
                       refine one_ (i := 5) (N := some 59) bm7 rfl rfl (one_of HT_.out (by kernel_rfl)) (by decide) (fun K hK => ?_)
                       refine goes_ Try.func15 (by kernel_rfl) rfl #[.slice A443_0 (rd_L1 l0_0 x51_3).length c443_0] (by rfl) rfl rfl (by (try simp only [List.map_toArray, List.map_cons, List.map_nil]); first | done | rfl | (simp only [List.length_drop, List.length_take]; rfl)) ?_
                       with_reducible refine (heraldref24_Sum.calls k3 _ _ (rd_L1 l0_0 x51_3) t444 _ ?side1 ?side2 A22.out).mono ?_
                       (case side1 => repeat (first | exact (Kd.C_below HR443_0.out HB.out) | (with_reducible refine Kd.C_alloc ?_ _) | (with_reducible refine Kd.C_drewN ?_ _) | (with_reducible refine Kd.C_drew ?_)))
                       (case side2 => exact HC443_0.out)
                       rintro e w' ⟨rfl, ⟨nd, rfl⟩⟩
                       refine ⟨_, rfl, ?_⟩
                       refine hK.out _ _ ⟨(blk_cell BK439.out 0).trans rfl, (blk_cell BK439.out 1).trans rfl, ((HB.out.cell (World.block_lt_of_cell? w _ hw443_0)).trans hw443_0), ((HB.out.cell (World.block_lt_of_cell? w _ hw445_0)).trans hw445_0), ((HB.out.cell (World.block_lt_of_cell? w _ hw446_0)).trans hw446_0), ((HB.out.cell (World.block_lt_of_cell? w _ hw447_0)).trans hw447_0), ((HB.out.cell (World.block_lt_of_cell? w _ hw448_0)).trans hw448_0), ((HB.out.cell (World.block_lt_of_cell? w _ hw450_0)).trans hw450_0), ((HB.out.cell (World.block_lt_of_cell? w _ hw451_0)).trans hw451_0)⟩ (fun hHeld => ?_)
                       clear hK K
                       refine norm_ (a' := ?_) ?_ ?_
                       rotate_left;(·show Act.put _ (some 59) _ = _;simp only [Act.put, sa, sz, ss, i64_w, i32_w];rfl)
                       refine pu HT_ (i := 7) (N := some 61) (v := ?_) (a' := ?_) bm8 rfl rfl (by kernel_rfl) (fun _ _ _ h => h) (by rfl) ?_ ?_ ?_
                       rotate_left;(·intro w';go_simp;with_reducible rfl);rotate_left;(·simp only [Act.put, sa, sz, ss, i64_w, i32_w];rfl)
                       refine pu HT_ (i := 8) (N := some 62) (v := ?_) (a' := ?_) bm9 rfl rfl (by kernel_rfl) (fun _ _ _ h => h) (by rfl) ?_ ?_ ?_
                       rotate_left;(·intro w';go_simp;with_reducible rfl);rotate_left;(·simp only [Act.put, sa, sz, ss, i64_w, i32_w];rfl)
                       refine pu HT_ (i := 9) (N := some 63) (v := ?_) (a' := ?_) bm10 rfl rfl (by kernel_rfl) (fun _ _ _ h => h) (by rfl) ?_ ?_ ?_
                       rotate_left;(·intro w';go_simp;with_reducible rfl);rotate_left;(·simp only [Act.put, sa, sz, ss, i64_w, i32_w];rfl)
                       refine pu HT_ (i := 11) (N := some 65) (v := ?_) (a' := ?_) bm11 rfl rfl (by kernel_rfl) (fun _ _ _ h => h) (by rfl) ?_ ?_ ?_
                       rotate_left;(·intro w';go_simp;with_reducible rfl);rotate_left;(·simp only [Act.put, sa, sz, ss, i64_w, i32_w];rfl)
                       refine take_ (i := 10) (N := some 64) (v := ?_) (a' := ?_) bm12 rfl rfl (take_ofW HT_.out HW_.out (by kernel_rfl)) (fun _ _ _ h => h) (Or.inl ⟨by rfl, ?_⟩) hHeld ?_ ?_
                       rotate_left;(·rintro w' ⟨s0, s1, s2, s3, s4, s5, s6, s7, s8⟩;go_simp;with_reducible rfl);rotate_left;(·simp only [Act.put, sa, sz, ss, i64_w, i32_w];rfl)
                       refine pu HT_ (i := 12) (N := some 66) (v := ?_) (a' := ?_) bm13 rfl rfl (by kernel_rfl) (fun _ _ _ h => h) (by rfl) ?_ ?_ ?_
                       rotate_left;(·intro w';go_simp;with_reducible rfl);rotate_left;(·simp only [Act.put, sa, sz, ss, i64_w, i32_w];rfl)
                       refine take_ (i := 13) (N := some 67) (v := ?_) (a' := ?_) bm14 rfl rfl (take_ofW HT_.out HW_.out (by kernel_rfl)) (fun _ _ _ h => h) (Or.inl ⟨by rfl, ?_⟩) hHeld ?_ ?_
                       rotate_left;(·rintro w' ⟨s0, s1, s2, s3, s4, s5, s6, s7, s8⟩;go_simp;with_reducible rfl);rotate_left;(·simp only [Act.put, sa, sz, ss, i64_w, i32_w];rfl)
                       refine pu HT_ (i := 14) (N := some 68) (v := ?_) (a' := ?_) bm15 rfl rfl (by kernel_rfl) (fun _ _ _ h => h) (by rfl) ?_ ?_ ?_
                       rotate_left;(·intro w';go_simp;with_reducible rfl);rotate_left;(·simp only [Act.put, sa, sz, ss, i64_w, i32_w];rfl)
                       refine pu HT_ (i := 15) (N := some 69) (v := ?_) (a' := ?_) bm16 rfl rfl (by kernel_rfl) (fun _ _ _ h => h) (by rfl) ?_ ?_ ?_
                       rotate_left;(·intro w';go_simp;with_reducible rfl);rotate_left;(·simp only [Act.put, sa, sz, ss, i64_w, i32_w];rfl)
                       refine pu HT_ (i := 16) (N := some 70) (v := ?_) (a' := ?_) bm17 rfl rfl (by kernel_rfl) (fun _ _ _ h => h) (by rfl) ?_ ?_ ?_
                       rotate_left;(·intro w';go_simp;with_reducible rfl);rotate_left;(·simp only [Act.put, sa, sz, ss, i64_w, i32_w];rfl)
                       refine pu HT_ (i := 17) (N := some 71) (v := ?_) (a' := ?_) bm18 rfl rfl (by kernel_rfl) (fun _ _ _ h => h) (by rfl) ?_ ?_ ?_
                       rotate_left;(·intro w';go_simp;with_reducible rfl);rotate_left;(·simp only [Act.put, sa, sz, ss, i64_w, i32_w];rfl)
                       refine pu HT_ (i := 18) (N := some 72) (v := ?_) (a' := ?_) bm19 rfl rfl (by kernel_rfl) (fun _ _ _ h => h) (by rfl) ?_ ?_ ?_
                       rotate_left;(·intro w';go_simp;with_reducible rfl);rotate_left;(·simp only [Act.put, sa, sz, ss, i64_w, i32_w];rfl)
                       refine pu HT_ (i := 20) (N := some 74) (v := ?_) (a' := ?_) bm61 rfl rfl (by kernel_rfl) (fun _ _ _ h => h) (by rfl) ?_ ?_ ?_
                       rotate_left;(·intro w';go_simp;with_reducible rfl);rotate_left;(·simp only [Act.put, sa, sz, ss, i64_w, i32_w];rfl)
                       refine pu HT_ (i := 24) (N := some 78) (v := ?_) (a' := ?_) bm62 rfl rfl (by kernel_rfl) (fun _ _ _ h => h) (by rfl) ?_ ?_ ?_
                       rotate_left;(·intro w';go_simp;with_reducible rfl);rotate_left;(·simp only [Act.put, sa, sz, ss, i64_w, i32_w];rfl)
                       refine take_ (i := 19) (N := some 73) (v := ?_) (a' := ?_) bm63 rfl rfl (take_ofW HT_.out HW_.out (by kernel_rfl)) (fun _ _ _ h => h) (Or.inl ⟨by rfl, ?_⟩) hHeld ?_ ?_
                       rotate_left;(·rintro w' ⟨s0, s1, s2, s3, s4, s5, s6, s7, s8⟩;go_simp;with_reducible rfl);rotate_left;(·simp only [Act.put, sa, sz, ss, i64_w, i32_w];rfl)
                       refine pu HT_ (i := 21) (N := some 75) (v := ?_) (a' := ?_) bm64 rfl rfl (by kernel_rfl) (fun _ _ _ h => h) (by rfl) ?_ ?_ ?_
                       rotate_left;(·intro w';go_simp;with_reducible rfl);rotate_left;(·simp only [Act.put, sa, sz, ss, i64_w, i32_w];rfl)
                       refine take_ (i := 22) (N := some 76) (v := ?_) (a' := ?_) bm65 rfl rfl (take_ofW HT_.out HW_.out (by kernel_rfl)) (fun _ _ _ h => h) (Or.inl ⟨by rfl, ?_⟩) hHeld ?_ ?_
                       rotate_left;(·rintro w' ⟨s0, s1, s2, s3, s4, s5, s6, s7, s8⟩;go_simp;with_reducible rfl);rotate_left;(·simp only [Act.put, sa, sz, ss, i64_w, i32_w];rfl)
                       refine pu HT_ (i := 23) (N := some 77) (v := ?_) (a' := ?_) bm25 rfl rfl (by kernel_rfl) (fun _ _ _ h => h) (by rfl) ?_ ?_ ?_
                       rotate_left;(·intro w';go_simp;with_reducible rfl);rotate_left;(·simp only [Act.put, sa, sz, ss, i64_w, i32_w];rfl)
                       refine take_ (i := 25) (N := some 79) (v := ?_) (a' := ?_) bm26 rfl rfl (take_ofW HT_.out HW_.out (by kernel_rfl)) (fun _ _ _ h => h) (Or.inl ⟨by rfl, ?_⟩) hHeld ?_ ?_
                       rotate_left;(·rintro w' ⟨s0, s1, s2, s3, s4, s5, s6, s7, s8⟩;go_simp;with_reducible rfl);rotate_left;(·simp only [Act.put, sa, sz, ss, i64_w, i32_w];rfl)
                       refine pu HT_ (i := 26) (N := some 80) (v := ?_) (a' := ?_) bm27 rfl rfl (by kernel_rfl) (fun _ _ _ h => h) (by rfl) ?_ ?_ ?_
                       rotate_left;(·intro w';go_simp;with_reducible rfl);rotate_left;(·simp only [Act.put, sa, sz, ss, i64_w, i32_w];rfl)
                       refine take_ (i := 27) (N := some 81) (v := ?_) (a' := ?_) bm28 rfl rfl (take_ofW HT_.out HW_.out (by kernel_rfl)) (fun _ _ _ h => h) (Or.inl ⟨by rfl, ?_⟩) hHeld ?_ ?_
                       rotate_left;(·rintro w' ⟨s0, s1, s2, s3, s4, s5, s6, s7, s8⟩;go_simp;with_reducible rfl);rotate_left;(·simp only [Act.put, sa, sz, ss, i64_w, i32_w];rfl)
                       refine pu HT_ (i := 28) (N := some 82) (v := ?_) (a' := ?_) bm29 rfl rfl (by kernel_rfl) (fun _ _ _ h => h) (by rfl) ?_ ?_ ?_
                       rotate_left;(·intro w';go_simp;with_reducible rfl);rotate_left;(·simp only [Act.put, sa, sz, ss, i64_w, i32_w];rfl)
                       refine pu HT_ (i := 29) (N := some 83) (v := ?_) (a' := ?_) bm30 rfl rfl (by kernel_rfl) (fun _ _ _ h => h) (by rfl) ?_ ?_ ?_
                       rotate_left;(·intro w';go_simp;with_reducible rfl);rotate_left;(·simp only [Act.put, sa, sz, ss, i64_w, i32_w];rfl)
                       refine pu HT_ (i := 30) (N := some 84) (v := ?_) (a' := ?_) bm31 rfl rfl (by kernel_rfl) (fun _ _ _ h => h) (by rfl) ?_ ?_ ?_
                       rotate_left;(·intro w';go_simp;with_reducible rfl);rotate_left;(·simp only [Act.put, sa, sz, ss, i64_w, i32_w];rfl)
                       refine pu HT_ (i := 31) (N := some 85) (v := ?_) (a' := ?_) bm32 rfl rfl (by kernel_rfl) (fun _ _ _ h => h) (by rfl) ?_ ?_ ?_
                       rotate_left;(·intro w';go_simp;with_reducible rfl);rotate_left;(·simp only [Act.put, sa, sz, ss, i64_w, i32_w];rfl)
                       refine pu HT_ (i := 32) (N := some 86) (v := ?_) (a' := ?_) bm33 rfl rfl (by kernel_rfl) (fun _ _ _ h => h) (by rfl) ?_ ?_ ?_
                       rotate_left;(·intro w';go_simp;with_reducible rfl);rotate_left;(·simp only [Act.put, sa, sz, ss, i64_w, i32_w];rfl)
                       refine pu HT_ (i := 33) (N := some 87) (v := ?_) (a' := ?_) bm34 rfl rfl (by kernel_rfl) (fun _ _ _ h => h) (by rfl) ?_ ?_ ?_
                       rotate_left;(·intro w';go_simp;with_reducible rfl);rotate_left;(·simp only [Act.put, sa, sz, ss, i64_w, i32_w];rfl)
                       refine pu HT_ (i := 34) (N := some 88) (v := ?_) (a' := ?_) bm35 rfl rfl (by kernel_rfl) (fun _ _ _ h => h) (by rfl) ?_ ?_ ?_
                       rotate_left;(·intro w';go_simp;with_reducible rfl);rotate_left;(·simp only [Act.put, sa, sz, ss, i64_w, i32_w];rfl)
                       refine pu HT_ (i := 35) (N := some 89) (v := ?_) (a' := ?_) bm36 rfl rfl (by kernel_rfl) (fun _ _ _ h => h) (by rfl) ?_ ?_ ?_
                       rotate_left;(·intro w';go_simp;with_reducible rfl);rotate_left;(·simp only [Act.put, sa, sz, ss, i64_w, i32_w];rfl)
                       refine pu HT_ (i := 36) (N := some 90) (v := ?_) (a' := ?_) bm37 rfl rfl (by kernel_rfl) (fun _ _ _ h => h) (by rfl) ?_ ?_ ?_
                       rotate_left;(·intro w';go_simp;with_reducible rfl);rotate_left;(·simp only [Act.put, sa, sz, ss, i64_w, i32_w];rfl)
                       refine pu HT_ (i := 38) (N := some 92) (v := ?_) (a' := ?_) bm66 rfl rfl (by kernel_rfl) (fun _ _ _ h => h) (by rfl) ?_ ?_ ?_
                       rotate_left;(·intro w';go_simp;with_reducible rfl);rotate_left;(·simp only [Act.put, sa, sz, ss, i64_w, i32_w];rfl)
                       refine pu HT_ (i := 42) (N := some 96) (v := ?_) (a' := ?_) bm67 rfl rfl (by kernel_rfl) (fun _ _ _ h => h) (by rfl) ?_ ?_ ?_
                       rotate_left;(·intro w';go_simp;with_reducible rfl);rotate_left;(·simp only [Act.put, sa, sz, ss, i64_w, i32_w];rfl)
                       refine take_ (i := 37) (N := some 91) (v := ?_) (a' := ?_) bm68 rfl rfl (take_ofW HT_.out HW_.out (by kernel_rfl)) (fun _ _ _ h => h) (Or.inl ⟨by rfl, ?_⟩) hHeld ?_ ?_
                       rotate_left;(·rintro w' ⟨s0, s1, s2, s3, s4, s5, s6, s7, s8⟩;go_simp;with_reducible rfl);rotate_left;(·simp only [Act.put, sa, sz, ss, i64_w, i32_w];rfl)
                       refine pu HT_ (i := 39) (N := some 93) (v := ?_) (a' := ?_) bm69 rfl rfl (by kernel_rfl) (fun _ _ _ h => h) (by rfl) ?_ ?_ ?_
                       rotate_left;(·intro w';go_simp;with_reducible rfl);rotate_left;(·simp only [Act.put, sa, sz, ss, i64_w, i32_w];rfl)
                       refine take_ (i := 40) (N := some 94) (v := ?_) (a' := ?_) bm70 rfl rfl (take_ofW HT_.out HW_.out (by kernel_rfl)) (fun _ _ _ h => h) (Or.inl ⟨by rfl, ?_⟩) hHeld ?_ ?_
                       rotate_left;(·rintro w' ⟨s0, s1, s2, s3, s4, s5, s6, s7, s8⟩;go_simp;with_reducible rfl);rotate_left;(·simp only [Act.put, sa, sz, ss, i64_w, i32_w];rfl)
                       refine one_ (i := 41) (N := some 95) bm43 rfl rfl (one_of HT_.out (by kernel_rfl)) (by decide) (fun K hK => ?_)
                       refine goes_ Try.func15 (by kernel_rfl) rfl #[.slice A448_0 (rd_L1 l0_1 x51_3).length c448_0] (by rfl) rfl rfl (by (try simp only [List.map_toArray, List.map_cons, List.map_nil]); first | done | rfl | (simp only [List.length_drop, List.length_take]; rfl)) ?_
                       with_reducible refine (heraldref24_Sum.calls k3 _ _ (rd_L1 l0_1 x51_3) t449 _ ?side1 ?side2 A30.out).mono ?_
                       (case side1 => repeat (first | exact (Kd.C_below HR448_0.out (by repeat (first | exact HB.out | apply pw_below_drewN | refine sb ?_ GE439))) | (with_reducible refine Kd.C_alloc ?_ _) | (with_reducible refine Kd.C_drewN ?_ _) | (with_reducible refine Kd.C_drew ?_)))
                       (case side2 => exact HC448_0.out)
                       rintro e w' ⟨rfl, ⟨nd, rfl⟩⟩
                       refine ⟨_, rfl, ?_⟩
                       refine hK.out _ _ ⟨(blk_cell BK439.out 0).trans rfl, (blk_cell BK439.out 1).trans rfl, ((HB.out.cell (World.block_lt_of_cell? w _ hw443_0)).trans hw443_0), ((HB.out.cell (World.block_lt_of_cell? w _ hw445_0)).trans hw445_0), ((HB.out.cell (World.block_lt_of_cell? w _ hw446_0)).trans hw446_0), ((HB.out.cell (World.block_lt_of_cell? w _ hw447_0)).trans hw447_0), ((HB.out.cell (World.block_lt_of_cell? w _ hw448_0)).trans hw448_0), ((HB.out.cell (World.block_lt_of_cell? w _ hw450_0)).trans hw450_0), ((HB.out.cell (World.block_lt_of_cell? w _ hw451_0)).trans hw451_0)⟩ (fun hHeld => ?_)
                       clear hK K
                       refine norm_ (a' := ?_) ?_ ?_
                       rotate_left;(·show Act.put _ (some 95) _ = _;simp only [Act.put, sa, sz, ss, i64_w, i32_w];rfl)
                       refine pu HT_ (i := 43) (N := some 97) (v := ?_) (a' := ?_) bm44 rfl rfl (by kernel_rfl) (fun _ _ _ h => h) (by rfl) ?_ ?_ ?_
                       rotate_left;(·intro w';go_simp;with_reducible rfl);rotate_left;(·simp only [Act.put, sa, sz, ss, i64_w, i32_w];rfl)
                       refine pu HT_ (i := 44) (N := some 98) (v := ?_) (a' := ?_) bm45 rfl rfl (by kernel_rfl) (fun _ _ _ h => h) (by rfl) ?_ ?_ ?_
                       rotate_left;(·intro w';go_simp;with_reducible rfl);rotate_left;(·simp only [Act.put, sa, sz, ss, i64_w, i32_w];rfl)
                       refine pu HT_ (i := 45) (N := some 99) (v := ?_) (a' := ?_) bm46 rfl rfl (by kernel_rfl) (fun _ _ _ h => h) (by rfl) ?_ ?_ ?_
                       rotate_left;(·intro w';go_simp;with_reducible rfl);rotate_left;(·simp only [Act.put, sa, sz, ss, i64_w, i32_w];rfl)
                       refine pu HT_ (i := 47) (N := some 101) (v := ?_) (a' := ?_) bm71 rfl rfl (by kernel_rfl) (fun _ _ _ h => h) (by rfl) ?_ ?_ ?_
                       rotate_left;(·intro w';go_simp;with_reducible rfl);rotate_left;(·simp only [Act.put, sa, sz, ss, i64_w, i32_w];rfl)
                       refine pu HT_ (i := 51) (N := some 105) (v := ?_) (a' := ?_) bm72 rfl rfl (by kernel_rfl) (fun _ _ _ h => h) (by rfl) ?_ ?_ ?_
                       rotate_left;(·intro w';go_simp;with_reducible rfl);rotate_left;(·simp only [Act.put, sa, sz, ss, i64_w, i32_w];rfl)
                       refine take_ (i := 46) (N := some 100) (v := ?_) (a' := ?_) bm73 rfl rfl (take_ofW HT_.out HW_.out (by kernel_rfl)) (fun _ _ _ h => h) (Or.inl ⟨by rfl, ?_⟩) hHeld ?_ ?_
                       rotate_left;(·rintro w' ⟨s0, s1, s2, s3, s4, s5, s6, s7, s8⟩;go_simp;with_reducible rfl);rotate_left;(·simp only [Act.put, sa, sz, ss, i64_w, i32_w];rfl)
                       refine pu HT_ (i := 48) (N := some 102) (v := ?_) (a' := ?_) bm74 rfl rfl (by kernel_rfl) (fun _ _ _ h => h) (by rfl) ?_ ?_ ?_
                       rotate_left;(·intro w';go_simp;with_reducible rfl);rotate_left;(·simp only [Act.put, sa, sz, ss, i64_w, i32_w];rfl)
                       refine take_ (i := 49) (N := some 103) (v := ?_) (a' := ?_) bm75 rfl rfl (take_ofW HT_.out HW_.out (by kernel_rfl)) (fun _ _ _ h => h) (Or.inl ⟨by rfl, ?_⟩) hHeld ?_ ?_
                       rotate_left;(·rintro w' ⟨s0, s1, s2, s3, s4, s5, s6, s7, s8⟩;go_simp;with_reducible rfl);rotate_left;(·simp only [Act.put, sa, sz, ss, i64_w, i32_w];rfl)
                       refine pu HT_ (i := 50) (N := some 104) (v := ?_) (a' := ?_) bm52 rfl rfl (by kernel_rfl) (fun _ _ _ h => h) (by rfl) ?_ ?_ ?_
                       rotate_left;(·intro w';go_simp;with_reducible rfl);rotate_left;(·simp only [Act.put, sa, sz, ss, i64_w, i32_w];rfl)
                       refine take_ (i := 52) (N := some 106) (v := ?_) (a' := ?_) bm53 rfl rfl (take_ofW HT_.out HW_.out (by kernel_rfl)) (fun _ _ _ h => h) (Or.inl ⟨by rfl, ?_⟩) hHeld ?_ ?_
                       rotate_left;(·rintro w' ⟨s0, s1, s2, s3, s4, s5, s6, s7, s8⟩;go_simp;with_reducible rfl);rotate_left;(·simp only [Act.put, sa, sz, ss, i64_w, i32_w];rfl)
                       refine pu HT_ (i := 53) (N := some 107) (v := ?_) (a' := ?_) bm54 rfl rfl (by kernel_rfl) (fun _ _ _ h => h) (by rfl) ?_ ?_ ?_
                       rotate_left;(·intro w';go_simp;with_reducible rfl);rotate_left;(·simp only [Act.put, sa, sz, ss, i64_w, i32_w];rfl)
                       refine take_ (i := 54) (N := some 108) (v := ?_) (a' := ?_) bm55 rfl rfl (take_ofW HT_.out HW_.out (by kernel_rfl)) (fun _ _ _ h => h) (Or.inl ⟨by rfl, ?_⟩) hHeld ?_ ?_
                       rotate_left;(·rintro w' ⟨s0, s1, s2, s3, s4, s5, s6, s7, s8⟩;go_simp;with_reducible rfl);rotate_left;(·simp only [Act.put, sa, sz, ss, i64_w, i32_w];rfl)
                       refine pu HT_ (i := 55) (N := some 109) (v := ?_) (a' := ?_) bm56 rfl rfl (by kernel_rfl) (fun _ _ _ h => h) (by rfl) ?_ ?_ ?_
                       rotate_left;(·intro w';go_simp;with_reducible rfl);rotate_left;(·simp only [Act.put, sa, sz, ss, i64_w, i32_w];rfl)
                       refine pu HT_ (i := 56) (N := some 110) (v := ?_) (a' := ?_) bm57 rfl rfl (by kernel_rfl) (fun _ _ _ h => h) (by rfl) ?_ ?_ ?_
                       rotate_left;(·intro w';go_simp;with_reducible rfl);rotate_left;(·simp only [Act.put, sa, sz, ss, i64_w, i32_w];rfl)
                       refine pu HT_ (i := 57) (N := some 111) (v := ?_) (a' := ?_) bm58 rfl rfl (by kernel_rfl) (fun _ _ _ h => h) (by rfl) ?_ ?_ ?_
                       rotate_left;(·intro w';go_simp;with_reducible rfl);rotate_left;(·simp only [Act.put, sa, sz, ss, i64_w, i32_w];rfl)
                       refine pu HT_ (i := 58) (N := some 112) (v := ?_) (a' := ?_) bm59 rfl rfl (by kernel_rfl) (fun _ _ _ h => h) (by rfl) ?_ ?_ ?_
                       rotate_left;(·intro w';go_simp;with_reducible rfl);rotate_left;(·simp only [Act.put, sa, sz, ss, i64_w, i32_w];rfl)
                       refine pu HT_ (i := 59) (N := some 113) (v := ?_) (a' := ?_) bm60 rfl rfl (by kernel_rfl) (fun _ _ _ h => h) (by rfl) ?_ ?_ ?_
                       rotate_left;(·intro w';go_simp;with_reducible rfl);rotate_left;(·simp only [Act.put, sa, sz, ss, i64_w, i32_w];rfl)
                       refine done_ (done_of HT_.out (by kernel_rfl)) ?_
                       try go_wp2
                       go_meet
                       case rel => exact ⟨_, ((((rd_L1 l0_1 x51_3).length : Int) != ((rd_L1 l0_0 0).length : Int))), (by first | rfl | (simp; done) | (simp [*]; done) | (simp [i64_w]; done) | (simp [*, i64_w]; done)), H', ⟨by have := HJ3.out; have := HJ12.out; have := HK3.out; first | omega | exact Nat.le_refl _⟩, ⟨by exact BK439.out⟩, ⟨by repeat (first | exact HB.out | apply pw_below_drewN | refine sb ?_ GE439)⟩⟩
                     ·rw [if_neg c31] at H
                      have c31b0 : (t449 == t442) = false := beq_eq_false_iff_ne.mpr c31
                      have c31b1 : (t449 != t442) = true := bne_iff_ne.mpr c31
                      as_aux_lemma =>
                       have H' := Aside0.mk H
                       clear H
                       try go_wp2
                       replace BK439 := Aside0.mk (blk_drew BK439.out)
                       replace HB := Aside0.mk (below_drew1 HB.out)
                       have p443 : 0 ≤ (x51_3 : Int) := of_decide_eq_true (by first | (with_reducible assumption) | assumption)
                       have q443 : x51_3 < (l0_0.length : Int) := of_decide_eq_true (by first | (with_reducible assumption) | assumption)
                       obtain ⟨ad443, A443_0, c443_0, e443, hx443_0, hl443_0, hi443_0⟩ := at_L1 HR0_0.out x51_3 p443 q443
                       have hw443_0 := hx443_0
                       obtain rfl : ad441 = ad443 := (by injection e443)
                       replace hx443_0 := (HB.out.cell (World.block_lt_of_cell? w _ hx443_0)).trans hx443_0
                       have HR443_0 := Aside0.mk hi443_0
                       have HC443_0 := Aside0.mk hl443_0
                       clear hi443_0 hl443_0
                       replace p443 := eq_true p443
                       replace q443 := eq_true q443
                       have p445 : 0 ≤ (x51_3 : Int) := of_decide_eq_true (by first | (with_reducible assumption) | assumption)
                       have q445 : x51_3 < (l0_0.length : Int) := of_decide_eq_true (by first | (with_reducible assumption) | assumption)
                       obtain ⟨ad445, A445_0, c445_0, e445, hx445_0, hl445_0, hi445_0⟩ := at_L1 HR0_0.out x51_3 p445 q445
                       have hw445_0 := hx445_0
                       obtain rfl : ad441 = ad445 := (by injection e445)
                       replace hx445_0 := (HB.out.cell (World.block_lt_of_cell? w _ hx445_0)).trans hx445_0
                       have HR445_0 := Aside0.mk hi445_0
                       have HC445_0 := Aside0.mk hl445_0
                       clear hi445_0 hl445_0
                       replace p445 := eq_true p445
                       replace q445 := eq_true q445
                       have ea_ := Option.some.inj (hx443_0.symm.trans hx445_0)
                       injection ea_ with ea_ en_ ec_
                       subst ea_
                       subst ec_
                       clear en_
                       have p446 : 0 ≤ (x51_3 : Int) := of_decide_eq_true (by first | (with_reducible assumption) | assumption)
                       have q446 : x51_3 < (l0_0.length : Int) := of_decide_eq_true (by first | (with_reducible assumption) | assumption)
                       obtain ⟨ad446, A446_0, c446_0, e446, hx446_0, hl446_0, hi446_0⟩ := at_L1 HR0_0.out x51_3 p446 q446
                       have hw446_0 := hx446_0
                       obtain rfl : ad441 = ad446 := (by injection e446)
                       replace hx446_0 := (HB.out.cell (World.block_lt_of_cell? w _ hx446_0)).trans hx446_0
                       have HR446_0 := Aside0.mk hi446_0
                       have HC446_0 := Aside0.mk hl446_0
                       clear hi446_0 hl446_0
                       replace p446 := eq_true p446
                       replace q446 := eq_true q446
                       have ea_ := Option.some.inj (hx443_0.symm.trans hx446_0)
                       injection ea_ with ea_ en_ ec_
                       subst ea_
                       subst ec_
                       clear en_
                       have p447 : 0 ≤ (0 : Int) := (by omega)
                       have q447 : 0 < (l0_0.length : Int) := of_decide_eq_true (by first | (with_reducible assumption) | assumption)
                       obtain ⟨ad447, A447_0, c447_0, e447, hx447_0, hl447_0, hi447_0⟩ := at_L1 HR0_0.out 0 p447 q447
                       have hw447_0 := hx447_0
                       (try rw [show ((0 : Int)).toNat = 0 from rfl] at hw447_0)
                       (try rw [show 0 * 1 = 0 from rfl] at hw447_0)
                       (try rw [Addr.add_zero'] at hw447_0)
                       obtain rfl : ad441 = ad447 := (by injection e447)
                       have qi447 : (0 < l0_0.length) = True := eq_true (by omega)
                       (try rw [show ((0 : Int)).toNat = 0 from rfl] at hx447_0)
                       (try rw [Addr.add_zero'] at hx447_0)
                       replace hx447_0 := (HB.out.cell (World.block_lt_of_cell? w _ hx447_0)).trans hx447_0
                       have HR447_0 := Aside0.mk hi447_0
                       have HC447_0 := Aside0.mk hl447_0
                       clear hi447_0 hl447_0
                       replace p447 := eq_true p447
                       replace q447 := eq_true q447
                       have p448 : 0 ≤ (x51_3 : Int) := of_decide_eq_true (by first | (with_reducible assumption) | assumption)
                       have q448 : x51_3 < (l0_1.length : Int) := of_decide_eq_true (by first | (with_reducible assumption) | assumption)
                       obtain ⟨ad448, A448_0, c448_0, e448, hx448_0, hl448_0, hi448_0⟩ := at_L1 HR0_1.out x51_3 p448 q448
                       have hw448_0 := hx448_0
                       cases e448
                       replace hx448_0 := (HB.out.cell (World.block_lt_of_cell? w _ hx448_0)).trans hx448_0
                       have HR448_0 := Aside0.mk hi448_0
                       have HC448_0 := Aside0.mk hl448_0
                       clear hi448_0 hl448_0
                       replace p448 := eq_true p448
                       replace q448 := eq_true q448
                       refine start_ (n := 60) (S := fun w' => w'.cell? ⟨gb439, 0, none⟩ = some (.slice (some ad441) l0_0.length c0_0) ∧ w'.cell? ⟨gb439, 1, none⟩ = some (.slice (some ad448) l0_1.length c0_1) ∧ w'.cell? (ad441.add (x51_3).toNat) = some (.slice A443_0 (rd_L1 l0_0 x51_3).length c443_0) ∧ w'.cell? (ad441.add (x51_3).toNat) = some (.slice A443_0 (rd_L1 l0_0 x51_3).length c443_0) ∧ w'.cell? (ad441.add (x51_3).toNat) = some (.slice A443_0 (rd_L1 l0_0 x51_3).length c443_0) ∧ w'.cell? ad441 = some (.slice A447_0 (rd_L1 l0_0 0).length c447_0) ∧ w'.cell? (ad448.add (x51_3).toNat) = some (.slice A448_0 (rd_L1 l0_1 x51_3).length c448_0)) (ds := []) bm0 (by kernel_rfl) rfl rfl ⟨(blk_cell BK439.out 0).trans rfl, (blk_cell BK439.out 1).trans rfl, ((HB.out.cell (World.block_lt_of_cell? w _ hw443_0)).trans hw443_0), ((HB.out.cell (World.block_lt_of_cell? w _ hw445_0)).trans hw445_0), ((HB.out.cell (World.block_lt_of_cell? w _ hw446_0)).trans hw446_0), ((HB.out.cell (World.block_lt_of_cell? w _ hw447_0)).trans hw447_0), ((HB.out.cell (World.block_lt_of_cell? w _ hw448_0)).trans hw448_0)⟩ (fun hHeld => ?_); refine with_tabW hcp.tab12 hcp.bits12 (fun HT_ HW_ => ?_)
                       generalize wr.drew = w33 at BK439 HB HR443_0 HR445_0 HR446_0 HR447_0 HR448_0 hx443_0 hx445_0 hx446_0 hx447_0 hx448_0 hHeld ⊢
                       refine pu HT_ (i := 0) (N := some 54) (v := ?_) (a' := ?_) bm1 rfl rfl (by kernel_rfl) (fun _ _ _ h => h) (by rfl) ?_ ?_ ?_
                       rotate_left;(·intro w';go_simp;with_reducible rfl);rotate_left;(·simp only [Act.put, sa, sz, ss, i64_w, i32_w];rfl)
                       refine pu HT_ (i := 2) (N := some 56) (v := ?_) (a' := ?_) bm2 rfl rfl (by kernel_rfl) (fun _ _ _ h => h) (by rfl) ?_ ?_ ?_
                       rotate_left;(·intro w';go_simp;with_reducible rfl);rotate_left;(·simp only [Act.put, sa, sz, ss, i64_w, i32_w];rfl)
                       refine pu HT_ (i := 6) (N := some 60) (v := ?_) (a' := ?_) bm3 rfl rfl (by kernel_rfl) (fun _ _ _ h => h) (by rfl) ?_ ?_ ?_
                       rotate_left;(·intro w';go_simp;with_reducible rfl);rotate_left;(·simp only [Act.put, sa, sz, ss, i64_w, i32_w];rfl)
                       refine take_ (i := 1) (N := some 55) (v := ?_) (a' := ?_) bm4 rfl rfl (take_ofW HT_.out HW_.out (by kernel_rfl)) (fun _ _ _ h => h) (Or.inl ⟨by rfl, ?_⟩) hHeld ?_ ?_
                       rotate_left;(·rintro w' ⟨s0, s1, s2, s3, s4, s5, s6⟩;go_simp;with_reducible rfl);rotate_left;(·simp only [Act.put, sa, sz, ss, i64_w, i32_w];rfl)
                       refine pu HT_ (i := 3) (N := some 57) (v := ?_) (a' := ?_) bm5 rfl rfl (by kernel_rfl) (fun _ _ _ h => h) (by rfl) ?_ ?_ ?_
                       rotate_left;(·intro w';go_simp;with_reducible rfl);rotate_left;(·simp only [Act.put, sa, sz, ss, i64_w, i32_w];rfl)
                       refine take_ (i := 4) (N := some 58) (v := ?_) (a' := ?_) bm6 rfl rfl (take_ofW HT_.out HW_.out (by kernel_rfl)) (fun _ _ _ h => h) (Or.inl ⟨by rfl, ?_⟩) hHeld ?_ ?_
                       rotate_left;(·rintro w' ⟨s0, s1, s2, s3, s4, s5, s6⟩;go_simp;with_reducible rfl);rotate_left;(·simp only [Act.put, sa, sz, ss, i64_w, i32_w];rfl)
                       refine one_ (i := 5) (N := some 59) bm7 rfl rfl (one_of HT_.out (by kernel_rfl)) (by decide) (fun K hK => ?_)
                       refine goes_ Try.func15 (by kernel_rfl) rfl #[.slice A443_0 (rd_L1 l0_0 x51_3).length c443_0] (by rfl) rfl rfl (by (try simp only [List.map_toArray, List.map_cons, List.map_nil]); first | done | rfl | (simp only [List.length_drop, List.length_take]; rfl)) ?_
                       with_reducible refine (heraldref24_Sum.calls k3 _ _ (rd_L1 l0_0 x51_3) t444 _ ?side1 ?side2 A22.out).mono ?_
                       (case side1 => repeat (first | exact (Kd.C_below HR443_0.out HB.out) | (with_reducible refine Kd.C_alloc ?_ _) | (with_reducible refine Kd.C_drewN ?_ _) | (with_reducible refine Kd.C_drew ?_)))
                       (case side2 => exact HC443_0.out)
                       rintro e w' ⟨rfl, ⟨nd, rfl⟩⟩
                       refine ⟨_, rfl, ?_⟩
                       refine hK.out _ _ ⟨(blk_cell BK439.out 0).trans rfl, (blk_cell BK439.out 1).trans rfl, ((HB.out.cell (World.block_lt_of_cell? w _ hw443_0)).trans hw443_0), ((HB.out.cell (World.block_lt_of_cell? w _ hw445_0)).trans hw445_0), ((HB.out.cell (World.block_lt_of_cell? w _ hw446_0)).trans hw446_0), ((HB.out.cell (World.block_lt_of_cell? w _ hw447_0)).trans hw447_0), ((HB.out.cell (World.block_lt_of_cell? w _ hw448_0)).trans hw448_0)⟩ (fun hHeld => ?_)
                       clear hK K
                       refine norm_ (a' := ?_) ?_ ?_
                       rotate_left;(·show Act.put _ (some 59) _ = _;simp only [Act.put, sa, sz, ss, i64_w, i32_w];rfl)
                       refine pu HT_ (i := 7) (N := some 61) (v := ?_) (a' := ?_) bm8 rfl rfl (by kernel_rfl) (fun _ _ _ h => h) (by rfl) ?_ ?_ ?_
                       rotate_left;(·intro w';go_simp;with_reducible rfl);rotate_left;(·simp only [Act.put, sa, sz, ss, i64_w, i32_w];rfl)
                       refine pu HT_ (i := 8) (N := some 62) (v := ?_) (a' := ?_) bm9 rfl rfl (by kernel_rfl) (fun _ _ _ h => h) (by rfl) ?_ ?_ ?_
                       rotate_left;(·intro w';go_simp;with_reducible rfl);rotate_left;(·simp only [Act.put, sa, sz, ss, i64_w, i32_w];rfl)
                       refine pu HT_ (i := 9) (N := some 63) (v := ?_) (a' := ?_) bm10 rfl rfl (by kernel_rfl) (fun _ _ _ h => h) (by rfl) ?_ ?_ ?_
                       rotate_left;(·intro w';go_simp;with_reducible rfl);rotate_left;(·simp only [Act.put, sa, sz, ss, i64_w, i32_w];rfl)
                       refine pu HT_ (i := 11) (N := some 65) (v := ?_) (a' := ?_) bm11 rfl rfl (by kernel_rfl) (fun _ _ _ h => h) (by rfl) ?_ ?_ ?_
                       rotate_left;(·intro w';go_simp;with_reducible rfl);rotate_left;(·simp only [Act.put, sa, sz, ss, i64_w, i32_w];rfl)
                       refine take_ (i := 10) (N := some 64) (v := ?_) (a' := ?_) bm12 rfl rfl (take_ofW HT_.out HW_.out (by kernel_rfl)) (fun _ _ _ h => h) (Or.inl ⟨by rfl, ?_⟩) hHeld ?_ ?_
                       rotate_left;(·rintro w' ⟨s0, s1, s2, s3, s4, s5, s6⟩;go_simp;with_reducible rfl);rotate_left;(·simp only [Act.put, sa, sz, ss, i64_w, i32_w];rfl)
                       refine pu HT_ (i := 12) (N := some 66) (v := ?_) (a' := ?_) bm13 rfl rfl (by kernel_rfl) (fun _ _ _ h => h) (by rfl) ?_ ?_ ?_
                       rotate_left;(·intro w';go_simp;with_reducible rfl);rotate_left;(·simp only [Act.put, sa, sz, ss, i64_w, i32_w];rfl)
                       refine take_ (i := 13) (N := some 67) (v := ?_) (a' := ?_) bm14 rfl rfl (take_ofW HT_.out HW_.out (by kernel_rfl)) (fun _ _ _ h => h) (Or.inl ⟨by rfl, ?_⟩) hHeld ?_ ?_
                       rotate_left;(·rintro w' ⟨s0, s1, s2, s3, s4, s5, s6⟩;go_simp;with_reducible rfl);rotate_left;(·simp only [Act.put, sa, sz, ss, i64_w, i32_w];rfl)
                       refine pu HT_ (i := 14) (N := some 68) (v := ?_) (a' := ?_) bm15 rfl rfl (by kernel_rfl) (fun _ _ _ h => h) (by rfl) ?_ ?_ ?_
                       rotate_left;(·intro w';go_simp;with_reducible rfl);rotate_left;(·simp only [Act.put, sa, sz, ss, i64_w, i32_w];rfl)
                       refine pu HT_ (i := 15) (N := some 69) (v := ?_) (a' := ?_) bm16 rfl rfl (by kernel_rfl) (fun _ _ _ h => h) (by rfl) ?_ ?_ ?_
                       rotate_left;(·intro w';go_simp;with_reducible rfl);rotate_left;(·simp only [Act.put, sa, sz, ss, i64_w, i32_w];rfl)
                       refine pu HT_ (i := 16) (N := some 70) (v := ?_) (a' := ?_) bm17 rfl rfl (by kernel_rfl) (fun _ _ _ h => h) (by rfl) ?_ ?_ ?_
                       rotate_left;(·intro w';go_simp;with_reducible rfl);rotate_left;(·simp only [Act.put, sa, sz, ss, i64_w, i32_w];rfl)
                       refine pu HT_ (i := 17) (N := some 71) (v := ?_) (a' := ?_) bm18 rfl rfl (by kernel_rfl) (fun _ _ _ h => h) (by rfl) ?_ ?_ ?_
                       rotate_left;(·intro w';go_simp;with_reducible rfl);rotate_left;(·simp only [Act.put, sa, sz, ss, i64_w, i32_w];rfl)
                       refine pu HT_ (i := 18) (N := some 72) (v := ?_) (a' := ?_) bm19 rfl rfl (by kernel_rfl) (fun _ _ _ h => h) (by rfl) ?_ ?_ ?_
                       rotate_left;(·intro w';go_simp;with_reducible rfl);rotate_left;(·simp only [Act.put, sa, sz, ss, i64_w, i32_w];rfl)
                       refine pu HT_ (i := 20) (N := some 74) (v := ?_) (a' := ?_) bm61 rfl rfl (by kernel_rfl) (fun _ _ _ h => h) (by rfl) ?_ ?_ ?_
                       rotate_left;(·intro w';go_simp;with_reducible rfl);rotate_left;(·simp only [Act.put, sa, sz, ss, i64_w, i32_w];rfl)
                       refine pu HT_ (i := 24) (N := some 78) (v := ?_) (a' := ?_) bm62 rfl rfl (by kernel_rfl) (fun _ _ _ h => h) (by rfl) ?_ ?_ ?_
                       rotate_left;(·intro w';go_simp;with_reducible rfl);rotate_left;(·simp only [Act.put, sa, sz, ss, i64_w, i32_w];rfl)
                       refine take_ (i := 19) (N := some 73) (v := ?_) (a' := ?_) bm63 rfl rfl (take_ofW HT_.out HW_.out (by kernel_rfl)) (fun _ _ _ h => h) (Or.inl ⟨by rfl, ?_⟩) hHeld ?_ ?_
                       rotate_left;(·rintro w' ⟨s0, s1, s2, s3, s4, s5, s6⟩;go_simp;with_reducible rfl);rotate_left;(·simp only [Act.put, sa, sz, ss, i64_w, i32_w];rfl)
                       refine pu HT_ (i := 21) (N := some 75) (v := ?_) (a' := ?_) bm64 rfl rfl (by kernel_rfl) (fun _ _ _ h => h) (by rfl) ?_ ?_ ?_
                       rotate_left;(·intro w';go_simp;with_reducible rfl);rotate_left;(·simp only [Act.put, sa, sz, ss, i64_w, i32_w];rfl)
                       refine take_ (i := 22) (N := some 76) (v := ?_) (a' := ?_) bm65 rfl rfl (take_ofW HT_.out HW_.out (by kernel_rfl)) (fun _ _ _ h => h) (Or.inl ⟨by rfl, ?_⟩) hHeld ?_ ?_
                       rotate_left;(·rintro w' ⟨s0, s1, s2, s3, s4, s5, s6⟩;go_simp;with_reducible rfl);rotate_left;(·simp only [Act.put, sa, sz, ss, i64_w, i32_w];rfl)
                       refine pu HT_ (i := 23) (N := some 77) (v := ?_) (a' := ?_) bm25 rfl rfl (by kernel_rfl) (fun _ _ _ h => h) (by rfl) ?_ ?_ ?_
                       rotate_left;(·intro w';go_simp;with_reducible rfl);rotate_left;(·simp only [Act.put, sa, sz, ss, i64_w, i32_w];rfl)
                       refine take_ (i := 25) (N := some 79) (v := ?_) (a' := ?_) bm26 rfl rfl (take_ofW HT_.out HW_.out (by kernel_rfl)) (fun _ _ _ h => h) (Or.inl ⟨by rfl, ?_⟩) hHeld ?_ ?_
                       rotate_left;(·rintro w' ⟨s0, s1, s2, s3, s4, s5, s6⟩;go_simp;with_reducible rfl);rotate_left;(·simp only [Act.put, sa, sz, ss, i64_w, i32_w];rfl)
                       refine pu HT_ (i := 26) (N := some 80) (v := ?_) (a' := ?_) bm27 rfl rfl (by kernel_rfl) (fun _ _ _ h => h) (by rfl) ?_ ?_ ?_
                       rotate_left;(·intro w';go_simp;with_reducible rfl);rotate_left;(·simp only [Act.put, sa, sz, ss, i64_w, i32_w];rfl)
                       refine take_ (i := 27) (N := some 81) (v := ?_) (a' := ?_) bm28 rfl rfl (take_ofW HT_.out HW_.out (by kernel_rfl)) (fun _ _ _ h => h) (Or.inl ⟨by rfl, ?_⟩) hHeld ?_ ?_
                       rotate_left;(·rintro w' ⟨s0, s1, s2, s3, s4, s5, s6⟩;go_simp;with_reducible rfl);rotate_left;(·simp only [Act.put, sa, sz, ss, i64_w, i32_w];rfl)
                       refine pu HT_ (i := 28) (N := some 82) (v := ?_) (a' := ?_) bm29 rfl rfl (by kernel_rfl) (fun _ _ _ h => h) (by rfl) ?_ ?_ ?_
                       rotate_left;(·intro w';go_simp;with_reducible rfl);rotate_left;(·simp only [Act.put, sa, sz, ss, i64_w, i32_w];rfl)
                       refine pu HT_ (i := 29) (N := some 83) (v := ?_) (a' := ?_) bm30 rfl rfl (by kernel_rfl) (fun _ _ _ h => h) (by rfl) ?_ ?_ ?_
                       rotate_left;(·intro w';go_simp;with_reducible rfl);rotate_left;(·simp only [Act.put, sa, sz, ss, i64_w, i32_w];rfl)
                       refine pu HT_ (i := 30) (N := some 84) (v := ?_) (a' := ?_) bm31 rfl rfl (by kernel_rfl) (fun _ _ _ h => h) (by rfl) ?_ ?_ ?_
                       rotate_left;(·intro w';go_simp;with_reducible rfl);rotate_left;(·simp only [Act.put, sa, sz, ss, i64_w, i32_w];rfl)
                       refine pu HT_ (i := 31) (N := some 85) (v := ?_) (a' := ?_) bm32 rfl rfl (by kernel_rfl) (fun _ _ _ h => h) (by rfl) ?_ ?_ ?_
                       rotate_left;(·intro w';go_simp;with_reducible rfl);rotate_left;(·simp only [Act.put, sa, sz, ss, i64_w, i32_w];rfl)
                       refine pu HT_ (i := 32) (N := some 86) (v := ?_) (a' := ?_) bm33 rfl rfl (by kernel_rfl) (fun _ _ _ h => h) (by rfl) ?_ ?_ ?_
                       rotate_left;(·intro w';go_simp;with_reducible rfl);rotate_left;(·simp only [Act.put, sa, sz, ss, i64_w, i32_w];rfl)
                       refine pu HT_ (i := 33) (N := some 87) (v := ?_) (a' := ?_) bm34 rfl rfl (by kernel_rfl) (fun _ _ _ h => h) (by rfl) ?_ ?_ ?_
                       rotate_left;(·intro w';go_simp;with_reducible rfl);rotate_left;(·simp only [Act.put, sa, sz, ss, i64_w, i32_w];rfl)
                       refine pu HT_ (i := 34) (N := some 88) (v := ?_) (a' := ?_) bm35 rfl rfl (by kernel_rfl) (fun _ _ _ h => h) (by rfl) ?_ ?_ ?_
                       rotate_left;(·intro w';go_simp;with_reducible rfl);rotate_left;(·simp only [Act.put, sa, sz, ss, i64_w, i32_w];rfl)
                       refine pu HT_ (i := 35) (N := some 89) (v := ?_) (a' := ?_) bm36 rfl rfl (by kernel_rfl) (fun _ _ _ h => h) (by rfl) ?_ ?_ ?_
                       rotate_left;(·intro w';go_simp;with_reducible rfl);rotate_left;(·simp only [Act.put, sa, sz, ss, i64_w, i32_w];rfl)
                       refine pu HT_ (i := 36) (N := some 90) (v := ?_) (a' := ?_) bm37 rfl rfl (by kernel_rfl) (fun _ _ _ h => h) (by rfl) ?_ ?_ ?_
                       rotate_left;(·intro w';go_simp;with_reducible rfl);rotate_left;(·simp only [Act.put, sa, sz, ss, i64_w, i32_w];rfl)
                       refine pu HT_ (i := 38) (N := some 92) (v := ?_) (a' := ?_) bm66 rfl rfl (by kernel_rfl) (fun _ _ _ h => h) (by rfl) ?_ ?_ ?_
                       rotate_left;(·intro w';go_simp;with_reducible rfl);rotate_left;(·simp only [Act.put, sa, sz, ss, i64_w, i32_w];rfl)
                       refine pu HT_ (i := 42) (N := some 96) (v := ?_) (a' := ?_) bm67 rfl rfl (by kernel_rfl) (fun _ _ _ h => h) (by rfl) ?_ ?_ ?_
                       rotate_left;(·intro w';go_simp;with_reducible rfl);rotate_left;(·simp only [Act.put, sa, sz, ss, i64_w, i32_w];rfl)
                       refine take_ (i := 37) (N := some 91) (v := ?_) (a' := ?_) bm68 rfl rfl (take_ofW HT_.out HW_.out (by kernel_rfl)) (fun _ _ _ h => h) (Or.inl ⟨by rfl, ?_⟩) hHeld ?_ ?_
                       rotate_left;(·rintro w' ⟨s0, s1, s2, s3, s4, s5, s6⟩;go_simp;with_reducible rfl);rotate_left;(·simp only [Act.put, sa, sz, ss, i64_w, i32_w];rfl)
                       refine pu HT_ (i := 39) (N := some 93) (v := ?_) (a' := ?_) bm69 rfl rfl (by kernel_rfl) (fun _ _ _ h => h) (by rfl) ?_ ?_ ?_
                       rotate_left;(·intro w';go_simp;with_reducible rfl);rotate_left;(·simp only [Act.put, sa, sz, ss, i64_w, i32_w];rfl)
                       refine take_ (i := 40) (N := some 94) (v := ?_) (a' := ?_) bm70 rfl rfl (take_ofW HT_.out HW_.out (by kernel_rfl)) (fun _ _ _ h => h) (Or.inl ⟨by rfl, ?_⟩) hHeld ?_ ?_
                       rotate_left;(·rintro w' ⟨s0, s1, s2, s3, s4, s5, s6⟩;go_simp;with_reducible rfl);rotate_left;(·simp only [Act.put, sa, sz, ss, i64_w, i32_w];rfl)
                       refine one_ (i := 41) (N := some 95) bm43 rfl rfl (one_of HT_.out (by kernel_rfl)) (by decide) (fun K hK => ?_)
                       refine goes_ Try.func15 (by kernel_rfl) rfl #[.slice A448_0 (rd_L1 l0_1 x51_3).length c448_0] (by rfl) rfl rfl (by (try simp only [List.map_toArray, List.map_cons, List.map_nil]); first | done | rfl | (simp only [List.length_drop, List.length_take]; rfl)) ?_
                       with_reducible refine (heraldref24_Sum.calls k3 _ _ (rd_L1 l0_1 x51_3) t449 _ ?side1 ?side2 A30.out).mono ?_
                       (case side1 => repeat (first | exact (Kd.C_below HR448_0.out (by repeat (first | exact HB.out | apply pw_below_drewN | refine sb ?_ GE439))) | (with_reducible refine Kd.C_alloc ?_ _) | (with_reducible refine Kd.C_drewN ?_ _) | (with_reducible refine Kd.C_drew ?_)))
                       (case side2 => exact HC448_0.out)
                       rintro e w' ⟨rfl, ⟨nd, rfl⟩⟩
                       refine ⟨_, rfl, ?_⟩
                       refine hK.out _ _ ⟨(blk_cell BK439.out 0).trans rfl, (blk_cell BK439.out 1).trans rfl, ((HB.out.cell (World.block_lt_of_cell? w _ hw443_0)).trans hw443_0), ((HB.out.cell (World.block_lt_of_cell? w _ hw445_0)).trans hw445_0), ((HB.out.cell (World.block_lt_of_cell? w _ hw446_0)).trans hw446_0), ((HB.out.cell (World.block_lt_of_cell? w _ hw447_0)).trans hw447_0), ((HB.out.cell (World.block_lt_of_cell? w _ hw448_0)).trans hw448_0)⟩ (fun hHeld => ?_)
                       clear hK K
                       refine norm_ (a' := ?_) ?_ ?_
                       rotate_left;(·show Act.put _ (some 95) _ = _;simp only [Act.put, sa, sz, ss, i64_w, i32_w];rfl)
                       refine pu HT_ (i := 43) (N := some 97) (v := ?_) (a' := ?_) bm44 rfl rfl (by kernel_rfl) (fun _ _ _ h => h) (by rfl) ?_ ?_ ?_
                       rotate_left;(·intro w';go_simp;with_reducible rfl);rotate_left;(·simp only [Act.put, sa, sz, ss, i64_w, i32_w];rfl)
                       refine pu HT_ (i := 44) (N := some 98) (v := ?_) (a' := ?_) bm45 rfl rfl (by kernel_rfl) (fun _ _ _ h => h) (by rfl) ?_ ?_ ?_
                       rotate_left;(·intro w';go_simp;with_reducible rfl);rotate_left;(·simp only [Act.put, sa, sz, ss, i64_w, i32_w];rfl)
                       refine pn HT_ (i := 45) (N := some 99) (a' := ?_) bm46 rfl rfl (by kernel_rfl) (fun _ _ _ h => h) (by rfl) ?_ ?_
                       rotate_left;(·simp only [Act.put, sa, sz, ss, i64_w, i32_w];rfl)
                       refine pn HT_ (i := 46) (N := some 100) (a' := ?_) bm47 rfl rfl (by kernel_rfl) (fun _ _ _ h => h) (by rfl) ?_ ?_
                       rotate_left;(·simp only [Act.put, sa, sz, ss, i64_w, i32_w];rfl)
                       refine pn HT_ (i := 47) (N := some 101) (a' := ?_) bm48 rfl rfl (by kernel_rfl) (fun _ _ _ h => h) (by rfl) ?_ ?_
                       rotate_left;(·simp only [Act.put, sa, sz, ss, i64_w, i32_w];rfl)
                       refine pn HT_ (i := 48) (N := some 102) (a' := ?_) bm49 rfl rfl (by kernel_rfl) (fun _ _ _ h => h) (by rfl) ?_ ?_
                       rotate_left;(·simp only [Act.put, sa, sz, ss, i64_w, i32_w];rfl)
                       refine pn HT_ (i := 49) (N := some 103) (a' := ?_) bm50 rfl rfl (by kernel_rfl) (fun _ _ _ h => h) (by rfl) ?_ ?_
                       rotate_left;(·simp only [Act.put, sa, sz, ss, i64_w, i32_w];rfl)
                       refine pn HT_ (i := 50) (N := some 104) (a' := ?_) bm51 rfl rfl (by kernel_rfl) (fun _ _ _ h => h) (by rfl) ?_ ?_
                       rotate_left;(·simp only [Act.put, sa, sz, ss, i64_w, i32_w];rfl)
                       refine pn HT_ (i := 51) (N := some 105) (a' := ?_) bm52 rfl rfl (by kernel_rfl) (fun _ _ _ h => h) (by rfl) ?_ ?_
                       rotate_left;(·simp only [Act.put, sa, sz, ss, i64_w, i32_w];rfl)
                       refine pn HT_ (i := 52) (N := some 106) (a' := ?_) bm53 rfl rfl (by kernel_rfl) (fun _ _ _ h => h) (by rfl) ?_ ?_
                       rotate_left;(·simp only [Act.put, sa, sz, ss, i64_w, i32_w];rfl)
                       refine pn HT_ (i := 53) (N := some 107) (a' := ?_) bm54 rfl rfl (by kernel_rfl) (fun _ _ _ h => h) (by rfl) ?_ ?_
                       rotate_left;(·simp only [Act.put, sa, sz, ss, i64_w, i32_w];rfl)
                       refine pn HT_ (i := 54) (N := some 108) (a' := ?_) bm55 rfl rfl (by kernel_rfl) (fun _ _ _ h => h) (by rfl) ?_ ?_
                       rotate_left;(·simp only [Act.put, sa, sz, ss, i64_w, i32_w];rfl)
                       refine pn HT_ (i := 55) (N := some 109) (a' := ?_) bm56 rfl rfl (by kernel_rfl) (fun _ _ _ h => h) (by rfl) ?_ ?_
                       rotate_left;(·simp only [Act.put, sa, sz, ss, i64_w, i32_w];rfl)
                       refine pn HT_ (i := 56) (N := some 110) (a' := ?_) bm57 rfl rfl (by kernel_rfl) (fun _ _ _ h => h) (by rfl) ?_ ?_
                       rotate_left;(·simp only [Act.put, sa, sz, ss, i64_w, i32_w];rfl)
                       refine pu HT_ (i := 57) (N := some 111) (v := ?_) (a' := ?_) bm58 rfl rfl (by kernel_rfl) (fun _ _ _ h => h) (by rfl) ?_ ?_ ?_
                       rotate_left;(·intro w';go_simp;with_reducible rfl);rotate_left;(·simp only [Act.put, sa, sz, ss, i64_w, i32_w];rfl)
                       refine pu HT_ (i := 58) (N := some 112) (v := ?_) (a' := ?_) bm59 rfl rfl (by kernel_rfl) (fun _ _ _ h => h) (by rfl) ?_ ?_ ?_
                       rotate_left;(·intro w';go_simp;with_reducible rfl);rotate_left;(·simp only [Act.put, sa, sz, ss, i64_w, i32_w];rfl)
                       refine pu HT_ (i := 59) (N := some 113) (v := ?_) (a' := ?_) bm60 rfl rfl (by kernel_rfl) (fun _ _ _ h => h) (by rfl) ?_ ?_ ?_
                       rotate_left;(·intro w';go_simp;with_reducible rfl);rotate_left;(·simp only [Act.put, sa, sz, ss, i64_w, i32_w];rfl)
                       refine done_ (done_of HT_.out (by kernel_rfl)) ?_
                       try go_wp2
                       go_meet
                       case rel => exact ⟨_, (true), (by first | rfl | (simp; done) | (simp [*]; done) | (simp [i64_w]; done) | (simp [*, i64_w]; done)), H', ⟨by have := HJ3.out; have := HJ12.out; have := HK3.out; first | omega | exact Nat.le_refl _⟩, ⟨by exact BK439.out⟩, ⟨by repeat (first | exact HB.out | apply pw_below_drewN | refine sb ?_ GE439)⟩⟩
                    ·rw [if_neg c29] at H
                     exact absurd H (by simp)
                   ·rw [if_neg c28] at H
                    have c28b0 : decide (x51_3 < (l0_1.length : Int)) = false := decide_eq_false c28
                    clear c28
                    as_aux_lemma =>
                     have H' := Aside0.mk H
                     clear H
                     try go_wp2
                     replace BK439 := Aside0.mk (blk_drew BK439.out)
                     replace HB := Aside0.mk (below_drew1 HB.out)
                     have p443 : 0 ≤ (x51_3 : Int) := of_decide_eq_true (by first | (with_reducible assumption) | assumption)
                     have q443 : x51_3 < (l0_0.length : Int) := of_decide_eq_true (by first | (with_reducible assumption) | assumption)
                     obtain ⟨ad443, A443_0, c443_0, e443, hx443_0, hl443_0, hi443_0⟩ := at_L1 HR0_0.out x51_3 p443 q443
                     have hw443_0 := hx443_0
                     obtain rfl : ad441 = ad443 := (by injection e443)
                     replace hx443_0 := (HB.out.cell (World.block_lt_of_cell? w _ hx443_0)).trans hx443_0
                     have HR443_0 := Aside0.mk hi443_0
                     have HC443_0 := Aside0.mk hl443_0
                     clear hi443_0 hl443_0
                     replace p443 := eq_true p443
                     replace q443 := eq_true q443
                     have p445 : 0 ≤ (x51_3 : Int) := of_decide_eq_true (by first | (with_reducible assumption) | assumption)
                     have q445 : x51_3 < (l0_0.length : Int) := of_decide_eq_true (by first | (with_reducible assumption) | assumption)
                     obtain ⟨ad445, A445_0, c445_0, e445, hx445_0, hl445_0, hi445_0⟩ := at_L1 HR0_0.out x51_3 p445 q445
                     have hw445_0 := hx445_0
                     obtain rfl : ad441 = ad445 := (by injection e445)
                     replace hx445_0 := (HB.out.cell (World.block_lt_of_cell? w _ hx445_0)).trans hx445_0
                     have HR445_0 := Aside0.mk hi445_0
                     have HC445_0 := Aside0.mk hl445_0
                     clear hi445_0 hl445_0
                     replace p445 := eq_true p445
                     replace q445 := eq_true q445
                     have ea_ := Option.some.inj (hx443_0.symm.trans hx445_0)
                     injection ea_ with ea_ en_ ec_
                     subst ea_
                     subst ec_
                     clear en_
                     have p446 : 0 ≤ (x51_3 : Int) := of_decide_eq_true (by first | (with_reducible assumption) | assumption)
                     have q446 : x51_3 < (l0_0.length : Int) := of_decide_eq_true (by first | (with_reducible assumption) | assumption)
                     obtain ⟨ad446, A446_0, c446_0, e446, hx446_0, hl446_0, hi446_0⟩ := at_L1 HR0_0.out x51_3 p446 q446
                     have hw446_0 := hx446_0
                     obtain rfl : ad441 = ad446 := (by injection e446)
                     replace hx446_0 := (HB.out.cell (World.block_lt_of_cell? w _ hx446_0)).trans hx446_0
                     have HR446_0 := Aside0.mk hi446_0
                     have HC446_0 := Aside0.mk hl446_0
                     clear hi446_0 hl446_0
                     replace p446 := eq_true p446
                     replace q446 := eq_true q446
                     have ea_ := Option.some.inj (hx443_0.symm.trans hx446_0)
                     injection ea_ with ea_ en_ ec_
                     subst ea_
                     subst ec_
                     clear en_
                     have p447 : 0 ≤ (0 : Int) := (by omega)
                     have q447 : 0 < (l0_0.length : Int) := of_decide_eq_true (by first | (with_reducible assumption) | assumption)
                     obtain ⟨ad447, A447_0, c447_0, e447, hx447_0, hl447_0, hi447_0⟩ := at_L1 HR0_0.out 0 p447 q447
                     have hw447_0 := hx447_0
                     (try rw [show ((0 : Int)).toNat = 0 from rfl] at hw447_0)
                     (try rw [show 0 * 1 = 0 from rfl] at hw447_0)
                     (try rw [Addr.add_zero'] at hw447_0)
                     obtain rfl : ad441 = ad447 := (by injection e447)
                     have qi447 : (0 < l0_0.length) = True := eq_true (by omega)
                     (try rw [show ((0 : Int)).toNat = 0 from rfl] at hx447_0)
                     (try rw [Addr.add_zero'] at hx447_0)
                     replace hx447_0 := (HB.out.cell (World.block_lt_of_cell? w _ hx447_0)).trans hx447_0
                     have HR447_0 := Aside0.mk hi447_0
                     have HC447_0 := Aside0.mk hl447_0
                     clear hi447_0 hl447_0
                     replace p447 := eq_true p447
                     replace q447 := eq_true q447
                     refine start_ (n := 60) (S := fun w' => w'.cell? ⟨gb439, 0, none⟩ = some (.slice (some ad441) l0_0.length c0_0) ∧ w'.cell? ⟨gb439, 1, none⟩ = some (.slice A0_1 l0_1.length c0_1) ∧ w'.cell? (ad441.add (x51_3).toNat) = some (.slice A443_0 (rd_L1 l0_0 x51_3).length c443_0) ∧ w'.cell? (ad441.add (x51_3).toNat) = some (.slice A443_0 (rd_L1 l0_0 x51_3).length c443_0) ∧ w'.cell? (ad441.add (x51_3).toNat) = some (.slice A443_0 (rd_L1 l0_0 x51_3).length c443_0) ∧ w'.cell? ad441 = some (.slice A447_0 (rd_L1 l0_0 0).length c447_0)) (ds := []) bm0 (by kernel_rfl) rfl rfl ⟨(blk_cell BK439.out 0).trans rfl, (blk_cell BK439.out 1).trans rfl, ((HB.out.cell (World.block_lt_of_cell? w _ hw443_0)).trans hw443_0), ((HB.out.cell (World.block_lt_of_cell? w _ hw445_0)).trans hw445_0), ((HB.out.cell (World.block_lt_of_cell? w _ hw446_0)).trans hw446_0), ((HB.out.cell (World.block_lt_of_cell? w _ hw447_0)).trans hw447_0)⟩ (fun hHeld => ?_); refine with_tabW hcp.tab12 hcp.bits12 (fun HT_ HW_ => ?_)
                     generalize wr.drew = w34 at BK439 HB HR443_0 HR445_0 HR446_0 HR447_0 hx443_0 hx445_0 hx446_0 hx447_0 hHeld ⊢
                     refine pu HT_ (i := 0) (N := some 54) (v := ?_) (a' := ?_) bm1 rfl rfl (by kernel_rfl) (fun _ _ _ h => h) (by rfl) ?_ ?_ ?_
                     rotate_left;(·intro w';go_simp;with_reducible rfl);rotate_left;(·simp only [Act.put, sa, sz, ss, i64_w, i32_w];rfl)
                     refine pu HT_ (i := 2) (N := some 56) (v := ?_) (a' := ?_) bm2 rfl rfl (by kernel_rfl) (fun _ _ _ h => h) (by rfl) ?_ ?_ ?_
                     rotate_left;(·intro w';go_simp;with_reducible rfl);rotate_left;(·simp only [Act.put, sa, sz, ss, i64_w, i32_w];rfl)
                     refine pu HT_ (i := 6) (N := some 60) (v := ?_) (a' := ?_) bm3 rfl rfl (by kernel_rfl) (fun _ _ _ h => h) (by rfl) ?_ ?_ ?_
                     rotate_left;(·intro w';go_simp;with_reducible rfl);rotate_left;(·simp only [Act.put, sa, sz, ss, i64_w, i32_w];rfl)
                     refine take_ (i := 1) (N := some 55) (v := ?_) (a' := ?_) bm4 rfl rfl (take_ofW HT_.out HW_.out (by kernel_rfl)) (fun _ _ _ h => h) (Or.inl ⟨by rfl, ?_⟩) hHeld ?_ ?_
                     rotate_left;(·rintro w' ⟨s0, s1, s2, s3, s4, s5⟩;go_simp;with_reducible rfl);rotate_left;(·simp only [Act.put, sa, sz, ss, i64_w, i32_w];rfl)
                     refine pu HT_ (i := 3) (N := some 57) (v := ?_) (a' := ?_) bm5 rfl rfl (by kernel_rfl) (fun _ _ _ h => h) (by rfl) ?_ ?_ ?_
                     rotate_left;(·intro w';go_simp;with_reducible rfl);rotate_left;(·simp only [Act.put, sa, sz, ss, i64_w, i32_w];rfl)
                     refine take_ (i := 4) (N := some 58) (v := ?_) (a' := ?_) bm6 rfl rfl (take_ofW HT_.out HW_.out (by kernel_rfl)) (fun _ _ _ h => h) (Or.inl ⟨by rfl, ?_⟩) hHeld ?_ ?_
                     rotate_left;(·rintro w' ⟨s0, s1, s2, s3, s4, s5⟩;go_simp;with_reducible rfl);rotate_left;(·simp only [Act.put, sa, sz, ss, i64_w, i32_w];rfl)
                     refine one_ (i := 5) (N := some 59) bm7 rfl rfl (one_of HT_.out (by kernel_rfl)) (by decide) (fun K hK => ?_)
                     refine goes_ Try.func15 (by kernel_rfl) rfl #[.slice A443_0 (rd_L1 l0_0 x51_3).length c443_0] (by rfl) rfl rfl (by (try simp only [List.map_toArray, List.map_cons, List.map_nil]); first | done | rfl | (simp only [List.length_drop, List.length_take]; rfl)) ?_
                     with_reducible refine (heraldref24_Sum.calls k3 _ _ (rd_L1 l0_0 x51_3) t444 _ ?side1 ?side2 A22.out).mono ?_
                     (case side1 => repeat (first | exact (Kd.C_below HR443_0.out HB.out) | (with_reducible refine Kd.C_alloc ?_ _) | (with_reducible refine Kd.C_drewN ?_ _) | (with_reducible refine Kd.C_drew ?_)))
                     (case side2 => exact HC443_0.out)
                     rintro e w' ⟨rfl, ⟨nd, rfl⟩⟩
                     refine ⟨_, rfl, ?_⟩
                     refine hK.out _ _ ⟨(blk_cell BK439.out 0).trans rfl, (blk_cell BK439.out 1).trans rfl, ((HB.out.cell (World.block_lt_of_cell? w _ hw443_0)).trans hw443_0), ((HB.out.cell (World.block_lt_of_cell? w _ hw445_0)).trans hw445_0), ((HB.out.cell (World.block_lt_of_cell? w _ hw446_0)).trans hw446_0), ((HB.out.cell (World.block_lt_of_cell? w _ hw447_0)).trans hw447_0)⟩ (fun hHeld => ?_)
                     clear hK K
                     refine norm_ (a' := ?_) ?_ ?_
                     rotate_left;(·show Act.put _ (some 59) _ = _;simp only [Act.put, sa, sz, ss, i64_w, i32_w];rfl)
                     refine pu HT_ (i := 7) (N := some 61) (v := ?_) (a' := ?_) bm8 rfl rfl (by kernel_rfl) (fun _ _ _ h => h) (by rfl) ?_ ?_ ?_
                     rotate_left;(·intro w';go_simp;with_reducible rfl);rotate_left;(·simp only [Act.put, sa, sz, ss, i64_w, i32_w];rfl)
                     refine pu HT_ (i := 8) (N := some 62) (v := ?_) (a' := ?_) bm9 rfl rfl (by kernel_rfl) (fun _ _ _ h => h) (by rfl) ?_ ?_ ?_
                     rotate_left;(·intro w';go_simp;with_reducible rfl);rotate_left;(·simp only [Act.put, sa, sz, ss, i64_w, i32_w];rfl)
                     refine pu HT_ (i := 9) (N := some 63) (v := ?_) (a' := ?_) bm10 rfl rfl (by kernel_rfl) (fun _ _ _ h => h) (by rfl) ?_ ?_ ?_
                     rotate_left;(·intro w';go_simp;with_reducible rfl);rotate_left;(·simp only [Act.put, sa, sz, ss, i64_w, i32_w];rfl)
                     refine pu HT_ (i := 11) (N := some 65) (v := ?_) (a' := ?_) bm11 rfl rfl (by kernel_rfl) (fun _ _ _ h => h) (by rfl) ?_ ?_ ?_
                     rotate_left;(·intro w';go_simp;with_reducible rfl);rotate_left;(·simp only [Act.put, sa, sz, ss, i64_w, i32_w];rfl)
                     refine take_ (i := 10) (N := some 64) (v := ?_) (a' := ?_) bm12 rfl rfl (take_ofW HT_.out HW_.out (by kernel_rfl)) (fun _ _ _ h => h) (Or.inl ⟨by rfl, ?_⟩) hHeld ?_ ?_
                     rotate_left;(·rintro w' ⟨s0, s1, s2, s3, s4, s5⟩;go_simp;with_reducible rfl);rotate_left;(·simp only [Act.put, sa, sz, ss, i64_w, i32_w];rfl)
                     refine pu HT_ (i := 12) (N := some 66) (v := ?_) (a' := ?_) bm13 rfl rfl (by kernel_rfl) (fun _ _ _ h => h) (by rfl) ?_ ?_ ?_
                     rotate_left;(·intro w';go_simp;with_reducible rfl);rotate_left;(·simp only [Act.put, sa, sz, ss, i64_w, i32_w];rfl)
                     refine take_ (i := 13) (N := some 67) (v := ?_) (a' := ?_) bm14 rfl rfl (take_ofW HT_.out HW_.out (by kernel_rfl)) (fun _ _ _ h => h) (Or.inl ⟨by rfl, ?_⟩) hHeld ?_ ?_
                     rotate_left;(·rintro w' ⟨s0, s1, s2, s3, s4, s5⟩;go_simp;with_reducible rfl);rotate_left;(·simp only [Act.put, sa, sz, ss, i64_w, i32_w];rfl)
                     refine pu HT_ (i := 14) (N := some 68) (v := ?_) (a' := ?_) bm15 rfl rfl (by kernel_rfl) (fun _ _ _ h => h) (by rfl) ?_ ?_ ?_
                     rotate_left;(·intro w';go_simp;with_reducible rfl);rotate_left;(·simp only [Act.put, sa, sz, ss, i64_w, i32_w];rfl)
                     refine pu HT_ (i := 15) (N := some 69) (v := ?_) (a' := ?_) bm16 rfl rfl (by kernel_rfl) (fun _ _ _ h => h) (by rfl) ?_ ?_ ?_
                     rotate_left;(·intro w';go_simp;with_reducible rfl);rotate_left;(·simp only [Act.put, sa, sz, ss, i64_w, i32_w];rfl)
                     refine pu HT_ (i := 16) (N := some 70) (v := ?_) (a' := ?_) bm17 rfl rfl (by kernel_rfl) (fun _ _ _ h => h) (by rfl) ?_ ?_ ?_
                     rotate_left;(·intro w';go_simp;with_reducible rfl);rotate_left;(·simp only [Act.put, sa, sz, ss, i64_w, i32_w];rfl)
                     refine pu HT_ (i := 17) (N := some 71) (v := ?_) (a' := ?_) bm18 rfl rfl (by kernel_rfl) (fun _ _ _ h => h) (by rfl) ?_ ?_ ?_
                     rotate_left;(·intro w';go_simp;with_reducible rfl);rotate_left;(·simp only [Act.put, sa, sz, ss, i64_w, i32_w];rfl)
                     refine pu HT_ (i := 18) (N := some 72) (v := ?_) (a' := ?_) bm19 rfl rfl (by kernel_rfl) (fun _ _ _ h => h) (by rfl) ?_ ?_ ?_
                     rotate_left;(·intro w';go_simp;with_reducible rfl);rotate_left;(·simp only [Act.put, sa, sz, ss, i64_w, i32_w];rfl)
                     refine pu HT_ (i := 20) (N := some 74) (v := ?_) (a' := ?_) bm61 rfl rfl (by kernel_rfl) (fun _ _ _ h => h) (by rfl) ?_ ?_ ?_
                     rotate_left;(·intro w';go_simp;with_reducible rfl);rotate_left;(·simp only [Act.put, sa, sz, ss, i64_w, i32_w];rfl)
                     refine pu HT_ (i := 24) (N := some 78) (v := ?_) (a' := ?_) bm62 rfl rfl (by kernel_rfl) (fun _ _ _ h => h) (by rfl) ?_ ?_ ?_
                     rotate_left;(·intro w';go_simp;with_reducible rfl);rotate_left;(·simp only [Act.put, sa, sz, ss, i64_w, i32_w];rfl)
                     refine take_ (i := 19) (N := some 73) (v := ?_) (a' := ?_) bm63 rfl rfl (take_ofW HT_.out HW_.out (by kernel_rfl)) (fun _ _ _ h => h) (Or.inl ⟨by rfl, ?_⟩) hHeld ?_ ?_
                     rotate_left;(·rintro w' ⟨s0, s1, s2, s3, s4, s5⟩;go_simp;with_reducible rfl);rotate_left;(·simp only [Act.put, sa, sz, ss, i64_w, i32_w];rfl)
                     refine pu HT_ (i := 21) (N := some 75) (v := ?_) (a' := ?_) bm64 rfl rfl (by kernel_rfl) (fun _ _ _ h => h) (by rfl) ?_ ?_ ?_
                     rotate_left;(·intro w';go_simp;with_reducible rfl);rotate_left;(·simp only [Act.put, sa, sz, ss, i64_w, i32_w];rfl)
                     refine take_ (i := 22) (N := some 76) (v := ?_) (a' := ?_) bm65 rfl rfl (take_ofW HT_.out HW_.out (by kernel_rfl)) (fun _ _ _ h => h) (Or.inl ⟨by rfl, ?_⟩) hHeld ?_ ?_
                     rotate_left;(·rintro w' ⟨s0, s1, s2, s3, s4, s5⟩;go_simp;with_reducible rfl);rotate_left;(·simp only [Act.put, sa, sz, ss, i64_w, i32_w];rfl)
                     refine pu HT_ (i := 23) (N := some 77) (v := ?_) (a' := ?_) bm25 rfl rfl (by kernel_rfl) (fun _ _ _ h => h) (by rfl) ?_ ?_ ?_
                     rotate_left;(·intro w';go_simp;with_reducible rfl);rotate_left;(·simp only [Act.put, sa, sz, ss, i64_w, i32_w];rfl)
                     refine take_ (i := 25) (N := some 79) (v := ?_) (a' := ?_) bm26 rfl rfl (take_ofW HT_.out HW_.out (by kernel_rfl)) (fun _ _ _ h => h) (Or.inl ⟨by rfl, ?_⟩) hHeld ?_ ?_
                     rotate_left;(·rintro w' ⟨s0, s1, s2, s3, s4, s5⟩;go_simp;with_reducible rfl);rotate_left;(·simp only [Act.put, sa, sz, ss, i64_w, i32_w];rfl)
                     refine pu HT_ (i := 26) (N := some 80) (v := ?_) (a' := ?_) bm27 rfl rfl (by kernel_rfl) (fun _ _ _ h => h) (by rfl) ?_ ?_ ?_
                     rotate_left;(·intro w';go_simp;with_reducible rfl);rotate_left;(·simp only [Act.put, sa, sz, ss, i64_w, i32_w];rfl)
                     refine take_ (i := 27) (N := some 81) (v := ?_) (a' := ?_) bm28 rfl rfl (take_ofW HT_.out HW_.out (by kernel_rfl)) (fun _ _ _ h => h) (Or.inl ⟨by rfl, ?_⟩) hHeld ?_ ?_
                     rotate_left;(·rintro w' ⟨s0, s1, s2, s3, s4, s5⟩;go_simp;with_reducible rfl);rotate_left;(·simp only [Act.put, sa, sz, ss, i64_w, i32_w];rfl)
                     refine pu HT_ (i := 28) (N := some 82) (v := ?_) (a' := ?_) bm29 rfl rfl (by kernel_rfl) (fun _ _ _ h => h) (by rfl) ?_ ?_ ?_
                     rotate_left;(·intro w';go_simp;with_reducible rfl);rotate_left;(·simp only [Act.put, sa, sz, ss, i64_w, i32_w];rfl)
                     refine pu HT_ (i := 29) (N := some 83) (v := ?_) (a' := ?_) bm30 rfl rfl (by kernel_rfl) (fun _ _ _ h => h) (by rfl) ?_ ?_ ?_
                     rotate_left;(·intro w';go_simp;with_reducible rfl);rotate_left;(·simp only [Act.put, sa, sz, ss, i64_w, i32_w];rfl)
                     refine pu HT_ (i := 30) (N := some 84) (v := ?_) (a' := ?_) bm31 rfl rfl (by kernel_rfl) (fun _ _ _ h => h) (by rfl) ?_ ?_ ?_
                     rotate_left;(·intro w';go_simp;with_reducible rfl);rotate_left;(·simp only [Act.put, sa, sz, ss, i64_w, i32_w];rfl)
                     refine pu HT_ (i := 31) (N := some 85) (v := ?_) (a' := ?_) bm32 rfl rfl (by kernel_rfl) (fun _ _ _ h => h) (by rfl) ?_ ?_ ?_
                     rotate_left;(·intro w';go_simp;with_reducible rfl);rotate_left;(·simp only [Act.put, sa, sz, ss, i64_w, i32_w];rfl)
                     refine pu HT_ (i := 32) (N := some 86) (v := ?_) (a' := ?_) bm33 rfl rfl (by kernel_rfl) (fun _ _ _ h => h) (by rfl) ?_ ?_ ?_
                     rotate_left;(·intro w';go_simp;with_reducible rfl);rotate_left;(·simp only [Act.put, sa, sz, ss, i64_w, i32_w];rfl)
                     refine pu HT_ (i := 33) (N := some 87) (v := ?_) (a' := ?_) bm34 rfl rfl (by kernel_rfl) (fun _ _ _ h => h) (by rfl) ?_ ?_ ?_
                     rotate_left;(·intro w';go_simp;with_reducible rfl);rotate_left;(·simp only [Act.put, sa, sz, ss, i64_w, i32_w];rfl)
                     refine pu HT_ (i := 34) (N := some 88) (v := ?_) (a' := ?_) bm35 rfl rfl (by kernel_rfl) (fun _ _ _ h => h) (by rfl) ?_ ?_ ?_
                     rotate_left;(·intro w';go_simp;with_reducible rfl);rotate_left;(·simp only [Act.put, sa, sz, ss, i64_w, i32_w];rfl)
                     refine pu HT_ (i := 35) (N := some 89) (v := ?_) (a' := ?_) bm36 rfl rfl (by kernel_rfl) (fun _ _ _ h => h) (by rfl) ?_ ?_ ?_
                     rotate_left;(·intro w';go_simp;with_reducible rfl);rotate_left;(·simp only [Act.put, sa, sz, ss, i64_w, i32_w];rfl)
                     refine pn HT_ (i := 36) (N := some 90) (a' := ?_) bm37 rfl rfl (by kernel_rfl) (fun _ _ _ h => h) (by rfl) ?_ ?_
                     rotate_left;(·simp only [Act.put, sa, sz, ss, i64_w, i32_w];rfl)
                     refine pn HT_ (i := 37) (N := some 91) (a' := ?_) bm38 rfl rfl (by kernel_rfl) (fun _ _ _ h => h) (by rfl) ?_ ?_
                     rotate_left;(·simp only [Act.put, sa, sz, ss, i64_w, i32_w];rfl)
                     refine pn HT_ (i := 38) (N := some 92) (a' := ?_) bm39 rfl rfl (by kernel_rfl) (fun _ _ _ h => h) (by rfl) ?_ ?_
                     rotate_left;(·simp only [Act.put, sa, sz, ss, i64_w, i32_w];rfl)
                     refine pn HT_ (i := 39) (N := some 93) (a' := ?_) bm40 rfl rfl (by kernel_rfl) (fun _ _ _ h => h) (by rfl) ?_ ?_
                     rotate_left;(·simp only [Act.put, sa, sz, ss, i64_w, i32_w];rfl)
                     refine pn HT_ (i := 40) (N := some 94) (a' := ?_) bm41 rfl rfl (by kernel_rfl) (fun _ _ _ h => h) (by rfl) ?_ ?_
                     rotate_left;(·simp only [Act.put, sa, sz, ss, i64_w, i32_w];rfl)
                     refine pn HT_ (i := 41) (N := some 95) (a' := ?_) bm42 rfl rfl (by kernel_rfl) (fun _ _ _ h => h) (by rfl) ?_ ?_
                     rotate_left;(·simp only [Act.put, sa, sz, ss, i64_w, i32_w];rfl)
                     refine pn HT_ (i := 42) (N := some 96) (a' := ?_) bm43 rfl rfl (by kernel_rfl) (fun _ _ _ h => h) (by rfl) ?_ ?_
                     rotate_left;(·simp only [Act.put, sa, sz, ss, i64_w, i32_w];rfl)
                     refine pn HT_ (i := 43) (N := some 97) (a' := ?_) bm44 rfl rfl (by kernel_rfl) (fun _ _ _ h => h) (by rfl) ?_ ?_
                     rotate_left;(·simp only [Act.put, sa, sz, ss, i64_w, i32_w];rfl)
                     refine pn HT_ (i := 44) (N := some 98) (a' := ?_) bm45 rfl rfl (by kernel_rfl) (fun _ _ _ h => h) (by rfl) ?_ ?_
                     rotate_left;(·simp only [Act.put, sa, sz, ss, i64_w, i32_w];rfl)
                     refine pn HT_ (i := 45) (N := some 99) (a' := ?_) bm46 rfl rfl (by kernel_rfl) (fun _ _ _ h => h) (by rfl) ?_ ?_
                     rotate_left;(·simp only [Act.put, sa, sz, ss, i64_w, i32_w];rfl)
                     refine pn HT_ (i := 46) (N := some 100) (a' := ?_) bm47 rfl rfl (by kernel_rfl) (fun _ _ _ h => h) (by rfl) ?_ ?_
                     rotate_left;(·simp only [Act.put, sa, sz, ss, i64_w, i32_w];rfl)
                     refine pn HT_ (i := 47) (N := some 101) (a' := ?_) bm48 rfl rfl (by kernel_rfl) (fun _ _ _ h => h) (by rfl) ?_ ?_
                     rotate_left;(·simp only [Act.put, sa, sz, ss, i64_w, i32_w];rfl)
                     refine pn HT_ (i := 48) (N := some 102) (a' := ?_) bm49 rfl rfl (by kernel_rfl) (fun _ _ _ h => h) (by rfl) ?_ ?_
                     rotate_left;(·simp only [Act.put, sa, sz, ss, i64_w, i32_w];rfl)
                     refine pn HT_ (i := 49) (N := some 103) (a' := ?_) bm50 rfl rfl (by kernel_rfl) (fun _ _ _ h => h) (by rfl) ?_ ?_
                     rotate_left;(·simp only [Act.put, sa, sz, ss, i64_w, i32_w];rfl)
                     refine pn HT_ (i := 50) (N := some 104) (a' := ?_) bm51 rfl rfl (by kernel_rfl) (fun _ _ _ h => h) (by rfl) ?_ ?_
                     rotate_left;(·simp only [Act.put, sa, sz, ss, i64_w, i32_w];rfl)
                     refine pn HT_ (i := 51) (N := some 105) (a' := ?_) bm52 rfl rfl (by kernel_rfl) (fun _ _ _ h => h) (by rfl) ?_ ?_
                     rotate_left;(·simp only [Act.put, sa, sz, ss, i64_w, i32_w];rfl)
                     refine pn HT_ (i := 52) (N := some 106) (a' := ?_) bm53 rfl rfl (by kernel_rfl) (fun _ _ _ h => h) (by rfl) ?_ ?_
                     rotate_left;(·simp only [Act.put, sa, sz, ss, i64_w, i32_w];rfl)
                     refine pn HT_ (i := 53) (N := some 107) (a' := ?_) bm54 rfl rfl (by kernel_rfl) (fun _ _ _ h => h) (by rfl) ?_ ?_
                     rotate_left;(·simp only [Act.put, sa, sz, ss, i64_w, i32_w];rfl)
                     refine pn HT_ (i := 54) (N := some 108) (a' := ?_) bm55 rfl rfl (by kernel_rfl) (fun _ _ _ h => h) (by rfl) ?_ ?_
                     rotate_left;(·simp only [Act.put, sa, sz, ss, i64_w, i32_w];rfl)
                     refine pn HT_ (i := 55) (N := some 109) (a' := ?_) bm56 rfl rfl (by kernel_rfl) (fun _ _ _ h => h) (by rfl) ?_ ?_
                     rotate_left;(·simp only [Act.put, sa, sz, ss, i64_w, i32_w];rfl)
                     refine pn HT_ (i := 56) (N := some 110) (a' := ?_) bm57 rfl rfl (by kernel_rfl) (fun _ _ _ h => h) (by rfl) ?_ ?_
                     rotate_left;(·simp only [Act.put, sa, sz, ss, i64_w, i32_w];rfl)
                     refine pn HT_ (i := 57) (N := some 111) (a' := ?_) bm58 rfl rfl (by kernel_rfl) (fun _ _ _ h => h) (by rfl) ?_ ?_
                     rotate_left;(·simp only [Act.put, sa, sz, ss, i64_w, i32_w];rfl)
                     refine pu HT_ (i := 58) (N := some 112) (v := ?_) (a' := ?_) bm59 rfl rfl (by kernel_rfl) (fun _ _ _ h => h) (by rfl) ?_ ?_ ?_
                     rotate_left;(·intro w';go_simp;with_reducible rfl);rotate_left;(·simp only [Act.put, sa, sz, ss, i64_w, i32_w];rfl)
                     refine pu HT_ (i := 59) (N := some 113) (v := ?_) (a' := ?_) bm60 rfl rfl (by kernel_rfl) (fun _ _ _ h => h) (by rfl) ?_ ?_ ?_
                     rotate_left;(·intro w';go_simp;with_reducible rfl);rotate_left;(·simp only [Act.put, sa, sz, ss, i64_w, i32_w];rfl)
                     refine done_ (done_of HT_.out (by kernel_rfl)) ?_
                     try go_wp2
                     go_meet
                     case rel => exact ⟨_, (false), (by first | rfl | (simp; done) | (simp [*]; done) | (simp [i64_w]; done) | (simp [*, i64_w]; done)), H', ⟨by have := HJ3.out; have := HJ12.out; have := HK3.out; first | omega | exact Nat.le_refl _⟩, ⟨by exact BK439.out⟩, ⟨by repeat (first | exact HB.out | apply pw_below_drewN | refine sb ?_ GE439)⟩⟩
                  ·rw [if_neg c27] at H
                   have c27b0 : (((rd_L1 l0_0 x51_3).length : Int) == ((rd_L1 l0_0 0).length : Int)) = false := beq_eq_false_iff_ne.mpr c27
                   have c27b1 : (((rd_L1 l0_0 x51_3).length : Int) != ((rd_L1 l0_0 0).length : Int)) = true := bne_iff_ne.mpr c27
                   have c27b2 : ((rd_L1 l0_0 x51_3).length == (rd_L1 l0_0 0).length) = false := by first | simpa using c27 | (simp at c27 ⊢; omega)
                   as_aux_lemma =>
                    have H' := Aside0.mk H
                    clear H
                    try go_wp2
                    replace BK439 := Aside0.mk (blk_drew BK439.out)
                    replace HB := Aside0.mk (below_drew1 HB.out)
                    have p443 : 0 ≤ (x51_3 : Int) := of_decide_eq_true (by first | (with_reducible assumption) | assumption)
                    have q443 : x51_3 < (l0_0.length : Int) := of_decide_eq_true (by first | (with_reducible assumption) | assumption)
                    obtain ⟨ad443, A443_0, c443_0, e443, hx443_0, hl443_0, hi443_0⟩ := at_L1 HR0_0.out x51_3 p443 q443
                    have hw443_0 := hx443_0
                    obtain rfl : ad441 = ad443 := (by injection e443)
                    replace hx443_0 := (HB.out.cell (World.block_lt_of_cell? w _ hx443_0)).trans hx443_0
                    have HR443_0 := Aside0.mk hi443_0
                    have HC443_0 := Aside0.mk hl443_0
                    clear hi443_0 hl443_0
                    replace p443 := eq_true p443
                    replace q443 := eq_true q443
                    have p445 : 0 ≤ (x51_3 : Int) := of_decide_eq_true (by first | (with_reducible assumption) | assumption)
                    have q445 : x51_3 < (l0_0.length : Int) := of_decide_eq_true (by first | (with_reducible assumption) | assumption)
                    obtain ⟨ad445, A445_0, c445_0, e445, hx445_0, hl445_0, hi445_0⟩ := at_L1 HR0_0.out x51_3 p445 q445
                    have hw445_0 := hx445_0
                    obtain rfl : ad441 = ad445 := (by injection e445)
                    replace hx445_0 := (HB.out.cell (World.block_lt_of_cell? w _ hx445_0)).trans hx445_0
                    have HR445_0 := Aside0.mk hi445_0
                    have HC445_0 := Aside0.mk hl445_0
                    clear hi445_0 hl445_0
                    replace p445 := eq_true p445
                    replace q445 := eq_true q445
                    have ea_ := Option.some.inj (hx443_0.symm.trans hx445_0)
                    injection ea_ with ea_ en_ ec_
                    subst ea_
                    subst ec_
                    clear en_
                    have p446 : 0 ≤ (x51_3 : Int) := of_decide_eq_true (by first | (with_reducible assumption) | assumption)
                    have q446 : x51_3 < (l0_0.length : Int) := of_decide_eq_true (by first | (with_reducible assumption) | assumption)
                    obtain ⟨ad446, A446_0, c446_0, e446, hx446_0, hl446_0, hi446_0⟩ := at_L1 HR0_0.out x51_3 p446 q446
                    have hw446_0 := hx446_0
                    obtain rfl : ad441 = ad446 := (by injection e446)
                    replace hx446_0 := (HB.out.cell (World.block_lt_of_cell? w _ hx446_0)).trans hx446_0
                    have HR446_0 := Aside0.mk hi446_0
                    have HC446_0 := Aside0.mk hl446_0
                    clear hi446_0 hl446_0
                    replace p446 := eq_true p446
                    replace q446 := eq_true q446
                    have ea_ := Option.some.inj (hx443_0.symm.trans hx446_0)
                    injection ea_ with ea_ en_ ec_
                    subst ea_
                    subst ec_
                    clear en_
                    have p447 : 0 ≤ (0 : Int) := (by omega)
                    have q447 : 0 < (l0_0.length : Int) := of_decide_eq_true (by first | (with_reducible assumption) | assumption)
                    obtain ⟨ad447, A447_0, c447_0, e447, hx447_0, hl447_0, hi447_0⟩ := at_L1 HR0_0.out 0 p447 q447
                    have hw447_0 := hx447_0
                    (try rw [show ((0 : Int)).toNat = 0 from rfl] at hw447_0)
                    (try rw [show 0 * 1 = 0 from rfl] at hw447_0)
                    (try rw [Addr.add_zero'] at hw447_0)
                    obtain rfl : ad441 = ad447 := (by injection e447)
                    have qi447 : (0 < l0_0.length) = True := eq_true (by omega)
                    (try rw [show ((0 : Int)).toNat = 0 from rfl] at hx447_0)
                    (try rw [Addr.add_zero'] at hx447_0)
                    replace hx447_0 := (HB.out.cell (World.block_lt_of_cell? w _ hx447_0)).trans hx447_0
                    have HR447_0 := Aside0.mk hi447_0
                    have HC447_0 := Aside0.mk hl447_0
                    clear hi447_0 hl447_0
                    replace p447 := eq_true p447
                    replace q447 := eq_true q447
                    refine start_ (n := 60) (S := fun w' => w'.cell? ⟨gb439, 0, none⟩ = some (.slice (some ad441) l0_0.length c0_0) ∧ w'.cell? ⟨gb439, 1, none⟩ = some (.slice A0_1 l0_1.length c0_1) ∧ w'.cell? (ad441.add (x51_3).toNat) = some (.slice A443_0 (rd_L1 l0_0 x51_3).length c443_0) ∧ w'.cell? (ad441.add (x51_3).toNat) = some (.slice A443_0 (rd_L1 l0_0 x51_3).length c443_0) ∧ w'.cell? (ad441.add (x51_3).toNat) = some (.slice A443_0 (rd_L1 l0_0 x51_3).length c443_0) ∧ w'.cell? ad441 = some (.slice A447_0 (rd_L1 l0_0 0).length c447_0)) (ds := []) bm0 (by kernel_rfl) rfl rfl ⟨(blk_cell BK439.out 0).trans rfl, (blk_cell BK439.out 1).trans rfl, ((HB.out.cell (World.block_lt_of_cell? w _ hw443_0)).trans hw443_0), ((HB.out.cell (World.block_lt_of_cell? w _ hw445_0)).trans hw445_0), ((HB.out.cell (World.block_lt_of_cell? w _ hw446_0)).trans hw446_0), ((HB.out.cell (World.block_lt_of_cell? w _ hw447_0)).trans hw447_0)⟩ (fun hHeld => ?_); refine with_tabW hcp.tab12 hcp.bits12 (fun HT_ HW_ => ?_)
                    generalize wr.drew = w35 at BK439 HB HR443_0 HR445_0 HR446_0 HR447_0 hx443_0 hx445_0 hx446_0 hx447_0 hHeld ⊢
                    refine pu HT_ (i := 0) (N := some 54) (v := ?_) (a' := ?_) bm1 rfl rfl (by kernel_rfl) (fun _ _ _ h => h) (by rfl) ?_ ?_ ?_
                    rotate_left;(·intro w';go_simp;with_reducible rfl);rotate_left;(·simp only [Act.put, sa, sz, ss, i64_w, i32_w];rfl)
                    refine pu HT_ (i := 2) (N := some 56) (v := ?_) (a' := ?_) bm2 rfl rfl (by kernel_rfl) (fun _ _ _ h => h) (by rfl) ?_ ?_ ?_
                    rotate_left;(·intro w';go_simp;with_reducible rfl);rotate_left;(·simp only [Act.put, sa, sz, ss, i64_w, i32_w];rfl)
                    refine pu HT_ (i := 6) (N := some 60) (v := ?_) (a' := ?_) bm3 rfl rfl (by kernel_rfl) (fun _ _ _ h => h) (by rfl) ?_ ?_ ?_
                    rotate_left;(·intro w';go_simp;with_reducible rfl);rotate_left;(·simp only [Act.put, sa, sz, ss, i64_w, i32_w];rfl)
                    refine take_ (i := 1) (N := some 55) (v := ?_) (a' := ?_) bm4 rfl rfl (take_ofW HT_.out HW_.out (by kernel_rfl)) (fun _ _ _ h => h) (Or.inl ⟨by rfl, ?_⟩) hHeld ?_ ?_
                    rotate_left;(·rintro w' ⟨s0, s1, s2, s3, s4, s5⟩;go_simp;with_reducible rfl);rotate_left;(·simp only [Act.put, sa, sz, ss, i64_w, i32_w];rfl)
                    refine pu HT_ (i := 3) (N := some 57) (v := ?_) (a' := ?_) bm5 rfl rfl (by kernel_rfl) (fun _ _ _ h => h) (by rfl) ?_ ?_ ?_
                    rotate_left;(·intro w';go_simp;with_reducible rfl);rotate_left;(·simp only [Act.put, sa, sz, ss, i64_w, i32_w];rfl)
                    refine take_ (i := 4) (N := some 58) (v := ?_) (a' := ?_) bm6 rfl rfl (take_ofW HT_.out HW_.out (by kernel_rfl)) (fun _ _ _ h => h) (Or.inl ⟨by rfl, ?_⟩) hHeld ?_ ?_
                    rotate_left;(·rintro w' ⟨s0, s1, s2, s3, s4, s5⟩;go_simp;with_reducible rfl);rotate_left;(·simp only [Act.put, sa, sz, ss, i64_w, i32_w];rfl)
                    refine one_ (i := 5) (N := some 59) bm7 rfl rfl (one_of HT_.out (by kernel_rfl)) (by decide) (fun K hK => ?_)
                    refine goes_ Try.func15 (by kernel_rfl) rfl #[.slice A443_0 (rd_L1 l0_0 x51_3).length c443_0] (by rfl) rfl rfl (by (try simp only [List.map_toArray, List.map_cons, List.map_nil]); first | done | rfl | (simp only [List.length_drop, List.length_take]; rfl)) ?_
                    with_reducible refine (heraldref24_Sum.calls k3 _ _ (rd_L1 l0_0 x51_3) t444 _ ?side1 ?side2 A22.out).mono ?_
                    (case side1 => repeat (first | exact (Kd.C_below HR443_0.out HB.out) | (with_reducible refine Kd.C_alloc ?_ _) | (with_reducible refine Kd.C_drewN ?_ _) | (with_reducible refine Kd.C_drew ?_)))
                    (case side2 => exact HC443_0.out)
                    rintro e w' ⟨rfl, ⟨nd, rfl⟩⟩
                    refine ⟨_, rfl, ?_⟩
                    refine hK.out _ _ ⟨(blk_cell BK439.out 0).trans rfl, (blk_cell BK439.out 1).trans rfl, ((HB.out.cell (World.block_lt_of_cell? w _ hw443_0)).trans hw443_0), ((HB.out.cell (World.block_lt_of_cell? w _ hw445_0)).trans hw445_0), ((HB.out.cell (World.block_lt_of_cell? w _ hw446_0)).trans hw446_0), ((HB.out.cell (World.block_lt_of_cell? w _ hw447_0)).trans hw447_0)⟩ (fun hHeld => ?_)
                    clear hK K
                    refine norm_ (a' := ?_) ?_ ?_
                    rotate_left;(·show Act.put _ (some 59) _ = _;simp only [Act.put, sa, sz, ss, i64_w, i32_w];rfl)
                    refine pu HT_ (i := 7) (N := some 61) (v := ?_) (a' := ?_) bm8 rfl rfl (by kernel_rfl) (fun _ _ _ h => h) (by rfl) ?_ ?_ ?_
                    rotate_left;(·intro w';go_simp;with_reducible rfl);rotate_left;(·simp only [Act.put, sa, sz, ss, i64_w, i32_w];rfl)
                    refine pu HT_ (i := 8) (N := some 62) (v := ?_) (a' := ?_) bm9 rfl rfl (by kernel_rfl) (fun _ _ _ h => h) (by rfl) ?_ ?_ ?_
                    rotate_left;(·intro w';go_simp;with_reducible rfl);rotate_left;(·simp only [Act.put, sa, sz, ss, i64_w, i32_w];rfl)
                    refine pu HT_ (i := 9) (N := some 63) (v := ?_) (a' := ?_) bm10 rfl rfl (by kernel_rfl) (fun _ _ _ h => h) (by rfl) ?_ ?_ ?_
                    rotate_left;(·intro w';go_simp;with_reducible rfl);rotate_left;(·simp only [Act.put, sa, sz, ss, i64_w, i32_w];rfl)
                    refine pu HT_ (i := 11) (N := some 65) (v := ?_) (a' := ?_) bm11 rfl rfl (by kernel_rfl) (fun _ _ _ h => h) (by rfl) ?_ ?_ ?_
                    rotate_left;(·intro w';go_simp;with_reducible rfl);rotate_left;(·simp only [Act.put, sa, sz, ss, i64_w, i32_w];rfl)
                    refine take_ (i := 10) (N := some 64) (v := ?_) (a' := ?_) bm12 rfl rfl (take_ofW HT_.out HW_.out (by kernel_rfl)) (fun _ _ _ h => h) (Or.inl ⟨by rfl, ?_⟩) hHeld ?_ ?_
                    rotate_left;(·rintro w' ⟨s0, s1, s2, s3, s4, s5⟩;go_simp;with_reducible rfl);rotate_left;(·simp only [Act.put, sa, sz, ss, i64_w, i32_w];rfl)
                    refine pu HT_ (i := 12) (N := some 66) (v := ?_) (a' := ?_) bm13 rfl rfl (by kernel_rfl) (fun _ _ _ h => h) (by rfl) ?_ ?_ ?_
                    rotate_left;(·intro w';go_simp;with_reducible rfl);rotate_left;(·simp only [Act.put, sa, sz, ss, i64_w, i32_w];rfl)
                    refine take_ (i := 13) (N := some 67) (v := ?_) (a' := ?_) bm14 rfl rfl (take_ofW HT_.out HW_.out (by kernel_rfl)) (fun _ _ _ h => h) (Or.inl ⟨by rfl, ?_⟩) hHeld ?_ ?_
                    rotate_left;(·rintro w' ⟨s0, s1, s2, s3, s4, s5⟩;go_simp;with_reducible rfl);rotate_left;(·simp only [Act.put, sa, sz, ss, i64_w, i32_w];rfl)
                    refine pu HT_ (i := 14) (N := some 68) (v := ?_) (a' := ?_) bm15 rfl rfl (by kernel_rfl) (fun _ _ _ h => h) (by rfl) ?_ ?_ ?_
                    rotate_left;(·intro w';go_simp;with_reducible rfl);rotate_left;(·simp only [Act.put, sa, sz, ss, i64_w, i32_w];rfl)
                    refine pu HT_ (i := 15) (N := some 69) (v := ?_) (a' := ?_) bm16 rfl rfl (by kernel_rfl) (fun _ _ _ h => h) (by rfl) ?_ ?_ ?_
                    rotate_left;(·intro w';go_simp;with_reducible rfl);rotate_left;(·simp only [Act.put, sa, sz, ss, i64_w, i32_w];rfl)
                    refine pu HT_ (i := 16) (N := some 70) (v := ?_) (a' := ?_) bm17 rfl rfl (by kernel_rfl) (fun _ _ _ h => h) (by rfl) ?_ ?_ ?_
                    rotate_left;(·intro w';go_simp;with_reducible rfl);rotate_left;(·simp only [Act.put, sa, sz, ss, i64_w, i32_w];rfl)
                    refine pu HT_ (i := 17) (N := some 71) (v := ?_) (a' := ?_) bm18 rfl rfl (by kernel_rfl) (fun _ _ _ h => h) (by rfl) ?_ ?_ ?_
                    rotate_left;(·intro w';go_simp;with_reducible rfl);rotate_left;(·simp only [Act.put, sa, sz, ss, i64_w, i32_w];rfl)
                    refine pu HT_ (i := 18) (N := some 72) (v := ?_) (a' := ?_) bm19 rfl rfl (by kernel_rfl) (fun _ _ _ h => h) (by rfl) ?_ ?_ ?_
                    rotate_left;(·intro w';go_simp;with_reducible rfl);rotate_left;(·simp only [Act.put, sa, sz, ss, i64_w, i32_w];rfl)
                    refine pu HT_ (i := 20) (N := some 74) (v := ?_) (a' := ?_) bm61 rfl rfl (by kernel_rfl) (fun _ _ _ h => h) (by rfl) ?_ ?_ ?_
                    rotate_left;(·intro w';go_simp;with_reducible rfl);rotate_left;(·simp only [Act.put, sa, sz, ss, i64_w, i32_w];rfl)
                    refine pu HT_ (i := 24) (N := some 78) (v := ?_) (a' := ?_) bm62 rfl rfl (by kernel_rfl) (fun _ _ _ h => h) (by rfl) ?_ ?_ ?_
                    rotate_left;(·intro w';go_simp;with_reducible rfl);rotate_left;(·simp only [Act.put, sa, sz, ss, i64_w, i32_w];rfl)
                    refine take_ (i := 19) (N := some 73) (v := ?_) (a' := ?_) bm63 rfl rfl (take_ofW HT_.out HW_.out (by kernel_rfl)) (fun _ _ _ h => h) (Or.inl ⟨by rfl, ?_⟩) hHeld ?_ ?_
                    rotate_left;(·rintro w' ⟨s0, s1, s2, s3, s4, s5⟩;go_simp;with_reducible rfl);rotate_left;(·simp only [Act.put, sa, sz, ss, i64_w, i32_w];rfl)
                    refine pu HT_ (i := 21) (N := some 75) (v := ?_) (a' := ?_) bm64 rfl rfl (by kernel_rfl) (fun _ _ _ h => h) (by rfl) ?_ ?_ ?_
                    rotate_left;(·intro w';go_simp;with_reducible rfl);rotate_left;(·simp only [Act.put, sa, sz, ss, i64_w, i32_w];rfl)
                    refine take_ (i := 22) (N := some 76) (v := ?_) (a' := ?_) bm65 rfl rfl (take_ofW HT_.out HW_.out (by kernel_rfl)) (fun _ _ _ h => h) (Or.inl ⟨by rfl, ?_⟩) hHeld ?_ ?_
                    rotate_left;(·rintro w' ⟨s0, s1, s2, s3, s4, s5⟩;go_simp;with_reducible rfl);rotate_left;(·simp only [Act.put, sa, sz, ss, i64_w, i32_w];rfl)
                    refine pu HT_ (i := 23) (N := some 77) (v := ?_) (a' := ?_) bm25 rfl rfl (by kernel_rfl) (fun _ _ _ h => h) (by rfl) ?_ ?_ ?_
                    rotate_left;(·intro w';go_simp;with_reducible rfl);rotate_left;(·simp only [Act.put, sa, sz, ss, i64_w, i32_w];rfl)
                    refine take_ (i := 25) (N := some 79) (v := ?_) (a' := ?_) bm26 rfl rfl (take_ofW HT_.out HW_.out (by kernel_rfl)) (fun _ _ _ h => h) (Or.inl ⟨by rfl, ?_⟩) hHeld ?_ ?_
                    rotate_left;(·rintro w' ⟨s0, s1, s2, s3, s4, s5⟩;go_simp;with_reducible rfl);rotate_left;(·simp only [Act.put, sa, sz, ss, i64_w, i32_w];rfl)
                    refine pu HT_ (i := 26) (N := some 80) (v := ?_) (a' := ?_) bm27 rfl rfl (by kernel_rfl) (fun _ _ _ h => h) (by rfl) ?_ ?_ ?_
                    rotate_left;(·intro w';go_simp;with_reducible rfl);rotate_left;(·simp only [Act.put, sa, sz, ss, i64_w, i32_w];rfl)
                    refine take_ (i := 27) (N := some 81) (v := ?_) (a' := ?_) bm28 rfl rfl (take_ofW HT_.out HW_.out (by kernel_rfl)) (fun _ _ _ h => h) (Or.inl ⟨by rfl, ?_⟩) hHeld ?_ ?_
                    rotate_left;(·rintro w' ⟨s0, s1, s2, s3, s4, s5⟩;go_simp;with_reducible rfl);rotate_left;(·simp only [Act.put, sa, sz, ss, i64_w, i32_w];rfl)
                    refine pu HT_ (i := 28) (N := some 82) (v := ?_) (a' := ?_) bm29 rfl rfl (by kernel_rfl) (fun _ _ _ h => h) (by rfl) ?_ ?_ ?_
                    rotate_left;(·intro w';go_simp;with_reducible rfl);rotate_left;(·simp only [Act.put, sa, sz, ss, i64_w, i32_w];rfl)
                    refine pu HT_ (i := 29) (N := some 83) (v := ?_) (a' := ?_) bm30 rfl rfl (by kernel_rfl) (fun _ _ _ h => h) (by rfl) ?_ ?_ ?_
                    rotate_left;(·intro w';go_simp;with_reducible rfl);rotate_left;(·simp only [Act.put, sa, sz, ss, i64_w, i32_w];rfl)
                    refine pu HT_ (i := 30) (N := some 84) (v := ?_) (a' := ?_) bm31 rfl rfl (by kernel_rfl) (fun _ _ _ h => h) (by rfl) ?_ ?_ ?_
                    rotate_left;(·intro w';go_simp;with_reducible rfl);rotate_left;(·simp only [Act.put, sa, sz, ss, i64_w, i32_w];rfl)
                    refine pu HT_ (i := 31) (N := some 85) (v := ?_) (a' := ?_) bm32 rfl rfl (by kernel_rfl) (fun _ _ _ h => h) (by rfl) ?_ ?_ ?_
                    rotate_left;(·intro w';go_simp;with_reducible rfl);rotate_left;(·simp only [Act.put, sa, sz, ss, i64_w, i32_w];rfl)
                    refine pn HT_ (i := 32) (N := some 86) (a' := ?_) bm33 rfl rfl (by kernel_rfl) (fun _ _ _ h => h) (by rfl) ?_ ?_
                    rotate_left;(·simp only [Act.put, sa, sz, ss, i64_w, i32_w];rfl)
                    refine pn HT_ (i := 33) (N := some 87) (a' := ?_) bm34 rfl rfl (by kernel_rfl) (fun _ _ _ h => h) (by rfl) ?_ ?_
                    rotate_left;(·simp only [Act.put, sa, sz, ss, i64_w, i32_w];rfl)
                    refine pn HT_ (i := 34) (N := some 88) (a' := ?_) bm35 rfl rfl (by kernel_rfl) (fun _ _ _ h => h) (by rfl) ?_ ?_
                    rotate_left;(·simp only [Act.put, sa, sz, ss, i64_w, i32_w];rfl)
                    refine pn HT_ (i := 35) (N := some 89) (a' := ?_) bm36 rfl rfl (by kernel_rfl) (fun _ _ _ h => h) (by rfl) ?_ ?_
                    rotate_left;(·simp only [Act.put, sa, sz, ss, i64_w, i32_w];rfl)
                    refine pn HT_ (i := 36) (N := some 90) (a' := ?_) bm37 rfl rfl (by kernel_rfl) (fun _ _ _ h => h) (by rfl) ?_ ?_
                    rotate_left;(·simp only [Act.put, sa, sz, ss, i64_w, i32_w];rfl)
                    refine pn HT_ (i := 37) (N := some 91) (a' := ?_) bm38 rfl rfl (by kernel_rfl) (fun _ _ _ h => h) (by rfl) ?_ ?_
                    rotate_left;(·simp only [Act.put, sa, sz, ss, i64_w, i32_w];rfl)
                    refine pn HT_ (i := 38) (N := some 92) (a' := ?_) bm39 rfl rfl (by kernel_rfl) (fun _ _ _ h => h) (by rfl) ?_ ?_
                    rotate_left;(·simp only [Act.put, sa, sz, ss, i64_w, i32_w];rfl)
                    refine pn HT_ (i := 39) (N := some 93) (a' := ?_) bm40 rfl rfl (by kernel_rfl) (fun _ _ _ h => h) (by rfl) ?_ ?_
                    rotate_left;(·simp only [Act.put, sa, sz, ss, i64_w, i32_w];rfl)
                    refine pn HT_ (i := 40) (N := some 94) (a' := ?_) bm41 rfl rfl (by kernel_rfl) (fun _ _ _ h => h) (by rfl) ?_ ?_
                    rotate_left;(·simp only [Act.put, sa, sz, ss, i64_w, i32_w];rfl)
                    refine pn HT_ (i := 41) (N := some 95) (a' := ?_) bm42 rfl rfl (by kernel_rfl) (fun _ _ _ h => h) (by rfl) ?_ ?_
                    rotate_left;(·simp only [Act.put, sa, sz, ss, i64_w, i32_w];rfl)
                    refine pn HT_ (i := 42) (N := some 96) (a' := ?_) bm43 rfl rfl (by kernel_rfl) (fun _ _ _ h => h) (by rfl) ?_ ?_
                    rotate_left;(·simp only [Act.put, sa, sz, ss, i64_w, i32_w];rfl)
                    refine pn HT_ (i := 43) (N := some 97) (a' := ?_) bm44 rfl rfl (by kernel_rfl) (fun _ _ _ h => h) (by rfl) ?_ ?_
                    rotate_left;(·simp only [Act.put, sa, sz, ss, i64_w, i32_w];rfl)
                    refine pn HT_ (i := 44) (N := some 98) (a' := ?_) bm45 rfl rfl (by kernel_rfl) (fun _ _ _ h => h) (by rfl) ?_ ?_
                    rotate_left;(·simp only [Act.put, sa, sz, ss, i64_w, i32_w];rfl)
                    refine pn HT_ (i := 45) (N := some 99) (a' := ?_) bm46 rfl rfl (by kernel_rfl) (fun _ _ _ h => h) (by rfl) ?_ ?_
                    rotate_left;(·simp only [Act.put, sa, sz, ss, i64_w, i32_w];rfl)
                    refine pn HT_ (i := 46) (N := some 100) (a' := ?_) bm47 rfl rfl (by kernel_rfl) (fun _ _ _ h => h) (by rfl) ?_ ?_
                    rotate_left;(·simp only [Act.put, sa, sz, ss, i64_w, i32_w];rfl)
                    refine pn HT_ (i := 47) (N := some 101) (a' := ?_) bm48 rfl rfl (by kernel_rfl) (fun _ _ _ h => h) (by rfl) ?_ ?_
                    rotate_left;(·simp only [Act.put, sa, sz, ss, i64_w, i32_w];rfl)
                    refine pn HT_ (i := 48) (N := some 102) (a' := ?_) bm49 rfl rfl (by kernel_rfl) (fun _ _ _ h => h) (by rfl) ?_ ?_
                    rotate_left;(·simp only [Act.put, sa, sz, ss, i64_w, i32_w];rfl)
                    refine pn HT_ (i := 49) (N := some 103) (a' := ?_) bm50 rfl rfl (by kernel_rfl) (fun _ _ _ h => h) (by rfl) ?_ ?_
                    rotate_left;(·simp only [Act.put, sa, sz, ss, i64_w, i32_w];rfl)
                    refine pn HT_ (i := 50) (N := some 104) (a' := ?_) bm51 rfl rfl (by kernel_rfl) (fun _ _ _ h => h) (by rfl) ?_ ?_
                    rotate_left;(·simp only [Act.put, sa, sz, ss, i64_w, i32_w];rfl)
                    refine pn HT_ (i := 51) (N := some 105) (a' := ?_) bm52 rfl rfl (by kernel_rfl) (fun _ _ _ h => h) (by rfl) ?_ ?_
                    rotate_left;(·simp only [Act.put, sa, sz, ss, i64_w, i32_w];rfl)
                    refine pn HT_ (i := 52) (N := some 106) (a' := ?_) bm53 rfl rfl (by kernel_rfl) (fun _ _ _ h => h) (by rfl) ?_ ?_
                    rotate_left;(·simp only [Act.put, sa, sz, ss, i64_w, i32_w];rfl)
                    refine pn HT_ (i := 53) (N := some 107) (a' := ?_) bm54 rfl rfl (by kernel_rfl) (fun _ _ _ h => h) (by rfl) ?_ ?_
                    rotate_left;(·simp only [Act.put, sa, sz, ss, i64_w, i32_w];rfl)
                    refine pn HT_ (i := 54) (N := some 108) (a' := ?_) bm55 rfl rfl (by kernel_rfl) (fun _ _ _ h => h) (by rfl) ?_ ?_
                    rotate_left;(·simp only [Act.put, sa, sz, ss, i64_w, i32_w];rfl)
                    refine pn HT_ (i := 55) (N := some 109) (a' := ?_) bm56 rfl rfl (by kernel_rfl) (fun _ _ _ h => h) (by rfl) ?_ ?_
                    rotate_left;(·simp only [Act.put, sa, sz, ss, i64_w, i32_w];rfl)
                    refine pn HT_ (i := 56) (N := some 110) (a' := ?_) bm57 rfl rfl (by kernel_rfl) (fun _ _ _ h => h) (by rfl) ?_ ?_
                    rotate_left;(·simp only [Act.put, sa, sz, ss, i64_w, i32_w];rfl)
                    refine pn HT_ (i := 57) (N := some 111) (a' := ?_) bm58 rfl rfl (by kernel_rfl) (fun _ _ _ h => h) (by rfl) ?_ ?_
                    rotate_left;(·simp only [Act.put, sa, sz, ss, i64_w, i32_w];rfl)
                    refine pn HT_ (i := 58) (N := some 112) (a' := ?_) bm59 rfl rfl (by kernel_rfl) (fun _ _ _ h => h) (by rfl) ?_ ?_
                    rotate_left;(·simp only [Act.put, sa, sz, ss, i64_w, i32_w];rfl)
                    refine pu HT_ (i := 59) (N := some 113) (v := ?_) (a' := ?_) bm60 rfl rfl (by kernel_rfl) (fun _ _ _ h => h) (by rfl) ?_ ?_ ?_
                    rotate_left;(·intro w';go_simp;with_reducible rfl);rotate_left;(·simp only [Act.put, sa, sz, ss, i64_w, i32_w];rfl)
                    refine done_ (done_of HT_.out (by kernel_rfl)) ?_
                    try go_wp2
                    go_meet
                    case rel => exact ⟨_, (true), (by first | rfl | (simp; done) | (simp [*]; done) | (simp [i64_w]; done) | (simp [*, i64_w]; done)), H', ⟨by have := HJ3.out; have := HJ12.out; have := HK3.out; first | omega | exact Nat.le_refl _⟩, ⟨by exact BK439.out⟩, ⟨by repeat (first | exact HB.out | apply pw_below_drewN | refine sb ?_ GE439)⟩⟩
                 ·rw [if_neg c26] at H
                  exact absurd H (by simp)
               ·rw [if_neg c23] at H
                have c23b0 : (t444 == t442) = false := beq_eq_false_iff_ne.mpr c23
                have c23b1 : (t444 != t442) = true := bne_iff_ne.mpr c23
                as_aux_lemma =>
                 have H' := Aside0.mk H
                 clear H
                 try go_wp2
                 replace BK439 := Aside0.mk (blk_drew BK439.out)
                 replace HB := Aside0.mk (below_drew1 HB.out)
                 have p443 : 0 ≤ (x51_3 : Int) := of_decide_eq_true (by first | (with_reducible assumption) | assumption)
                 have q443 : x51_3 < (l0_0.length : Int) := of_decide_eq_true (by first | (with_reducible assumption) | assumption)
                 obtain ⟨ad443, A443_0, c443_0, e443, hx443_0, hl443_0, hi443_0⟩ := at_L1 HR0_0.out x51_3 p443 q443
                 have hw443_0 := hx443_0
                 obtain rfl : ad441 = ad443 := (by injection e443)
                 replace hx443_0 := (HB.out.cell (World.block_lt_of_cell? w _ hx443_0)).trans hx443_0
                 have HR443_0 := Aside0.mk hi443_0
                 have HC443_0 := Aside0.mk hl443_0
                 clear hi443_0 hl443_0
                 replace p443 := eq_true p443
                 replace q443 := eq_true q443
                 refine start_ (n := 60) (S := fun w' => w'.cell? ⟨gb439, 0, none⟩ = some (.slice (some ad441) l0_0.length c0_0) ∧ w'.cell? ⟨gb439, 1, none⟩ = some (.slice A0_1 l0_1.length c0_1) ∧ w'.cell? (ad441.add (x51_3).toNat) = some (.slice A443_0 (rd_L1 l0_0 x51_3).length c443_0)) (ds := []) bm0 (by kernel_rfl) rfl rfl ⟨(blk_cell BK439.out 0).trans rfl, (blk_cell BK439.out 1).trans rfl, ((HB.out.cell (World.block_lt_of_cell? w _ hw443_0)).trans hw443_0)⟩ (fun hHeld => ?_); refine with_tabW hcp.tab12 hcp.bits12 (fun HT_ HW_ => ?_)
                 generalize wr.drew = w36 at BK439 HB HR443_0 hx443_0 hHeld ⊢
                 refine pu HT_ (i := 0) (N := some 54) (v := ?_) (a' := ?_) bm1 rfl rfl (by kernel_rfl) (fun _ _ _ h => h) (by rfl) ?_ ?_ ?_
                 rotate_left;(·intro w';go_simp;with_reducible rfl);rotate_left;(·simp only [Act.put, sa, sz, ss, i64_w, i32_w];rfl)
                 refine pu HT_ (i := 2) (N := some 56) (v := ?_) (a' := ?_) bm2 rfl rfl (by kernel_rfl) (fun _ _ _ h => h) (by rfl) ?_ ?_ ?_
                 rotate_left;(·intro w';go_simp;with_reducible rfl);rotate_left;(·simp only [Act.put, sa, sz, ss, i64_w, i32_w];rfl)
                 refine pu HT_ (i := 6) (N := some 60) (v := ?_) (a' := ?_) bm3 rfl rfl (by kernel_rfl) (fun _ _ _ h => h) (by rfl) ?_ ?_ ?_
                 rotate_left;(·intro w';go_simp;with_reducible rfl);rotate_left;(·simp only [Act.put, sa, sz, ss, i64_w, i32_w];rfl)
                 refine take_ (i := 1) (N := some 55) (v := ?_) (a' := ?_) bm4 rfl rfl (take_ofW HT_.out HW_.out (by kernel_rfl)) (fun _ _ _ h => h) (Or.inl ⟨by rfl, ?_⟩) hHeld ?_ ?_
                 rotate_left;(·rintro w' ⟨s0, s1, s2⟩;go_simp;with_reducible rfl);rotate_left;(·simp only [Act.put, sa, sz, ss, i64_w, i32_w];rfl)
                 refine pu HT_ (i := 3) (N := some 57) (v := ?_) (a' := ?_) bm5 rfl rfl (by kernel_rfl) (fun _ _ _ h => h) (by rfl) ?_ ?_ ?_
                 rotate_left;(·intro w';go_simp;with_reducible rfl);rotate_left;(·simp only [Act.put, sa, sz, ss, i64_w, i32_w];rfl)
                 refine take_ (i := 4) (N := some 58) (v := ?_) (a' := ?_) bm6 rfl rfl (take_ofW HT_.out HW_.out (by kernel_rfl)) (fun _ _ _ h => h) (Or.inl ⟨by rfl, ?_⟩) hHeld ?_ ?_
                 rotate_left;(·rintro w' ⟨s0, s1, s2⟩;go_simp;with_reducible rfl);rotate_left;(·simp only [Act.put, sa, sz, ss, i64_w, i32_w];rfl)
                 refine one_ (i := 5) (N := some 59) bm7 rfl rfl (one_of HT_.out (by kernel_rfl)) (by decide) (fun K hK => ?_)
                 refine goes_ Try.func15 (by kernel_rfl) rfl #[.slice A443_0 (rd_L1 l0_0 x51_3).length c443_0] (by rfl) rfl rfl (by (try simp only [List.map_toArray, List.map_cons, List.map_nil]); first | done | rfl | (simp only [List.length_drop, List.length_take]; rfl)) ?_
                 with_reducible refine (heraldref24_Sum.calls k3 _ _ (rd_L1 l0_0 x51_3) t444 _ ?side1 ?side2 A22.out).mono ?_
                 (case side1 => repeat (first | exact (Kd.C_below HR443_0.out HB.out) | (with_reducible refine Kd.C_alloc ?_ _) | (with_reducible refine Kd.C_drewN ?_ _) | (with_reducible refine Kd.C_drew ?_)))
                 (case side2 => exact HC443_0.out)
                 rintro e w' ⟨rfl, ⟨nd, rfl⟩⟩
                 refine ⟨_, rfl, ?_⟩
                 refine hK.out _ _ ⟨(blk_cell BK439.out 0).trans rfl, (blk_cell BK439.out 1).trans rfl, ((HB.out.cell (World.block_lt_of_cell? w _ hw443_0)).trans hw443_0)⟩ (fun hHeld => ?_)
                 clear hK K
                 refine norm_ (a' := ?_) ?_ ?_
                 rotate_left;(·show Act.put _ (some 59) _ = _;simp only [Act.put, sa, sz, ss, i64_w, i32_w];rfl)
                 refine pu HT_ (i := 7) (N := some 61) (v := ?_) (a' := ?_) bm8 rfl rfl (by kernel_rfl) (fun _ _ _ h => h) (by rfl) ?_ ?_ ?_
                 rotate_left;(·intro w';go_simp;with_reducible rfl);rotate_left;(·simp only [Act.put, sa, sz, ss, i64_w, i32_w];rfl)
                 refine pu HT_ (i := 8) (N := some 62) (v := ?_) (a' := ?_) bm9 rfl rfl (by kernel_rfl) (fun _ _ _ h => h) (by rfl) ?_ ?_ ?_
                 rotate_left;(·intro w';go_simp;with_reducible rfl);rotate_left;(·simp only [Act.put, sa, sz, ss, i64_w, i32_w];rfl)
                 refine pn HT_ (i := 9) (N := some 63) (a' := ?_) bm10 rfl rfl (by kernel_rfl) (fun _ _ _ h => h) (by rfl) ?_ ?_
                 rotate_left;(·simp only [Act.put, sa, sz, ss, i64_w, i32_w];rfl)
                 refine pn HT_ (i := 10) (N := some 64) (a' := ?_) bm76 rfl rfl (by kernel_rfl) (fun _ _ _ h => h) (by rfl) ?_ ?_
                 rotate_left;(·simp only [Act.put, sa, sz, ss, i64_w, i32_w];rfl)
                 refine pn HT_ (i := 11) (N := some 65) (a' := ?_) bm12 rfl rfl (by kernel_rfl) (fun _ _ _ h => h) (by rfl) ?_ ?_
                 rotate_left;(·simp only [Act.put, sa, sz, ss, i64_w, i32_w];rfl)
                 refine pn HT_ (i := 12) (N := some 66) (a' := ?_) bm13 rfl rfl (by kernel_rfl) (fun _ _ _ h => h) (by rfl) ?_ ?_
                 rotate_left;(·simp only [Act.put, sa, sz, ss, i64_w, i32_w];rfl)
                 refine pn HT_ (i := 13) (N := some 67) (a' := ?_) bm14 rfl rfl (by kernel_rfl) (fun _ _ _ h => h) (by rfl) ?_ ?_
                 rotate_left;(·simp only [Act.put, sa, sz, ss, i64_w, i32_w];rfl)
                 refine pn HT_ (i := 14) (N := some 68) (a' := ?_) bm15 rfl rfl (by kernel_rfl) (fun _ _ _ h => h) (by rfl) ?_ ?_
                 rotate_left;(·simp only [Act.put, sa, sz, ss, i64_w, i32_w];rfl)
                 refine pn HT_ (i := 15) (N := some 69) (a' := ?_) bm16 rfl rfl (by kernel_rfl) (fun _ _ _ h => h) (by rfl) ?_ ?_
                 rotate_left;(·simp only [Act.put, sa, sz, ss, i64_w, i32_w];rfl)
                 refine pu HT_ (i := 16) (N := some 70) (v := ?_) (a' := ?_) bm17 rfl rfl (by kernel_rfl) (fun _ _ _ h => h) (by rfl) ?_ ?_ ?_
                 rotate_left;(·intro w';go_simp;with_reducible rfl);rotate_left;(·simp only [Act.put, sa, sz, ss, i64_w, i32_w];rfl)
                 refine pu HT_ (i := 17) (N := some 71) (v := ?_) (a' := ?_) bm18 rfl rfl (by kernel_rfl) (fun _ _ _ h => h) (by rfl) ?_ ?_ ?_
                 rotate_left;(·intro w';go_simp;with_reducible rfl);rotate_left;(·simp only [Act.put, sa, sz, ss, i64_w, i32_w];rfl)
                 refine pn HT_ (i := 18) (N := some 72) (a' := ?_) bm19 rfl rfl (by kernel_rfl) (fun _ _ _ h => h) (by rfl) ?_ ?_
                 rotate_left;(·simp only [Act.put, sa, sz, ss, i64_w, i32_w];rfl)
                 refine pn HT_ (i := 19) (N := some 73) (a' := ?_) bm20 rfl rfl (by kernel_rfl) (fun _ _ _ h => h) (by rfl) ?_ ?_
                 rotate_left;(·simp only [Act.put, sa, sz, ss, i64_w, i32_w];rfl)
                 refine pn HT_ (i := 20) (N := some 74) (a' := ?_) bm21 rfl rfl (by kernel_rfl) (fun _ _ _ h => h) (by rfl) ?_ ?_
                 rotate_left;(·simp only [Act.put, sa, sz, ss, i64_w, i32_w];rfl)
                 refine pn HT_ (i := 21) (N := some 75) (a' := ?_) bm22 rfl rfl (by kernel_rfl) (fun _ _ _ h => h) (by rfl) ?_ ?_
                 rotate_left;(·simp only [Act.put, sa, sz, ss, i64_w, i32_w];rfl)
                 refine pn HT_ (i := 22) (N := some 76) (a' := ?_) bm23 rfl rfl (by kernel_rfl) (fun _ _ _ h => h) (by rfl) ?_ ?_
                 rotate_left;(·simp only [Act.put, sa, sz, ss, i64_w, i32_w];rfl)
                 refine pn HT_ (i := 23) (N := some 77) (a' := ?_) bm24 rfl rfl (by kernel_rfl) (fun _ _ _ h => h) (by rfl) ?_ ?_
                 rotate_left;(·simp only [Act.put, sa, sz, ss, i64_w, i32_w];rfl)
                 refine pn HT_ (i := 24) (N := some 78) (a' := ?_) bm25 rfl rfl (by kernel_rfl) (fun _ _ _ h => h) (by rfl) ?_ ?_
                 rotate_left;(·simp only [Act.put, sa, sz, ss, i64_w, i32_w];rfl)
                 refine pn HT_ (i := 25) (N := some 79) (a' := ?_) bm26 rfl rfl (by kernel_rfl) (fun _ _ _ h => h) (by rfl) ?_ ?_
                 rotate_left;(·simp only [Act.put, sa, sz, ss, i64_w, i32_w];rfl)
                 refine pn HT_ (i := 26) (N := some 80) (a' := ?_) bm27 rfl rfl (by kernel_rfl) (fun _ _ _ h => h) (by rfl) ?_ ?_
                 rotate_left;(·simp only [Act.put, sa, sz, ss, i64_w, i32_w];rfl)
                 refine pn HT_ (i := 27) (N := some 81) (a' := ?_) bm28 rfl rfl (by kernel_rfl) (fun _ _ _ h => h) (by rfl) ?_ ?_
                 rotate_left;(·simp only [Act.put, sa, sz, ss, i64_w, i32_w];rfl)
                 refine pn HT_ (i := 28) (N := some 82) (a' := ?_) bm29 rfl rfl (by kernel_rfl) (fun _ _ _ h => h) (by rfl) ?_ ?_
                 rotate_left;(·simp only [Act.put, sa, sz, ss, i64_w, i32_w];rfl)
                 refine pn HT_ (i := 29) (N := some 83) (a' := ?_) bm30 rfl rfl (by kernel_rfl) (fun _ _ _ h => h) (by rfl) ?_ ?_
                 rotate_left;(·simp only [Act.put, sa, sz, ss, i64_w, i32_w];rfl)
                 refine pu HT_ (i := 30) (N := some 84) (v := ?_) (a' := ?_) bm31 rfl rfl (by kernel_rfl) (fun _ _ _ h => h) (by rfl) ?_ ?_ ?_
                 rotate_left;(·intro w';go_simp;with_reducible rfl);rotate_left;(·simp only [Act.put, sa, sz, ss, i64_w, i32_w];rfl)
                 refine pu HT_ (i := 31) (N := some 85) (v := ?_) (a' := ?_) bm32 rfl rfl (by kernel_rfl) (fun _ _ _ h => h) (by rfl) ?_ ?_ ?_
                 rotate_left;(·intro w';go_simp;with_reducible rfl);rotate_left;(·simp only [Act.put, sa, sz, ss, i64_w, i32_w];rfl)
                 refine pn HT_ (i := 32) (N := some 86) (a' := ?_) bm33 rfl rfl (by kernel_rfl) (fun _ _ _ h => h) (by rfl) ?_ ?_
                 rotate_left;(·simp only [Act.put, sa, sz, ss, i64_w, i32_w];rfl)
                 refine pn HT_ (i := 33) (N := some 87) (a' := ?_) bm34 rfl rfl (by kernel_rfl) (fun _ _ _ h => h) (by rfl) ?_ ?_
                 rotate_left;(·simp only [Act.put, sa, sz, ss, i64_w, i32_w];rfl)
                 refine pn HT_ (i := 34) (N := some 88) (a' := ?_) bm35 rfl rfl (by kernel_rfl) (fun _ _ _ h => h) (by rfl) ?_ ?_
                 rotate_left;(·simp only [Act.put, sa, sz, ss, i64_w, i32_w];rfl)
                 refine pn HT_ (i := 35) (N := some 89) (a' := ?_) bm36 rfl rfl (by kernel_rfl) (fun _ _ _ h => h) (by rfl) ?_ ?_
                 rotate_left;(·simp only [Act.put, sa, sz, ss, i64_w, i32_w];rfl)
                 refine pn HT_ (i := 36) (N := some 90) (a' := ?_) bm37 rfl rfl (by kernel_rfl) (fun _ _ _ h => h) (by rfl) ?_ ?_
                 rotate_left;(·simp only [Act.put, sa, sz, ss, i64_w, i32_w];rfl)
                 refine pn HT_ (i := 37) (N := some 91) (a' := ?_) bm38 rfl rfl (by kernel_rfl) (fun _ _ _ h => h) (by rfl) ?_ ?_
                 rotate_left;(·simp only [Act.put, sa, sz, ss, i64_w, i32_w];rfl)
                 refine pn HT_ (i := 38) (N := some 92) (a' := ?_) bm39 rfl rfl (by kernel_rfl) (fun _ _ _ h => h) (by rfl) ?_ ?_
                 rotate_left;(·simp only [Act.put, sa, sz, ss, i64_w, i32_w];rfl)
                 refine pn HT_ (i := 39) (N := some 93) (a' := ?_) bm40 rfl rfl (by kernel_rfl) (fun _ _ _ h => h) (by rfl) ?_ ?_
                 rotate_left;(·simp only [Act.put, sa, sz, ss, i64_w, i32_w];rfl)
                 refine pn HT_ (i := 40) (N := some 94) (a' := ?_) bm41 rfl rfl (by kernel_rfl) (fun _ _ _ h => h) (by rfl) ?_ ?_
                 rotate_left;(·simp only [Act.put, sa, sz, ss, i64_w, i32_w];rfl)
                 refine pn HT_ (i := 41) (N := some 95) (a' := ?_) bm42 rfl rfl (by kernel_rfl) (fun _ _ _ h => h) (by rfl) ?_ ?_
                 rotate_left;(·simp only [Act.put, sa, sz, ss, i64_w, i32_w];rfl)
                 refine pn HT_ (i := 42) (N := some 96) (a' := ?_) bm43 rfl rfl (by kernel_rfl) (fun _ _ _ h => h) (by rfl) ?_ ?_
                 rotate_left;(·simp only [Act.put, sa, sz, ss, i64_w, i32_w];rfl)
                 refine pn HT_ (i := 43) (N := some 97) (a' := ?_) bm44 rfl rfl (by kernel_rfl) (fun _ _ _ h => h) (by rfl) ?_ ?_
                 rotate_left;(·simp only [Act.put, sa, sz, ss, i64_w, i32_w];rfl)
                 refine pn HT_ (i := 44) (N := some 98) (a' := ?_) bm45 rfl rfl (by kernel_rfl) (fun _ _ _ h => h) (by rfl) ?_ ?_
                 rotate_left;(·simp only [Act.put, sa, sz, ss, i64_w, i32_w];rfl)
                 refine pn HT_ (i := 45) (N := some 99) (a' := ?_) bm46 rfl rfl (by kernel_rfl) (fun _ _ _ h => h) (by rfl) ?_ ?_
                 rotate_left;(·simp only [Act.put, sa, sz, ss, i64_w, i32_w];rfl)
                 refine pn HT_ (i := 46) (N := some 100) (a' := ?_) bm47 rfl rfl (by kernel_rfl) (fun _ _ _ h => h) (by rfl) ?_ ?_
                 rotate_left;(·simp only [Act.put, sa, sz, ss, i64_w, i32_w];rfl)
                 refine pn HT_ (i := 47) (N := some 101) (a' := ?_) bm48 rfl rfl (by kernel_rfl) (fun _ _ _ h => h) (by rfl) ?_ ?_
                 rotate_left;(·simp only [Act.put, sa, sz, ss, i64_w, i32_w];rfl)
                 refine pn HT_ (i := 48) (N := some 102) (a' := ?_) bm49 rfl rfl (by kernel_rfl) (fun _ _ _ h => h) (by rfl) ?_ ?_
                 rotate_left;(·simp only [Act.put, sa, sz, ss, i64_w, i32_w];rfl)
                 refine pn HT_ (i := 49) (N := some 103) (a' := ?_) bm50 rfl rfl (by kernel_rfl) (fun _ _ _ h => h) (by rfl) ?_ ?_
                 rotate_left;(·simp only [Act.put, sa, sz, ss, i64_w, i32_w];rfl)
                 refine pn HT_ (i := 50) (N := some 104) (a' := ?_) bm51 rfl rfl (by kernel_rfl) (fun _ _ _ h => h) (by rfl) ?_ ?_
                 rotate_left;(·simp only [Act.put, sa, sz, ss, i64_w, i32_w];rfl)
                 refine pn HT_ (i := 51) (N := some 105) (a' := ?_) bm52 rfl rfl (by kernel_rfl) (fun _ _ _ h => h) (by rfl) ?_ ?_
                 rotate_left;(·simp only [Act.put, sa, sz, ss, i64_w, i32_w];rfl)
                 refine pn HT_ (i := 52) (N := some 106) (a' := ?_) bm53 rfl rfl (by kernel_rfl) (fun _ _ _ h => h) (by rfl) ?_ ?_
                 rotate_left;(·simp only [Act.put, sa, sz, ss, i64_w, i32_w];rfl)
                 refine pn HT_ (i := 53) (N := some 107) (a' := ?_) bm54 rfl rfl (by kernel_rfl) (fun _ _ _ h => h) (by rfl) ?_ ?_
                 rotate_left;(·simp only [Act.put, sa, sz, ss, i64_w, i32_w];rfl)
                 refine pn HT_ (i := 54) (N := some 108) (a' := ?_) bm55 rfl rfl (by kernel_rfl) (fun _ _ _ h => h) (by rfl) ?_ ?_
                 rotate_left;(·simp only [Act.put, sa, sz, ss, i64_w, i32_w];rfl)
                 refine pn HT_ (i := 55) (N := some 109) (a' := ?_) bm56 rfl rfl (by kernel_rfl) (fun _ _ _ h => h) (by rfl) ?_ ?_
                 rotate_left;(·simp only [Act.put, sa, sz, ss, i64_w, i32_w];rfl)
                 refine pn HT_ (i := 56) (N := some 110) (a' := ?_) bm57 rfl rfl (by kernel_rfl) (fun _ _ _ h => h) (by rfl) ?_ ?_
                 rotate_left;(·simp only [Act.put, sa, sz, ss, i64_w, i32_w];rfl)
                 refine pn HT_ (i := 57) (N := some 111) (a' := ?_) bm58 rfl rfl (by kernel_rfl) (fun _ _ _ h => h) (by rfl) ?_ ?_
                 rotate_left;(·simp only [Act.put, sa, sz, ss, i64_w, i32_w];rfl)
                 refine pn HT_ (i := 58) (N := some 112) (a' := ?_) bm59 rfl rfl (by kernel_rfl) (fun _ _ _ h => h) (by rfl) ?_ ?_
                 rotate_left;(·simp only [Act.put, sa, sz, ss, i64_w, i32_w];rfl)
                 refine pu HT_ (i := 59) (N := some 113) (v := ?_) (a' := ?_) bm60 rfl rfl (by kernel_rfl) (fun _ _ _ h => h) (by rfl) ?_ ?_ ?_
                 rotate_left;(·intro w';go_simp;with_reducible rfl);rotate_left;(·simp only [Act.put, sa, sz, ss, i64_w, i32_w];rfl)
                 refine done_ (done_of HT_.out (by kernel_rfl)) ?_
                 try go_wp2
                 go_meet
                 case rel => exact ⟨_, (true), (by first | rfl | (simp; done) | (simp [*]; done) | (simp [i64_w]; done) | (simp [*, i64_w]; done)), H', ⟨by have := HJ3.out; have := HJ12.out; have := HK3.out; first | omega | exact Nat.le_refl _⟩, ⟨by exact BK439.out⟩, ⟨by repeat (first | exact HB.out | apply pw_below_drewN | refine sb ?_ GE439)⟩⟩
              ·rw [if_neg c21] at H
               exact absurd H (by simp)
             ·rw [if_neg c20] at H
              exact absurd H (by simp)
            case rest =>
             clear HC19
             try clear c1
             try clear c2
             try clear p2
             try clear c4
             try clear p4
             try clear q4
             try clear hx4
             try clear c15
             try clear c20
             try clear c21
             try clear c23
             try clear c23b0
             try clear c23b1
             try clear c26
             try clear hx443_0
             try clear p443
             try clear q443
             obtain ⟨kq, x113_18, rfl, HA, HJ18, BK439, HB⟩ := hcut
             cases kq with
             | zero => exact absurd HA.out (by simp [hcp.j3])
             | succ kj18 =>
              have H := HA.out
              clear HA
              simp only [hcp.j3] at H
              by_cases c37 : x113_18 = true
              ·subst c37
               have H1 : (some true) = some r := by rw [if_pos rfl] at H; exact H
               clear H
               have H := H1
               clear H1
               as_aux_lemma =>
                obtain rfl := Option.some.inj H
                go_wp2
                go_ret
                exact ⟨by first | rfl | (simp [errW_none, errW_some] <;> rfl) | (simp [*, errW_none, errW_some] <;> rfl), by repeat (first | exact HB.out | apply pw_below_drewN | refine sb ?_ GE439)⟩
              ·replace c37 := Bool.eq_false_iff.mpr c37
               subst c37
               have H1 : (hcp.l0 kj18 (l0_1.length : Int) t442 (l0_0.length : Int) (wrap64 (x51_3 + 1)) l0_0 l0_1) = some r := by rw [if_neg (show ¬ (false = true) by decide)] at H; exact H
               clear H
               have H := H1
               clear H1
               as_aux_lemma =>
                have H' := Aside0.mk H
                clear H
                go_wp2
                go_roundg kj18
                case measure => have := HJ3.out; have := HJ12.out; have := HK3.out; have := HJ18.out; omega
                case rel => exact ⟨(wrap64 (x51_3 + 1)), (by first | rfl | (simp; done) | (simp [*]; done) | (simp [i64_w]; done) | (simp [*, i64_w]; done)), H', ⟨by have := HJ3.out; have := HJ12.out; have := HK3.out; have := HJ18.out; omega⟩, ⟨by exact BK439.out⟩, ⟨by repeat (first | exact HB.out | apply pw_below_drewN | refine sb ?_ GE439)⟩⟩
           ·rw [if_neg c18] at H
            have c18b0 : decide (x51_3 < (l0_0.length : Int)) = false := decide_eq_false c18
            clear c18
            have H' := Aside0.mk H
            clear H
            go_wp2
            go_loopg [6, 117] k3 (fun kq v6 v117 w' => ∃ (x6_4 : Int) (x117_4 : Int), v6 = .int .i64 x6_4 ∧ v117 = .int .i64 x117_4 ∧ Aside0 (hcp.l1 kq (l0_1.length : Int) t442 x6_4 (wrap64 ((l0_1.length : Int) + 1)) x117_4 l0_0 l0_1 = some r) ∧ Aside0 (kq ≤ k3) ∧ Aside0 (w'.heap[gb439]? = some (.cells #[(.slice (some ad441) l0_0.length c0_0), (.slice A0_1 l0_1.length c0_1)] 59 (0, 0))) ∧ Aside0 (Below w.heap.size w w'))
            case atStart => exact ⟨(1), (0), (by first | rfl | (simp; done) | (simp [*]; done) | (simp [i64_w]; done) | (simp [*, i64_w]; done)), (by first | rfl | (simp; done) | (simp [*]; done) | (simp [i64_w]; done) | (simp [*, i64_w]; done)), H', ⟨Nat.le_refl _⟩, ⟨by exact BK439.out⟩, ⟨by repeat (first | exact HB.out | apply pw_below_drewN | refine sb ?_ GE439)⟩⟩
            case round =>
             clear H'
             try clear c1
             try clear c2
             try clear p2
             try clear c3
             try clear c4
             try clear p4
             try clear q4
             try clear hx4
             try clear p6
             try clear c15
             try clear c18
             try clear c18b0
             try clear c20
             try clear c21
             try clear c23
             try clear c23b0
             try clear c23b1
             try clear c26
             try clear c37
             try clear hx443_0
             try clear p2
             try clear p4
             try clear p443
             try clear q4
             try clear q443
             obtain ⟨x6_4, x117_4, rfl, rfl, HA, HK4, BK439, HB⟩ := hrel
             cases gk with
             | zero => exact absurd HA.out (by simp [hcp.l1])
             | succ k4 =>
              have H := HA.out
              clear HA
              simp only [hcp.l1] at H
              by_cases c38 : x117_4 < (wrap64 ((l0_1.length : Int) + 1))
              ·rw [if_pos c38] at H
               have c38b0 : decide (x117_4 < (wrap64 ((l0_1.length : Int) + 1))) = true := decide_eq_true c38
               clear c38
               as_aux_lemma =>
                have H' := Aside0.mk H
                clear H
                go_wp2
                go_roundg k4
                case measure => have := HJ3.out; have := HJ12.out; have := HK3.out; have := HK4.out; omega
                case rel => exact ⟨(wrap64 (x6_4 * t442)), (wrap64 (x117_4 + 1)), (by first | rfl | (simp; done) | (simp [*]; done) | (simp [i64_w]; done) | (simp [*, i64_w]; done)), (by first | rfl | (simp; done) | (simp [*]; done) | (simp [i64_w]; done) | (simp [*, i64_w]; done)), H', ⟨by have := HJ3.out; have := HJ12.out; have := HK3.out; have := HK4.out; omega⟩, ⟨by exact BK439.out⟩, ⟨by repeat (first | exact HB.out | apply pw_below_drewN | refine sb ?_ GE439)⟩⟩
              ·rw [if_neg c38] at H
               have c38b0 : decide (x117_4 < (wrap64 ((l0_1.length : Int) + 1))) = false := decide_eq_false c38
               clear c38
               have H' := Aside0.mk H
               clear H
               go_wp2
               go_loopg [7, 8, 124] k4 (fun kq v7 v8 v124 w' => ∃ (x7_5 : List (List Int)) (x8_5 : List Int) (x124_5 : Int), v124 = .int .i64 x124_5 ∧ Aside0 (hcp.l2 kq (l0_1.length : Int) t442 x6_4 x7_5 x8_5 x6_4 x124_5 l0_0 l0_1 = some r) ∧ Aside0 (kq ≤ k4) ∧ Aside0 (Kd.S (Kd.slice 3 (Kd.int .i64)) 60 w' w.heap.size (fun _ => True) v7 x7_5) ∧ Aside0 (Kd.R (Kd.int .i64) 2 w' w.heap.size (fun _ => True) v8 x8_5) ∧ Aside0 (w'.heap[gb439]? = some (.cells #[(.slice (some ad441) l0_0.length c0_0), (.slice A0_1 l0_1.length c0_1)] 59 (0, 0))) ∧ Aside0 (Below w.heap.size w w'))
               case atStart => exact ⟨(([] : List (List Int))), (([] : List Int)), (0), (by first | rfl | (simp; done) | (simp [*]; done) | (simp [i64_w]; done) | (simp [*, i64_w]; done)), H', ⟨Nat.le_refl _⟩, ⟨by first | exact Kd.S_nil _ _ _ _ _ | exact Kd.N_nil _ _ _ _ _ | exact Kd.V_nil _ _ _ _ _ | exact Kd.Q_nil _ _ _ _ _ | exact Kd.R_nil _ _ _ _ _⟩, ⟨by first | exact Kd.R_nil _ _ _ _ _ | exact Kd.N_nil _ _ _ _ _ | exact Kd.V_nil _ _ _ _ _ | exact Kd.Q_nil _ _ _ _ _ | exact Kd.S_nil _ _ _ _ _⟩, ⟨by exact BK439.out⟩, ⟨by repeat (first | exact HB.out | apply pw_below_drewN | refine sb ?_ GE439)⟩⟩
               case round =>
                clear H'
                try clear c1
                try clear c2
                try clear p2
                try clear c3
                try clear c4
                try clear p4
                try clear q4
                try clear hx4
                try clear p6
                try clear c15
                try clear c18
                try clear c18b0
                try clear c20
                try clear c21
                try clear c23
                try clear c23b0
                try clear c23b1
                try clear c26
                try clear c37
                try clear c38
                try clear c38b0
                try clear hx443_0
                try clear p2
                try clear p4
                try clear p443
                try clear p6
                try clear q4
                try clear q443
                obtain ⟨x7_5, x8_5, x124_5, rfl, HA, HK5, HO_7, HO_8, BK439, HB⟩ := hrel
                cases gk with
                | zero => exact absurd HA.out (by simp [hcp.l2])
                | succ k5 =>
                 have H := HA.out
                 clear HA
                 simp only [hcp.l2] at H
                 by_cases c39 : x124_5 < x6_4
                 ·rw [if_pos c39] at H
                  have c39b0 : decide (x124_5 < x6_4) = true := decide_eq_true c39
                  clear c39
                  have H' := Aside0.mk H
                  clear H
                  go_wp2
                  go_loopg [10, 11, 12] k5 (fun kq v10 v11 v12 w' => ∃ (x10_6 : List Int) (x11_6 : Int) (x12_6 : Int), v11 = .int .i64 x11_6 ∧ v12 = .int .i64 x12_6 ∧ Aside0 (hcp.l3 kq (l0_1.length : Int) t442 x6_4 x7_5 x8_5 x10_6 x11_6 x12_6 x6_4 x124_5 l0_0 l0_1 = some r) ∧ Aside0 (kq ≤ k5) ∧ Aside0 (Kd.S (Kd.slice 3 (Kd.int .i64)) 60 w' w.heap.size (fun _ => True) u7 x7_5) ∧ Aside0 (Kd.R (Kd.int .i64) 2 w' w.heap.size (fun k_ => some k_ ≠ (v10 : Value).ownBlock) u8 x8_5) ∧ Aside0 (Kd.R (Kd.int .i64) 2 w' w.heap.size (fun k_ => some k_ ≠ (u8 : Value).ownBlock) v10 x10_6) ∧ Aside0 (w'.heap[gb439]? = some (.cells #[(.slice (some ad441) l0_0.length c0_0), (.slice A0_1 l0_1.length c0_1)] 59 (0, 0))) ∧ Aside0 (Below w.heap.size w w'))
                  case atStart => exact ⟨(([] : List Int)), (x124_5), (0), (by first | rfl | (simp; done) | (simp [*]; done) | (simp [i64_w]; done) | (simp [*, i64_w]; done)), (by first | rfl | (simp; done) | (simp [*]; done) | (simp [i64_w]; done) | (simp [*, i64_w]; done)), H', ⟨Nat.le_refl _⟩, ⟨by (with_reducible repeat (first | apply Kd.S_alloc | apply Kd.S_drewN | apply Kd.S_drew)); exact HO_7.out⟩, ⟨by (with_reducible repeat (first | apply Kd.R_alloc | apply Kd.R_drewN | apply Kd.R_drew)); exact Kd.R_mono HO_8.out (fun _ hk => (by simp [Value.ownBlock]))⟩, ⟨by first | exact Kd.R_nil _ _ _ _ _ | exact Kd.N_nil _ _ _ _ _ | exact Kd.V_nil _ _ _ _ _ | exact Kd.Q_nil _ _ _ _ _ | exact Kd.S_nil _ _ _ _ _⟩, ⟨by exact BK439.out⟩, ⟨by repeat (first | exact HB.out | apply pw_below_drewN | refine sb ?_ GE439)⟩⟩
                  case round =>
                   clear H'
                   try clear c1
                   try clear c2
                   try clear p2
                   try clear c3
                   try clear c4
                   try clear p4
                   try clear q4
                   try clear hx4
                   try clear p6
                   try clear c15
                   try clear c18
                   try clear c18b0
                   try clear c20
                   try clear c21
                   try clear c23
                   try clear c23b0
                   try clear c23b1
                   try clear c26
                   try clear c37
                   try clear c38
                   try clear c38b0
                   try clear c39
                   try clear c39b0
                   try clear hx443_0
                   try clear p2
                   try clear p4
                   try clear p443
                   try clear p6
                   try clear q4
                   try clear q443
                   obtain ⟨x10_6, x11_6, x12_6, rfl, rfl, HA, HK6, HO_7, HO_8, HO_10, BK439, HB⟩ := hrel
                   cases gk with
                   | zero => exact absurd HA.out (by simp [hcp.l3])
                   | succ k6 =>
                    have H := HA.out
                    clear HA
                    simp only [hcp.l3] at H
                    by_cases c40 : x12_6 ≤ (l0_1.length : Int)
                    ·rw [if_pos c40] at H
                     have c40b0 : decide (x12_6 ≤ (l0_1.length : Int)) = true := decide_eq_true c40
                     clear c40
                     by_cases c41 : t442 = 0
                     ·rw [if_pos c41] at H
                      exact absurd H (by simp)
                     ·rw [if_neg c41] at H
                      have c41b0 : (t442 == 0) = false := beq_eq_false_iff_ne.mpr c41
                      have c41b1 : (t442 != 0) = true := bne_iff_ne.mpr c41
                      by_cases c42 : x10_6.length < 17592186044416
                      ·rw [if_pos c42] at H
                       have LMc42 := Aside0.mk c42
                       clear c42
                       obtain ⟨y452, hy452⟩ : ∃ y_ : List Int, y_ = (x10_6 ++ [Int.tmod x11_6 t442]) := ⟨_, rfl⟩
                       replace H : (hcp.l3 k6 (l0_1.length : Int) t442 x6_4 x7_5 x8_5 y452 (wrap64 (Int.tdiv x11_6 t442)) (wrap64 (x12_6 + 1)) x6_4 x124_5 l0_0 l0_1) = some r := by first | (rw [hy452]; with_reducible exact H) | (have H2_ := (Option.bind_some _ _).symm.trans H; rw [hy452]; with_reducible exact H2_) | (have H2_ := (Option.bind_some _ _).symm.trans H; with_reducible exact H2_) | with_reducible exact H | (rw [hy452]; exact H) | exact H
                       have Ny452 := Aside0.mk hy452
                       clear hy452
                       as_aux_lemma =>
                        have H' := Aside0.mk H
                        clear H
                        go_wp2_with (first | ((with_reducible refine gate_builtin (b := .append) (xs := #[.tmp 133, .tmp 137]) rfl ?_); (try (refine gate_guard (by rfl) ?_; dsimp only)); at_builtin; refine Kd.R_append (Kd.int .i64) (w0 := w) w.heap.size rfl (.tmp 133) (.tmp 137) 22 2 (.int .i64 0) 8 rfl Try.underlying22 info2 rfl (by decide) (by omega) u10 x10_6 (Int.tmod x11_6 t442) [.int .i64 (Int.tmod x11_6 t442)] (fun k_ => some k_ ≠ (u8 : Value).ownBlock) (fun _ => False) rfl rfl ?aP (fun _ hk => hk.elim) ?aF ?aO ?aB ?aS ?aL ?_; (case aP => exact rfl); (case aB => exact (by repeat (first | exact HB.out | apply pw_below_drewN | refine sb ?_ GE439))); (case aF => exact (fun k_ hk => Kd.fresh' (Kd.R_lt (by (with_reducible repeat (first | apply Kd.R_alloc | apply Kd.R_drewN | apply Kd.R_drew)); exact HO_8.out)) k_ hk)); (case aO => exact (by (with_reducible repeat (first | apply Kd.R_alloc | apply Kd.R_drewN | apply Kd.R_drew)); exact HO_10.out)); (case aS => exact (below_size (by repeat (first | exact HB.out | apply pw_below_drewN | refine sb ?_ GE439)))); (case aL => have := LMc42.out; omega); intro v453 w43 ho hb hg hat; rw [← Ny452.out] at ho; have HO454 := Aside0.mk (ho); replace HO_7 := Aside0.mk (Kd.S_over' (by (with_reducible repeat (first | apply Kd.S_alloc | apply Kd.S_drewN | apply Kd.S_drew)); exact HO_7.out) (Kd.R_typed (by (with_reducible repeat (first | apply Kd.R_alloc | apply Kd.R_drewN | apply Kd.R_drew)); exact HO_10.out)) (by decide) hg); replace HO_8 := Aside0.mk (Kd.R_after (ok := (fun _ => True)) (by (with_reducible repeat (first | apply Kd.R_alloc | apply Kd.R_drewN | apply Kd.R_drew)); exact Kd.R_mono HO_8.out (fun _ hk => ⟨trivial, hk⟩)) hg hat); replace BK439 := Aside0.mk (blk_grown (g := gb439) (o := .cells #[.slice (some ad441) l0_0.length c0_0, .slice A0_1 l0_1.length c0_1] 59 (0, 0)) BK439.out hg (Kd.R_ne HO_10.out BK439.out (by decide))); replace HB := Aside0.mk (hb); clear HO_10; clear ho hb hg hat))
                        go_roundg k6
                        case measure => have := HJ3.out; have := HJ12.out; have := HK3.out; have := HK4.out; have := HK5.out; have := HK6.out; omega
                        case rel => exact ⟨(y452), (wrap64 (Int.tdiv x11_6 t442)), (wrap64 (x12_6 + 1)), (by first | rfl | (simp; done) | (simp [*]; done) | (simp [i64_w]; done) | (simp [*, i64_w]; done)), (by first | rfl | (simp; done) | (simp [*]; done) | (simp [i64_w]; done) | (simp [*, i64_w]; done)), H', ⟨by have := HJ3.out; have := HJ12.out; have := HK3.out; have := HK4.out; have := HK5.out; have := HK6.out; omega⟩, ⟨by (with_reducible repeat (first | apply Kd.S_alloc | apply Kd.S_drewN | apply Kd.S_drew)); exact HO_7.out⟩, ⟨by (with_reducible repeat (first | apply Kd.R_alloc | apply Kd.R_drewN | apply Kd.R_drew)); exact Kd.R_mono HO_8.out (fun _ hk => hk.2)⟩, ⟨by (with_reducible repeat (first | apply Kd.R_alloc | apply Kd.R_drewN | apply Kd.R_drew)); exact HO454.out⟩, ⟨by exact BK439.out⟩, ⟨by repeat (first | exact HB.out | apply pw_below_drewN | refine sb ?_ GE439)⟩⟩
                      ·rw [if_neg c42] at H
                       exact absurd H (by simp)
                    ·rw [if_neg c40] at H
                     have c40b0 : decide (x12_6 ≤ (l0_1.length : Int)) = false := decide_eq_false c40
                     clear c40
                     replace H := Option.bind_eq_some_iff.mp H
                     obtain ⟨⟨t455, t456, t457⟩, A440, H⟩ := H
                     replace H : (if t457 = 0 then (if (t455.length : Int) < 1 then (hcp.j7 k6 (l0_1.length : Int) t442 x6_4 x7_5 x8_5 t455 x6_4 x124_5 true l0_0 l0_1) else (if (t455.length : Int) > (wrap64 ((l0_1.length : Int) + 1)) then (hcp.j7 k6 (l0_1.length : Int) t442 x6_4 x7_5 x8_5 t455 x6_4 x124_5 true l0_0 l0_1) else (hcp.j7 k6 (l0_1.length : Int) t442 x6_4 x7_5 x8_5 t455 x6_4 x124_5 (t456 != (wrap64 ((t455.length : Int) - 1))) l0_0 l0_1))) else (hcp.j7 k6 (l0_1.length : Int) t442 x6_4 x7_5 x8_5 t455 x6_4 x124_5 true l0_0 l0_1)) = some r := H
                     have A44 := Aside0.mk A440
                     clear A440
                     have HC45 := Aside0.mk H
                     clear H
                     have hcz46_0 : wr.cell? ⟨gb439, 0, none⟩ = some (.slice (some ad441) l0_0.length c0_0) := (blk_cell BK439.out 0).trans rfl
                     have hcz46_1 : wr.cell? ⟨gb439, 1, none⟩ = some (.slice A0_1 l0_1.length c0_1) := (blk_cell BK439.out 1).trans rfl
                     have hfz46_0 := blk_frozen BK439.out 0
                     have hfz46_1 := blk_frozen BK439.out 1
                     obtain ⟨Ao47, co47, eo47⟩ := Kd.R_slice HO_10.out
                     subst eo47
                     go_upto_region 32 with (first | ((with_reducible refine gate_callee (f := 31) rfl ?_); refine goesL_ (some 148) rfl rfl Try.func31 (by kernel_rfl) rfl #[.slice (some ad441) l0_0.length c0_0, .slice A0_1 l0_1.length c0_1, .slice Ao47 x10_6.length co47] rfl (by (try simp only [List.map_toArray, List.map_cons, List.map_nil]); first | done | rfl | (simp only [List.length_drop, List.length_take]; rfl)) ?_; (with_reducible refine (couple_Chain.calls k6 _ _ l0_0 _ _ l0_1 _ _ x10_6 t455 t456 t457 _ ?side1 ?side2 ?side3 ?side4 ?side5 ?side6 A44.out).mono ?_); (case side1 => repeat (first | exact (Kd.C_below HR0_0.out HB.out) | (with_reducible refine Kd.C_alloc ?_ _) | (with_reducible refine Kd.C_drewN ?_ _) | (with_reducible refine Kd.C_drew ?_))); (case side2 => exact HC0_0.out); (case side3 => repeat (first | exact (Kd.C_below HR0_1.out HB.out) | (with_reducible refine Kd.C_alloc ?_ _) | (with_reducible refine Kd.C_drewN ?_ _) | (with_reducible refine Kd.C_drew ?_))); (case side4 => exact HC0_1.out); (case side5 => repeat (first | exact (Kd.R_reads' HO_10.out).2.2 | (with_reducible refine Kd.C_alloc ?_ _) | (with_reducible refine Kd.C_drewN ?_ _) | (with_reducible refine Kd.C_drew ?_))); (case side6 => exact (Kd.R_reads' HO_10.out).2.1); rintro e w48 ⟨v458, rfl, ho0, hb⟩; refine ⟨_, rfl, ?_⟩; have HO459 := Aside0.mk (Kd.R_lower ho0 (below_size (by repeat (first | exact HB.out | apply pw_below_drewN | refine sb ?_ GE439)))); replace HO_7 := Aside0.mk (Kd.S_elder' (by (with_reducible repeat (first | apply Kd.S_alloc | apply Kd.S_drewN | apply Kd.S_drew)); exact HO_7.out) (Kd.R_base ho0) hb); replace HO_8 := Aside0.mk (Kd.R_below (by (with_reducible repeat (first | apply Kd.R_alloc | apply Kd.R_drewN | apply Kd.R_drew)); exact HO_8.out) hb); replace HO_10 := Aside0.mk (Kd.R_below (by (with_reducible repeat (first | apply Kd.R_alloc | apply Kd.R_drewN | apply Kd.R_drew)); exact HO_10.out) hb); replace BK439 := bb BK439 hb; replace HB := Aside0.mk (below_step (by repeat (first | exact HB.out | apply pw_below_drewN | refine sb ?_ GE439)) hb); (try clear hb); (try clear hk); (try clear hi); (try clear ho0)))
                     (try simp only [Act.put, List.setIfInBounds_toArray, List.set_cons_zero, List.set_cons_succ])
                     go_cut [172] (fun v172 wc => ∃ (kq : Nat) (x172_44 : Bool), v172 = .bool x172_44 ∧ Aside0 (hcp.j7 kq (l0_1.length : Int) t442 x6_4 x7_5 x8_5 t455 x6_4 x124_5 x172_44 l0_0 l0_1 = some r) ∧ Aside0 (kq ≤ k6) ∧ Aside0 (Kd.S (Kd.slice 3 (Kd.int .i64)) 60 wc w.heap.size (fun k_ => some k_ ≠ (v458 : Value).ownBlock) u7 x7_5) ∧ Aside0 (Kd.R (Kd.int .i64) 2 wc w.heap.size (fun _ => True) u8 x8_5) ∧ Aside0 (Kd.R (Kd.int .i64) 3 wc w.heap.size (fun _ => True) v458 t455) ∧ Aside0 (wc.heap[gb439]? = some (.cells #[(.slice (some ad441) l0_0.length c0_0), (.slice A0_1 l0_1.length c0_1)] 59 (0, 0))) ∧ Aside0 (Below w.heap.size w wc))
                     case first =>
                      have H := HC45.out
                      clear HC45
                      by_cases c49 : t457 = 0
                      ·rw [if_pos c49] at H
                       have c49b0 : (t457 == 0) = true := beq_iff_eq.mpr c49
                       have c49b1 : (t457 != 0) = false := bne_eq_false_iff_eq.mpr c49
                       clear c49
                       (first | rw [c49b0] | (simp only [i64_w, i32_w]; rw [c49b0]) | skip)
                       by_cases c50 : (t455.length : Int) < 1
                       ·rw [if_pos c50] at H
                        have c50b0 : decide ((t455.length : Int) < 1) = true := decide_eq_true c50
                        have c50b1 : decide (t455.length < 1) = true := decide_eq_true (by omega)
                        clear c50
                        as_aux_lemma =>
                         have H' := Aside0.mk H
                         clear H
                         obtain ⟨Ao51, co51, eo51⟩ := Kd.R_slice HO459.out
                         subst eo51
                         go_wp2
                         go_meet
                         case rel => exact ⟨_, (true), (by first | rfl | (simp; done) | (simp [*]; done) | (simp [i64_w]; done) | (simp [*, i64_w]; done)), H', ⟨by have := HJ3.out; have := HJ12.out; have := HK3.out; have := HK4.out; have := HK5.out; have := HK6.out; first | omega | exact Nat.le_refl _⟩, ⟨by (with_reducible repeat (first | apply Kd.S_alloc | apply Kd.S_drewN | apply Kd.S_drew)); exact Kd.S_mono HO_7.out (fun _ hk => hk.2)⟩, ⟨by (with_reducible repeat (first | apply Kd.R_alloc | apply Kd.R_drewN | apply Kd.R_drew)); exact Kd.R_mono HO_8.out (fun _ hk => trivial)⟩, ⟨by (with_reducible repeat (first | apply Kd.R_alloc | apply Kd.R_drewN | apply Kd.R_drew)); exact HO459.out⟩, ⟨by exact BK439.out⟩, ⟨by repeat (first | exact HB.out | apply pw_below_drewN | refine sb ?_ GE439)⟩⟩
                       ·rw [if_neg c50] at H
                        have c50b0 : decide ((t455.length : Int) < 1) = false := decide_eq_false c50
                        have c50b1 : decide (t455.length < 1) = false := decide_eq_false (by omega)
                        clear c50
                        by_cases c52 : (t455.length : Int) > (wrap64 ((l0_1.length : Int) + 1))
                        ·rw [if_pos c52] at H
                         have c52b0 : decide ((wrap64 ((l0_1.length : Int) + 1)) < (t455.length : Int)) = true := decide_eq_true c52
                         clear c52
                         as_aux_lemma =>
                          have H' := Aside0.mk H
                          clear H
                          obtain ⟨Ao53, co53, eo53⟩ := Kd.R_slice HO459.out
                          subst eo53
                          go_wp2
                          go_meet
                          case rel => exact ⟨_, (true), (by first | rfl | (simp; done) | (simp [*]; done) | (simp [i64_w]; done) | (simp [*, i64_w]; done)), H', ⟨by have := HJ3.out; have := HJ12.out; have := HK3.out; have := HK4.out; have := HK5.out; have := HK6.out; first | omega | exact Nat.le_refl _⟩, ⟨by (with_reducible repeat (first | apply Kd.S_alloc | apply Kd.S_drewN | apply Kd.S_drew)); exact Kd.S_mono HO_7.out (fun _ hk => hk.2)⟩, ⟨by (with_reducible repeat (first | apply Kd.R_alloc | apply Kd.R_drewN | apply Kd.R_drew)); exact Kd.R_mono HO_8.out (fun _ hk => trivial)⟩, ⟨by (with_reducible repeat (first | apply Kd.R_alloc | apply Kd.R_drewN | apply Kd.R_drew)); exact HO459.out⟩, ⟨by exact BK439.out⟩, ⟨by repeat (first | exact HB.out | apply pw_below_drewN | refine sb ?_ GE439)⟩⟩
                        ·rw [if_neg c52] at H
                         have c52b0 : decide ((wrap64 ((l0_1.length : Int) + 1)) < (t455.length : Int)) = false := decide_eq_false c52
                         clear c52
                         as_aux_lemma =>
                          have H' := Aside0.mk H
                          clear H
                          obtain ⟨Ao54, co54, eo54⟩ := Kd.R_slice HO459.out
                          subst eo54
                          go_wp2
                          go_meet
                          case rel => exact ⟨_, ((t456 != (wrap64 ((t455.length : Int) - 1)))), (by first | rfl | (simp; done) | (simp [*]; done) | (simp [i64_w]; done) | (simp [*, i64_w]; done)), H', ⟨by have := HJ3.out; have := HJ12.out; have := HK3.out; have := HK4.out; have := HK5.out; have := HK6.out; first | omega | exact Nat.le_refl _⟩, ⟨by (with_reducible repeat (first | apply Kd.S_alloc | apply Kd.S_drewN | apply Kd.S_drew)); exact Kd.S_mono HO_7.out (fun _ hk => hk.2)⟩, ⟨by (with_reducible repeat (first | apply Kd.R_alloc | apply Kd.R_drewN | apply Kd.R_drew)); exact Kd.R_mono HO_8.out (fun _ hk => trivial)⟩, ⟨by (with_reducible repeat (first | apply Kd.R_alloc | apply Kd.R_drewN | apply Kd.R_drew)); exact HO459.out⟩, ⟨by exact BK439.out⟩, ⟨by repeat (first | exact HB.out | apply pw_below_drewN | refine sb ?_ GE439)⟩⟩
                      ·rw [if_neg c49] at H
                       have c49b0 : (t457 == 0) = false := beq_eq_false_iff_ne.mpr c49
                       have c49b1 : (t457 != 0) = true := bne_iff_ne.mpr c49
                       (first | rw [c49b0] | (simp only [i64_w, i32_w]; rw [c49b0]) | skip)
                       as_aux_lemma =>
                        have H' := Aside0.mk H
                        clear H
                        go_wp2
                        go_meet
                        case rel => exact ⟨_, (true), (by first | rfl | (simp; done) | (simp [*]; done) | (simp [i64_w]; done) | (simp [*, i64_w]; done)), H', ⟨by have := HJ3.out; have := HJ12.out; have := HK3.out; have := HK4.out; have := HK5.out; have := HK6.out; first | omega | exact Nat.le_refl _⟩, ⟨by (with_reducible repeat (first | apply Kd.S_alloc | apply Kd.S_drewN | apply Kd.S_drew)); exact Kd.S_mono HO_7.out (fun _ hk => hk.2)⟩, ⟨by (with_reducible repeat (first | apply Kd.R_alloc | apply Kd.R_drewN | apply Kd.R_drew)); exact Kd.R_mono HO_8.out (fun _ hk => trivial)⟩, ⟨by (with_reducible repeat (first | apply Kd.R_alloc | apply Kd.R_drewN | apply Kd.R_drew)); exact HO459.out⟩, ⟨by exact BK439.out⟩, ⟨by repeat (first | exact HB.out | apply pw_below_drewN | refine sb ?_ GE439)⟩⟩
                     case rest =>
                      clear HC45
                      try clear c1
                      try clear c2
                      try clear p2
                      try clear c3
                      try clear c4
                      try clear p4
                      try clear q4
                      try clear hx4
                      try clear c5
                      try clear p6
                      try clear c15
                      try clear c18
                      try clear c18b0
                      try clear c20
                      try clear c21
                      try clear c23
                      try clear c23b0
                      try clear c23b1
                      try clear c26
                      try clear c31
                      try clear c37
                      try clear c38
                      try clear c38b0
                      try clear c39
                      try clear c39b0
                      try clear c40
                      try clear c40b0
                      try clear c41
                      try clear c41b0
                      try clear c41b1
                      try clear c42
                      try clear c44
                      try clear p44
                      try clear q44
                      try clear hx44
                      try clear c49
                      try clear c49b0
                      try clear c49b1
                      try clear c50
                      try clear c50b0
                      try clear c50b1
                      try clear c52
                      try clear c52b0
                      try clear hcz46_0
                      try clear hcz46_1
                      try clear hfz46_0
                      try clear hfz46_1
                      try clear hx443_0
                      try clear p2
                      try clear p4
                      try clear p443
                      try clear p6
                      try clear q4
                      try clear q443
                      obtain ⟨kq, x172_44, rfl, HA, HJ44, HO_7, HO_8, HO_13, BK439, HB⟩ := hcut
                      cases kq with
                      | zero => exact absurd HA.out (by simp [hcp.j7])
                      | succ kj44 =>
                       have H := HA.out
                       clear HA
                       simp only [hcp.j7] at H
                       by_cases c55 : x172_44 = true
                       ·subst c55
                        have H1 : (some false) = some r := by rw [if_pos rfl] at H; exact H
                        clear H
                        have H := H1
                        clear H1
                        as_aux_lemma =>
                         obtain rfl := Option.some.inj H
                         go_wp2
                         go_ret
                         exact ⟨by first | rfl | (simp [errW_none, errW_some] <;> rfl) | (simp [*, errW_none, errW_some] <;> rfl), by repeat (first | exact HB.out | apply pw_below_drewN | refine sb ?_ GE439)⟩
                       ·replace c55 := Bool.eq_false_iff.mpr c55
                        subst c55
                        have H1 : (hcp.l4 kj44 (l0_1.length : Int) t442 x6_4 x7_5 x8_5 t455 x6_4 x124_5 t455 (t455.length : Int) 0 l0_0 l0_1) = some r := by rw [if_neg (show ¬ (false = true) by decide)] at H; exact H
                        clear H
                        have H := H1
                        clear H1
                        have H' := Aside0.mk H
                        clear H
                        obtain ⟨Ao56, co56, eo56⟩ := Kd.R_slice HO_13.out
                        subst eo56
                        go_wp2
                        go_loopg [175] kj44 (fun kq v175 w' => ∃ (x175_8 : Int), v175 = .int .i64 x175_8 ∧ Aside0 (hcp.l4 kq (l0_1.length : Int) t442 x6_4 x7_5 x8_5 t455 x6_4 x124_5 t455 (t455.length : Int) x175_8 l0_0 l0_1 = some r) ∧ Aside0 (kq ≤ kj44) ∧ Aside0 (Kd.S (Kd.slice 3 (Kd.int .i64)) 60 w' w.heap.size (fun k_ => some k_ ≠ ((.slice Ao56 t455.length co56) : Value).ownBlock ∧ some k_ ≠ ((.slice Ao56 t455.length co56) : Value).ownBlock) u7 x7_5) ∧ Aside0 (Kd.R (Kd.int .i64) 2 w' w.heap.size (fun _ => True) u8 x8_5) ∧ Aside0 (Kd.R (Kd.int .i64) 3 w' w.heap.size (fun _ => True) (.slice Ao56 t455.length co56) t455) ∧ Aside0 (Kd.R (Kd.int .i64) 3 w' w.heap.size (fun _ => True) (.slice Ao56 t455.length co56) t455) ∧ Aside0 (w'.heap[gb439]? = some (.cells #[(.slice (some ad441) l0_0.length c0_0), (.slice A0_1 l0_1.length c0_1)] 59 (0, 0))) ∧ Aside0 (Below w.heap.size w w'))
                        case atStart => exact ⟨(0), (by first | rfl | (simp; done) | (simp [*]; done) | (simp [i64_w]; done) | (simp [*, i64_w]; done)), H', ⟨Nat.le_refl _⟩, ⟨by (with_reducible repeat (first | apply Kd.S_alloc | apply Kd.S_drewN | apply Kd.S_drew)); exact Kd.S_mono HO_7.out (fun _ hk => ⟨hk, hk⟩)⟩, ⟨by (with_reducible repeat (first | apply Kd.R_alloc | apply Kd.R_drewN | apply Kd.R_drew)); exact HO_8.out⟩, ⟨by (with_reducible repeat (first | apply Kd.R_alloc | apply Kd.R_drewN | apply Kd.R_drew)); exact HO_13.out⟩, ⟨by (with_reducible repeat (first | apply Kd.R_alloc | apply Kd.R_drewN | apply Kd.R_drew)); exact HO_13.out⟩, ⟨by exact BK439.out⟩, ⟨by repeat (first | exact HB.out | apply pw_below_drewN | refine sb ?_ GE439)⟩⟩
                        case round =>
                         clear H'
                         try clear c1
                         try clear c2
                         try clear p2
                         try clear c3
                         try clear c4
                         try clear p4
                         try clear q4
                         try clear hx4
                         try clear c5
                         try clear p6
                         try clear c15
                         try clear c18
                         try clear c18b0
                         try clear c20
                         try clear c21
                         try clear c23
                         try clear c23b0
                         try clear c23b1
                         try clear c26
                         try clear c31
                         try clear c37
                         try clear c38
                         try clear c38b0
                         try clear c39
                         try clear c39b0
                         try clear c40
                         try clear c40b0
                         try clear c41
                         try clear c41b0
                         try clear c41b1
                         try clear c42
                         try clear c44
                         try clear p44
                         try clear q44
                         try clear hx44
                         try clear c49
                         try clear c49b0
                         try clear c49b1
                         try clear c50
                         try clear c50b0
                         try clear c50b1
                         try clear c52
                         try clear c52b0
                         try clear c55
                         try clear hcz46_0
                         try clear hcz46_1
                         try clear hfz46_0
                         try clear hfz46_1
                         try clear hx443_0
                         try clear p2
                         try clear p4
                         try clear p44
                         try clear p443
                         try clear p6
                         try clear q4
                         try clear q44
                         try clear q443
                         obtain ⟨x175_8, rfl, HA, HK8, HO_7, HO_8, HO_13, HO_173, BK439, HB⟩ := hrel
                         cases gk with
                         | zero => exact absurd HA.out (by simp [hcp.l4])
                         | succ k8 =>
                          have H := HA.out
                          clear HA
                          simp only [hcp.l4] at H
                          by_cases c57 : x175_8 < (t455.length : Int)
                          ·rw [if_pos c57] at H
                           have c57b0 : decide (x175_8 < (t455.length : Int)) = true := decide_eq_true c57
                           clear c57
                           by_cases c58 : 0 ≤ x175_8
                           ·rw [if_pos c58] at H
                            have c58b0 : decide (0 ≤ x175_8) = true := decide_eq_true c58
                            clear c58
                            by_cases c59 : x175_8 < (t455.length : Int)
                            ·rw [if_pos c59] at H
                             have c59b0 : decide (x175_8 < (t455.length : Int)) = true := decide_eq_true c59
                             clear c59
                             by_cases c60 : (rd t455 x175_8) < 0
                             ·rw [if_pos c60] at H
                              have c60b0 : decide ((rd t455 x175_8) < 0) = true := decide_eq_true c60
                              clear c60
                              as_aux_lemma =>
                               obtain rfl := Option.some.inj H
                               have p460 : 0 ≤ (x175_8 : Int) := of_decide_eq_true (by first | (with_reducible assumption) | assumption)
                               have q460 : x175_8 < (t455.length : Int) := of_decide_eq_true (by first | (with_reducible assumption) | assumption)
                               obtain ⟨ad460, e460, hx460_0⟩ := Kd.at_int (Kd.R_reads' HO_173.out).2.2 x175_8 p460 q460
                               cases e460
                               replace p460 := eq_true p460
                               replace q460 := eq_true q460
                               go_wp2
                               go_ret
                               exact ⟨by first | rfl | (simp [errW_none, errW_some] <;> rfl) | (simp [*, errW_none, errW_some] <;> rfl), by repeat (first | exact HB.out | apply pw_below_drewN | refine sb ?_ GE439)⟩
                             ·rw [if_neg c60] at H
                              have c60b0 : decide ((rd t455 x175_8) < 0) = false := decide_eq_false c60
                              clear c60
                              by_cases c61 : 0 < (l0_0.length : Int)
                              ·rw [if_pos c61] at H
                               have c61b0 : decide (0 < (l0_0.length : Int)) = true := decide_eq_true c61
                               have c61b1 : decide (0 < l0_0.length) = true := decide_eq_true (by omega)
                               clear c61
                               by_cases c62 : (rd t455 x175_8) ≥ ((rd_L1 l0_0 0).length : Int)
                               ·rw [if_pos c62] at H
                                have c62b0 : decide (((rd_L1 l0_0 0).length : Int) ≤ (rd t455 x175_8)) = true := decide_eq_true c62
                                clear c62
                                as_aux_lemma =>
                                 obtain rfl := Option.some.inj H
                                 have p460 : 0 ≤ (x175_8 : Int) := of_decide_eq_true (by first | (with_reducible assumption) | assumption)
                                 have q460 : x175_8 < (t455.length : Int) := of_decide_eq_true (by first | (with_reducible assumption) | assumption)
                                 obtain ⟨ad460, e460, hx460_0⟩ := Kd.at_int (Kd.R_reads' HO_173.out).2.2 x175_8 p460 q460
                                 cases e460
                                 replace p460 := eq_true p460
                                 replace q460 := eq_true q460
                                 have hcz63_0 : wr.cell? ⟨gb439, 0, none⟩ = some (.slice (some ad441) l0_0.length c0_0) := (blk_cell BK439.out 0).trans rfl
                                 have hcz63_1 : wr.cell? ⟨gb439, 1, none⟩ = some (.slice A0_1 l0_1.length c0_1) := (blk_cell BK439.out 1).trans rfl
                                 have hfz63_0 := blk_frozen BK439.out 0
                                 have hfz63_1 := blk_frozen BK439.out 1
                                 have p461 : 0 ≤ (0 : Int) := (by omega)
                                 have q461 : 0 < (l0_0.length : Int) := of_decide_eq_true (by first | (with_reducible assumption) | assumption)
                                 obtain ⟨ad461, A461_0, c461_0, e461, hx461_0, hl461_0, hi461_0⟩ := at_L1 HR0_0.out 0 p461 q461
                                 obtain rfl : ad441 = ad461 := (by injection e461)
                                 have qi461 : (0 < l0_0.length) = True := eq_true (by omega)
                                 (try rw [show ((0 : Int)).toNat = 0 from rfl] at hx461_0)
                                 (try rw [Addr.add_zero'] at hx461_0)
                                 replace hx461_0 := (HB.out.cell (World.block_lt_of_cell? w _ hx461_0)).trans hx461_0
                                 have HR461_0 := Aside0.mk hi461_0
                                 have HC461_0 := Aside0.mk hl461_0
                                 clear hi461_0 hl461_0
                                 replace p461 := eq_true p461
                                 replace q461 := eq_true q461
                                 go_wp2
                                 go_ret
                                 exact ⟨by first | rfl | (simp [errW_none, errW_some] <;> rfl) | (simp [*, errW_none, errW_some] <;> rfl), by repeat (first | exact HB.out | apply pw_below_drewN | refine sb ?_ GE439)⟩
                               ·rw [if_neg c62] at H
                                have c62b0 : decide (((rd_L1 l0_0 0).length : Int) ≤ (rd t455 x175_8)) = false := decide_eq_false c62
                                clear c62
                                as_aux_lemma =>
                                 have H' := Aside0.mk H
                                 clear H
                                 have p460 : 0 ≤ (x175_8 : Int) := of_decide_eq_true (by first | (with_reducible assumption) | assumption)
                                 have q460 : x175_8 < (t455.length : Int) := of_decide_eq_true (by first | (with_reducible assumption) | assumption)
                                 obtain ⟨ad460, e460, hx460_0⟩ := Kd.at_int (Kd.R_reads' HO_173.out).2.2 x175_8 p460 q460
                                 cases e460
                                 replace p460 := eq_true p460
                                 replace q460 := eq_true q460
                                 have hcz64_0 : wr.cell? ⟨gb439, 0, none⟩ = some (.slice (some ad441) l0_0.length c0_0) := (blk_cell BK439.out 0).trans rfl
                                 have hcz64_1 : wr.cell? ⟨gb439, 1, none⟩ = some (.slice A0_1 l0_1.length c0_1) := (blk_cell BK439.out 1).trans rfl
                                 have hfz64_0 := blk_frozen BK439.out 0
                                 have hfz64_1 := blk_frozen BK439.out 1
                                 have p461 : 0 ≤ (0 : Int) := (by omega)
                                 have q461 : 0 < (l0_0.length : Int) := of_decide_eq_true (by first | (with_reducible assumption) | assumption)
                                 obtain ⟨ad461, A461_0, c461_0, e461, hx461_0, hl461_0, hi461_0⟩ := at_L1 HR0_0.out 0 p461 q461
                                 obtain rfl : ad441 = ad461 := (by injection e461)
                                 have qi461 : (0 < l0_0.length) = True := eq_true (by omega)
                                 (try rw [show ((0 : Int)).toNat = 0 from rfl] at hx461_0)
                                 (try rw [Addr.add_zero'] at hx461_0)
                                 replace hx461_0 := (HB.out.cell (World.block_lt_of_cell? w _ hx461_0)).trans hx461_0
                                 have HR461_0 := Aside0.mk hi461_0
                                 have HC461_0 := Aside0.mk hl461_0
                                 clear hi461_0 hl461_0
                                 replace p461 := eq_true p461
                                 replace q461 := eq_true q461
                                 go_wp2
                                 go_roundg k8
                                 case measure => have := HJ3.out; have := HJ12.out; have := HK3.out; have := HK4.out; have := HK5.out; have := HK6.out; have := HJ44.out; have := HK8.out; omega
                                 case rel => exact ⟨(wrap64 (x175_8 + 1)), (by first | rfl | (simp; done) | (simp [*]; done) | (simp [i64_w]; done) | (simp [*, i64_w]; done)), H', ⟨by have := HJ3.out; have := HJ12.out; have := HK3.out; have := HK4.out; have := HK5.out; have := HK6.out; have := HJ44.out; have := HK8.out; omega⟩, ⟨by (with_reducible repeat (first | apply Kd.S_alloc | apply Kd.S_drewN | apply Kd.S_drew)); exact HO_7.out⟩, ⟨by (with_reducible repeat (first | apply Kd.R_alloc | apply Kd.R_drewN | apply Kd.R_drew)); exact HO_8.out⟩, ⟨by (with_reducible repeat (first | apply Kd.R_alloc | apply Kd.R_drewN | apply Kd.R_drew)); exact HO_13.out⟩, ⟨by (with_reducible repeat (first | apply Kd.R_alloc | apply Kd.R_drewN | apply Kd.R_drew)); exact HO_173.out⟩, ⟨by exact BK439.out⟩, ⟨by repeat (first | exact HB.out | apply pw_below_drewN | refine sb ?_ GE439)⟩⟩
                              ·rw [if_neg c61] at H
                               exact absurd H (by simp)
                            ·rw [if_neg c59] at H
                             exact absurd H (by simp)
                           ·rw [if_neg c58] at H
                            exact absurd H (by simp)
                          ·rw [if_neg c57] at H
                           have c57b0 : decide (x175_8 < (t455.length : Int)) = false := decide_eq_false c57
                           clear c57
                           have HC65 := Aside0.mk H
                           clear H
                           go_upto_block 10 with (fail)
                           go_cut [18] (fun v18 wc => ∃ (kq : Nat) (x18_64 : Int), v18 = .int .i64 x18_64 ∧ Aside0 (hcp.j10 kq (l0_1.length : Int) t442 x6_4 x7_5 x8_5 t455 x18_64 x6_4 x124_5 l0_0 l0_1 = some r) ∧ Aside0 (kq ≤ k8) ∧ Aside0 (Kd.S (Kd.slice 3 (Kd.int .i64)) 60 wc w.heap.size (fun k_ => some k_ ≠ ((.slice Ao56 t455.length co56) : Value).ownBlock) u7 x7_5) ∧ Aside0 (Kd.R (Kd.int .i64) 2 wc w.heap.size (fun _ => True) u8 x8_5) ∧ Aside0 (Kd.R (Kd.int .i64) 3 wc w.heap.size (fun _ => True) (.slice Ao56 t455.length co56) t455) ∧ Aside0 (wc.heap[gb439]? = some (.cells #[(.slice (some ad441) l0_0.length c0_0), (.slice A0_1 l0_1.length c0_1)] 59 (0, 0))) ∧ Aside0 (Below w.heap.size w wc))
                           case first =>
                            have H := HC65.out
                            clear HC65
                            have H' := Aside0.mk H
                            clear H
                            go_wp2
                            go_loopg [18] k8 (fun kq v18 w' => ∃ (x18_9 : Int), v18 = .int .i64 x18_9 ∧ Aside0 (hcp.l5 kq (l0_1.length : Int) t442 x6_4 x7_5 x8_5 t455 x18_9 x6_4 x124_5 l0_0 l0_1 = some r) ∧ Aside0 (kq ≤ k8) ∧ Aside0 (Kd.S (Kd.slice 3 (Kd.int .i64)) 60 w' w.heap.size (fun k_ => some k_ ≠ ((.slice Ao56 t455.length co56) : Value).ownBlock) u7 x7_5) ∧ Aside0 (Kd.R (Kd.int .i64) 2 w' w.heap.size (fun _ => True) u8 x8_5) ∧ Aside0 (Kd.R (Kd.int .i64) 3 w' w.heap.size (fun _ => True) (.slice Ao56 t455.length co56) t455) ∧ Aside0 (w'.heap[gb439]? = some (.cells #[(.slice (some ad441) l0_0.length c0_0), (.slice A0_1 l0_1.length c0_1)] 59 (0, 0))) ∧ Aside0 (Below w.heap.size w w'))
                            case atStart => exact ⟨(0), (by first | rfl | (simp; done) | (simp [*]; done) | (simp [i64_w]; done) | (simp [*, i64_w]; done)), H', ⟨Nat.le_refl _⟩, ⟨by (with_reducible repeat (first | apply Kd.S_alloc | apply Kd.S_drewN | apply Kd.S_drew)); exact Kd.S_mono HO_7.out (fun _ hk => hk.1)⟩, ⟨by (with_reducible repeat (first | apply Kd.R_alloc | apply Kd.R_drewN | apply Kd.R_drew)); exact HO_8.out⟩, ⟨by (with_reducible repeat (first | apply Kd.R_alloc | apply Kd.R_drewN | apply Kd.R_drew)); exact HO_13.out⟩, ⟨by exact BK439.out⟩, ⟨by repeat (first | exact HB.out | apply pw_below_drewN | refine sb ?_ GE439)⟩⟩
                            case round =>
                             clear H'
                             try clear c1
                             try clear c2
                             try clear p2
                             try clear c3
                             try clear c4
                             try clear p4
                             try clear q4
                             try clear hx4
                             try clear qi4
                             try clear c5
                             try clear c6
                             try clear p6
                             try clear c15
                             try clear c18
                             try clear c18b0
                             try clear c20
                             try clear c21
                             try clear c23
                             try clear c23b0
                             try clear c23b1
                             try clear c26
                             try clear c31
                             try clear c37
                             try clear c38
                             try clear c38b0
                             try clear c39
                             try clear c39b0
                             try clear c40
                             try clear c40b0
                             try clear c41
                             try clear c41b0
                             try clear c41b1
                             try clear c42
                             try clear c44
                             try clear p44
                             try clear q44
                             try clear hx44
                             try clear c46
                             try clear p46
                             try clear q46
                             try clear hx46
                             try clear qi46
                             try clear c49
                             try clear c49b0
                             try clear c49b1
                             try clear c50
                             try clear c50b0
                             try clear c50b1
                             try clear c52
                             try clear c52b0
                             try clear c55
                             try clear c57
                             try clear c57b0
                             try clear c58
                             try clear c58b0
                             try clear c59
                             try clear c59b0
                             try clear c60
                             try clear c60b0
                             try clear c61
                             try clear c61b0
                             try clear c61b1
                             try clear c62
                             try clear c62b0
                             try clear p64
                             try clear hcz46_0
                             try clear hcz46_1
                             try clear hcz63_0
                             try clear hcz63_1
                             try clear hcz64_0
                             try clear hcz64_1
                             try clear hfz46_0
                             try clear hfz46_1
                             try clear hfz63_0
                             try clear hfz63_1
                             try clear hfz64_0
                             try clear hfz64_1
                             try clear hx443_0
                             try clear hx460_0
                             try clear hx461_0
                             try clear p2
                             try clear p4
                             try clear p44
                             try clear p443
                             try clear p460
                             try clear p461
                             try clear p6
                             try clear q4
                             try clear q44
                             try clear q443
                             try clear q460
                             try clear q461
                             obtain ⟨x18_9, rfl, HA, HK9, HO_7, HO_8, HO_13, BK439, HB⟩ := hrel
                             cases gk with
                             | zero => exact absurd HA.out (by simp [hcp.l5])
                             | succ k9 =>
                              have H := HA.out
                              clear HA
                              simp only [hcp.l5] at H
                              by_cases c66 : x18_9 < (x7_5.length : Int)
                              ·rw [if_pos c66] at H
                               have c66b0 : decide (x18_9 < (x7_5.length : Int)) = true := decide_eq_true c66
                               clear c66
                               (first | rw [c66b0] | (simp only [i64_w, i32_w]; rw [c66b0]) | skip)
                               by_cases c67 : 0 ≤ x18_9
                               ·rw [if_pos c67] at H
                                have c67b0 : decide (0 ≤ x18_9) = true := decide_eq_true c67
                                clear c67
                                replace H := Option.bind_eq_some_iff.mp H
                                obtain ⟨t463, A680, H⟩ := H
                                replace H : (if t463 = true then (hcp.j10 k9 (l0_1.length : Int) t442 x6_4 x7_5 x8_5 t455 x18_9 x6_4 x124_5 l0_0 l0_1) else (hcp.l5 k9 (l0_1.length : Int) t442 x6_4 x7_5 x8_5 t455 (wrap64 (x18_9 + 1)) x6_4 x124_5 l0_0 l0_1)) = some r := H
                                have A68 := Aside0.mk A680
                                clear A680
                                by_cases c69 : t463 = true
                                ·subst c69
                                 have H1 : (hcp.j10 k9 (l0_1.length : Int) t442 x6_4 x7_5 x8_5 t455 x18_9 x6_4 x124_5 l0_0 l0_1) = some r := by rw [if_pos rfl] at H; exact H
                                 clear H
                                 have H := H1
                                 clear H1
                                 as_aux_lemma =>
                                  have H' := Aside0.mk H
                                  clear H
                                  obtain ⟨Ao70, co70, eo70⟩ := Kd.S_slice HO_7.out
                                  subst eo70
                                  have p462 : 0 ≤ (x18_9 : Int) := of_decide_eq_true (by first | (with_reducible assumption) | assumption)
                                  have q462 : x18_9 < (x7_5.length : Int) := of_decide_eq_true (by first | (with_reducible assumption) | assumption)
                                  obtain ⟨ad462, A462_0, c462_0, e462, hx462_0, hl462_0, hi462_0⟩ := at_L4 (Kd.S_reads' HO_7.out).2.2 x18_9 p462 q462
                                  cases e462
                                  obtain ⟨ce462, hce462, hMe462, hcc462⟩ := Kd.S_get HO_7.out [] x18_9 p462 (by first | exact q462 | exact of_decide_eq_true (by first | (with_reducible assumption) | assumption) | (have e_ := (Kd.S_reads' HO_7.out).1; omega))
                                  obtain ⟨ve462_0, rfl, ge462_0⟩ := hMe462
                                  have hv462_0 := hcc462 0 _ rfl
                                  rw [Nat.add_zero, show ((Kd.slice 3 (Kd.int .i64))).sz = 1 from rfl, Nat.mul_one] at hv462_0
                                  replace hv462_0 := Option.some.inj (hv462_0.symm.trans hx462_0)
                                  rw [hv462_0] at ge462_0
                                  have HL462_0 := Aside0.mk (show Kd.R (Kd.int .i64) 3 _ _ _ _ (rd_L4 x7_5 x18_9) from ge462_0)
                                  clear hv462_0 ge462_0
                                  clear hcc462 hce462
                                  have HR462_0 := Aside0.mk hi462_0
                                  have HC462_0 := Aside0.mk hl462_0
                                  clear hi462_0 hl462_0
                                  replace p462 := eq_true p462
                                  replace q462 := eq_true q462
                                  go_wp2_with (first | (go_at_call 33; (with_reducible refine (heraldlaw24_alike.calls k9 _ _ (rd_L4 x7_5 x18_9) _ _ t455 true _ ?side1 ?side2 ?side3 ?side4 A68.out).mono ?_); (case side1 => repeat (first | exact (by repeat (first | (with_reducible exact HR462_0.out) | (with_reducible refine Kd.C_alloc ?_ _) | (with_reducible refine Kd.C_drewN ?_ _) | (with_reducible refine Kd.C_drew ?_) | exact HR462_0.out)) | (with_reducible refine Kd.C_alloc ?_ _) | (with_reducible refine Kd.C_drewN ?_ _) | (with_reducible refine Kd.C_drew ?_))); (case side2 => exact HC462_0.out); (case side3 => repeat (first | exact (Kd.R_reads' HO_13.out).2.2 | (with_reducible refine Kd.C_alloc ?_ _) | (with_reducible refine Kd.C_drewN ?_ _) | (with_reducible refine Kd.C_drew ?_))); (case side4 => exact (Kd.R_reads' HO_13.out).2.1); rintro e w' ⟨rfl, ⟨nd, rfl⟩⟩))
                                  go_meet
                                  case rel => exact ⟨_, (x18_9), (by first | rfl | (simp; done) | (simp [*]; done) | (simp [i64_w]; done) | (simp [*, i64_w]; done)), H', ⟨by have := HJ3.out; have := HJ12.out; have := HK3.out; have := HK4.out; have := HK5.out; have := HK6.out; have := HJ44.out; have := HK8.out; have := HK9.out; first | omega | exact Nat.le_refl _⟩, ⟨by (with_reducible repeat (first | apply Kd.S_alloc | apply Kd.S_drewN | apply Kd.S_drew)); exact HO_7.out⟩, ⟨by (with_reducible repeat (first | apply Kd.R_alloc | apply Kd.R_drewN | apply Kd.R_drew)); exact HO_8.out⟩, ⟨by (with_reducible repeat (first | apply Kd.R_alloc | apply Kd.R_drewN | apply Kd.R_drew)); exact HO_13.out⟩, ⟨by exact BK439.out⟩, ⟨by repeat (first | exact HB.out | apply pw_below_drewN | refine sb ?_ GE439)⟩⟩
                                ·replace c69 := Bool.eq_false_iff.mpr c69
                                 subst c69
                                 have H1 : (hcp.l5 k9 (l0_1.length : Int) t442 x6_4 x7_5 x8_5 t455 (wrap64 (x18_9 + 1)) x6_4 x124_5 l0_0 l0_1) = some r := by rw [if_neg (show ¬ (false = true) by decide)] at H; exact H
                                 clear H
                                 have H := H1
                                 clear H1
                                 as_aux_lemma =>
                                  have H' := Aside0.mk H
                                  clear H
                                  obtain ⟨Ao71, co71, eo71⟩ := Kd.S_slice HO_7.out
                                  subst eo71
                                  have p462 : 0 ≤ (x18_9 : Int) := of_decide_eq_true (by first | (with_reducible assumption) | assumption)
                                  have q462 : x18_9 < (x7_5.length : Int) := of_decide_eq_true (by first | (with_reducible assumption) | assumption)
                                  obtain ⟨ad462, A462_0, c462_0, e462, hx462_0, hl462_0, hi462_0⟩ := at_L4 (Kd.S_reads' HO_7.out).2.2 x18_9 p462 q462
                                  cases e462
                                  obtain ⟨ce462, hce462, hMe462, hcc462⟩ := Kd.S_get HO_7.out [] x18_9 p462 (by first | exact q462 | exact of_decide_eq_true (by first | (with_reducible assumption) | assumption) | (have e_ := (Kd.S_reads' HO_7.out).1; omega))
                                  obtain ⟨ve462_0, rfl, ge462_0⟩ := hMe462
                                  have hv462_0 := hcc462 0 _ rfl
                                  rw [Nat.add_zero, show ((Kd.slice 3 (Kd.int .i64))).sz = 1 from rfl, Nat.mul_one] at hv462_0
                                  replace hv462_0 := Option.some.inj (hv462_0.symm.trans hx462_0)
                                  rw [hv462_0] at ge462_0
                                  have HL462_0 := Aside0.mk (show Kd.R (Kd.int .i64) 3 _ _ _ _ (rd_L4 x7_5 x18_9) from ge462_0)
                                  clear hv462_0 ge462_0
                                  clear hcc462 hce462
                                  have HR462_0 := Aside0.mk hi462_0
                                  have HC462_0 := Aside0.mk hl462_0
                                  clear hi462_0 hl462_0
                                  replace p462 := eq_true p462
                                  replace q462 := eq_true q462
                                  go_wp2_with (first | (go_at_call 33; (with_reducible refine (heraldlaw24_alike.calls k9 _ _ (rd_L4 x7_5 x18_9) _ _ t455 false _ ?side1 ?side2 ?side3 ?side4 A68.out).mono ?_); (case side1 => repeat (first | exact (by repeat (first | (with_reducible exact HR462_0.out) | (with_reducible refine Kd.C_alloc ?_ _) | (with_reducible refine Kd.C_drewN ?_ _) | (with_reducible refine Kd.C_drew ?_) | exact HR462_0.out)) | (with_reducible refine Kd.C_alloc ?_ _) | (with_reducible refine Kd.C_drewN ?_ _) | (with_reducible refine Kd.C_drew ?_))); (case side2 => exact HC462_0.out); (case side3 => repeat (first | exact (Kd.R_reads' HO_13.out).2.2 | (with_reducible refine Kd.C_alloc ?_ _) | (with_reducible refine Kd.C_drewN ?_ _) | (with_reducible refine Kd.C_drew ?_))); (case side4 => exact (Kd.R_reads' HO_13.out).2.1); rintro e w' ⟨rfl, ⟨nd, rfl⟩⟩))
                                  go_roundg k9
                                  case measure => have := HJ3.out; have := HJ12.out; have := HK3.out; have := HK4.out; have := HK5.out; have := HK6.out; have := HJ44.out; have := HK8.out; have := HK9.out; omega
                                  case rel => exact ⟨(wrap64 (x18_9 + 1)), (by first | rfl | (simp; done) | (simp [*]; done) | (simp [i64_w]; done) | (simp [*, i64_w]; done)), H', ⟨by have := HJ3.out; have := HJ12.out; have := HK3.out; have := HK4.out; have := HK5.out; have := HK6.out; have := HJ44.out; have := HK8.out; have := HK9.out; omega⟩, ⟨by (with_reducible repeat (first | apply Kd.S_alloc | apply Kd.S_drewN | apply Kd.S_drew)); exact HO_7.out⟩, ⟨by (with_reducible repeat (first | apply Kd.R_alloc | apply Kd.R_drewN | apply Kd.R_drew)); exact HO_8.out⟩, ⟨by (with_reducible repeat (first | apply Kd.R_alloc | apply Kd.R_drewN | apply Kd.R_drew)); exact HO_13.out⟩, ⟨by exact BK439.out⟩, ⟨by repeat (first | exact HB.out | apply pw_below_drewN | refine sb ?_ GE439)⟩⟩
                               ·rw [if_neg c67] at H
                                exact absurd H (by simp)
                              ·rw [if_neg c66] at H
                               have c66b0 : decide (x18_9 < (x7_5.length : Int)) = false := decide_eq_false c66
                               clear c66
                               (first | rw [c66b0] | (simp only [i64_w, i32_w]; rw [c66b0]) | skip)
                               as_aux_lemma =>
                                have H' := Aside0.mk H
                                clear H
                                obtain ⟨Ao72, co72, eo72⟩ := Kd.S_slice HO_7.out
                                subst eo72
                                go_wp2
                                go_meet
                                case rel => exact ⟨_, (x18_9), (by first | rfl | (simp; done) | (simp [*]; done) | (simp [i64_w]; done) | (simp [*, i64_w]; done)), H', ⟨by have := HJ3.out; have := HJ12.out; have := HK3.out; have := HK4.out; have := HK5.out; have := HK6.out; have := HJ44.out; have := HK8.out; have := HK9.out; first | omega | exact Nat.le_refl _⟩, ⟨by (with_reducible repeat (first | apply Kd.S_alloc | apply Kd.S_drewN | apply Kd.S_drew)); exact HO_7.out⟩, ⟨by (with_reducible repeat (first | apply Kd.R_alloc | apply Kd.R_drewN | apply Kd.R_drew)); exact HO_8.out⟩, ⟨by (with_reducible repeat (first | apply Kd.R_alloc | apply Kd.R_drewN | apply Kd.R_drew)); exact HO_13.out⟩, ⟨by exact BK439.out⟩, ⟨by repeat (first | exact HB.out | apply pw_below_drewN | refine sb ?_ GE439)⟩⟩
                           case rest =>
                            clear HC65
                            try clear c1
                            try clear c2
                            try clear p2
                            try clear c3
                            try clear c4
                            try clear p4
                            try clear q4
                            try clear hx4
                            try clear qi4
                            try clear c5
                            try clear c6
                            try clear p6
                            try clear c15
                            try clear c18
                            try clear c18b0
                            try clear c20
                            try clear c21
                            try clear c23
                            try clear c23b0
                            try clear c23b1
                            try clear c26
                            try clear c31
                            try clear c37
                            try clear c38
                            try clear c38b0
                            try clear c39
                            try clear c39b0
                            try clear c40
                            try clear c40b0
                            try clear c41
                            try clear c41b0
                            try clear c41b1
                            try clear c42
                            try clear c44
                            try clear p44
                            try clear q44
                            try clear hx44
                            try clear c46
                            try clear p46
                            try clear q46
                            try clear hx46
                            try clear qi46
                            try clear c49
                            try clear c49b0
                            try clear c49b1
                            try clear c50
                            try clear c50b0
                            try clear c50b1
                            try clear c52
                            try clear c52b0
                            try clear c55
                            try clear c57
                            try clear c57b0
                            try clear c58
                            try clear c58b0
                            try clear c59
                            try clear c59b0
                            try clear c60
                            try clear c60b0
                            try clear c61
                            try clear c61b0
                            try clear c61b1
                            try clear c62
                            try clear c62b0
                            try clear p64
                            try clear c66
                            try clear c66b0
                            try clear c67
                            try clear c67b0
                            try clear c69
                            try clear hcz46_0
                            try clear hcz46_1
                            try clear hcz63_0
                            try clear hcz63_1
                            try clear hcz64_0
                            try clear hcz64_1
                            try clear hfz46_0
                            try clear hfz46_1
                            try clear hfz63_0
                            try clear hfz63_1
                            try clear hfz64_0
                            try clear hfz64_1
                            try clear hx443_0
                            try clear hx460_0
                            try clear hx461_0
                            try clear hx462_0
                            try clear p2
                            try clear p4
                            try clear p44
                            try clear p443
                            try clear p46
                            try clear p460
                            try clear p461
                            try clear p462
                            try clear p6
                            try clear p64
                            try clear q4
                            try clear q44
                            try clear q443
                            try clear q46
                            try clear q460
                            try clear q461
                            try clear q462
                            obtain ⟨kq, x18_64, rfl, HA, HJ64, HO_7, HO_8, HO_13, BK439, HB⟩ := hcut
                            cases kq with
                            | zero => exact absurd HA.out (by simp [hcp.j10])
                            | succ kj64 =>
                             have H := HA.out
                             clear HA
                             simp only [hcp.j10] at H
                             by_cases c73 : x18_64 = (x7_5.length : Int)
                             ·rw [if_pos c73] at H
                              have c73b0 : (x18_64 == (x7_5.length : Int)) = true := beq_iff_eq.mpr c73
                              have c73b1 : (x18_64 != (x7_5.length : Int)) = false := bne_eq_false_iff_eq.mpr c73
                              clear c73
                              by_cases c74 : x7_5.length < 5864062014805
                              ·rw [if_pos c74] at H
                               have LMc74 := Aside0.mk c74
                               clear c74
                               obtain ⟨y464, hy464⟩ : ∃ y_ : List (List Int), y_ = (x7_5 ++ [t455]) := ⟨_, rfl⟩
                               replace H : (if x8_5.length < 17592186044416 then ((some (x8_5 ++ [0] : List Int)).bind fun y467 => (if 0 ≤ x18_64 then (if x18_64 < (y467.length : Int) then (hcp.l2 kj64 (l0_1.length : Int) t442 x6_4 y464 (y467.set (x18_64 : Int).toNat (wrap64 ((rd y467 x18_64) + 1))) x6_4 (wrap64 (x124_5 + 1)) l0_0 l0_1) else (none)) else (none))) else (none)) = some r := by first | (rw [hy464]; with_reducible exact H) | (have H2_ := (Option.bind_some _ _).symm.trans H; rw [hy464]; with_reducible exact H2_) | (have H2_ := (Option.bind_some _ _).symm.trans H; with_reducible exact H2_) | with_reducible exact H | (rw [hy464]; exact H) | exact H
                               have Ny464 := Aside0.mk hy464
                               clear hy464
                               by_cases c75 : x8_5.length < 17592186044416
                               ·rw [if_pos c75] at H
                                have LMc75 := Aside0.mk c75
                                clear c75
                                obtain ⟨y467, hy467⟩ : ∃ y_ : List Int, y_ = (x8_5 ++ [0]) := ⟨_, rfl⟩
                                replace H : (if 0 ≤ x18_64 then (if x18_64 < (y467.length : Int) then (hcp.l2 kj64 (l0_1.length : Int) t442 x6_4 y464 (y467.set (x18_64 : Int).toNat (wrap64 ((rd y467 x18_64) + 1))) x6_4 (wrap64 (x124_5 + 1)) l0_0 l0_1) else (none)) else (none)) = some r := by first | (rw [hy467]; with_reducible exact H) | (have H2_ := (Option.bind_some _ _).symm.trans H; rw [hy467]; with_reducible exact H2_) | (have H2_ := (Option.bind_some _ _).symm.trans H; with_reducible exact H2_) | with_reducible exact H | (rw [hy467]; exact H) | exact H
                                have Ny467 := Aside0.mk hy467
                                clear hy467
                                by_cases c76 : 0 ≤ x18_64
                                ·rw [if_pos c76] at H
                                 have c76b0 : decide (0 ≤ x18_64) = true := decide_eq_true c76
                                 clear c76
                                 by_cases c77 : x18_64 < (y467.length : Int)
                                 ·rw [if_pos c77] at H
                                  have c77b0 : decide (x18_64 < (y467.length : Int)) = true := decide_eq_true c77
                                  clear c77
                                  obtain ⟨y471, hy471⟩ : ∃ y_ : List Int, y_ = (y467.set (x18_64 : Int).toNat (wrap64 ((rd y467 x18_64) + 1))) := ⟨_, rfl⟩
                                  replace H : (hcp.l2 kj64 (l0_1.length : Int) t442 x6_4 y464 y471 x6_4 (wrap64 (x124_5 + 1)) l0_0 l0_1) = some r := by first | (rw [hy471]; with_reducible exact H) | (have H2_ := (Option.bind_some _ _).symm.trans H; rw [hy471]; with_reducible exact H2_) | (have H2_ := (Option.bind_some _ _).symm.trans H; with_reducible exact H2_) | with_reducible exact H | (rw [hy471]; exact H) | exact H
                                  have Ny471 := Aside0.mk hy471
                                  clear hy471
                                  as_aux_lemma =>
                                   have H' := Aside0.mk H
                                   clear H
                                   obtain ⟨Ao79, co79, eo79⟩ := Kd.S_slice HO_7.out
                                   subst eo79
                                   go_wp2_with (first | ((with_reducible refine gate_builtin (b := .append) (xs := #[.tmp 210, .tmp 212]) rfl ?_); (try (refine gate_guard (by rfl) ?_; dsimp only)); at_builtin; refine Kd.S_append (Kd.slice 3 (Kd.int .i64)) (w0 := w) w.heap.size rfl (.tmp 210) (.tmp 212) 66 60 (.slice none 0 0) 24 rfl Try.underlying66 info60 rfl (by decide) (by omega) (.slice Ao79 x7_5.length co79) x7_5 t455 [.slice Ao56 t455.length co56] (fun _ => True) (fun k_ => some k_ = (.slice Ao56 t455.length co56 : Value).ownBlock) rfl rfl ?aP (fun k_ hk_ => ((Kd.R_mono (ok' := fun k_ => ((fun _ => True)) k_ ∧ some k_ ≠ (.slice Ao79 x7_5.length co79 : Value).ownBlock) (Kd.R_apart' (HO_13.out) (Kd.S_typed HO_7.out) (by decide)) (fun k_ hk => ⟨trivial, hk.2⟩))).1 k_ hk_.symm) ?aF ?aO ?aB ?aS ?aL ?_; (case aP => exact Kd.M_row (Kd.R_mono (Kd.R_tight rfl (Kd.R_mono (ok' := fun k_ => ((fun _ => True)) k_ ∧ some k_ ≠ (.slice Ao79 x7_5.length co79 : Value).ownBlock) (Kd.R_apart' (HO_13.out) (Kd.S_typed HO_7.out) (by decide)) (fun k_ hk => ⟨trivial, hk.2⟩))) (fun _ h_ => h_))); (case aB => exact (by repeat (first | exact HB.out | apply pw_below_drewN | refine sb ?_ GE439))); (case aF => exact (fun _ _ => trivial)); (case aO => exact (by (with_reducible repeat (first | apply Kd.S_alloc | apply Kd.S_drewN | apply Kd.S_drew)); exact Kd.S_mono HO_7.out (fun k_ hk => ⟨trivial, fun e_ => hk e_⟩))); (case aS => exact (below_size (by repeat (first | exact HB.out | apply pw_below_drewN | refine sb ?_ GE439)))); (case aL => have := LMc74.out; omega); intro v465 w80 ho hb hg hat; rw [← Ny464.out] at ho; have HO466 := Aside0.mk (ho); replace HO_8 := Aside0.mk (Kd.R_over' (by (with_reducible repeat (first | apply Kd.R_alloc | apply Kd.R_drewN | apply Kd.R_drew)); exact HO_8.out) (Kd.S_typed (by (with_reducible repeat (first | apply Kd.S_alloc | apply Kd.S_drewN | apply Kd.S_drew)); exact HO_7.out)) (by decide) hg); replace BK439 := Aside0.mk (blk_grown (g := gb439) (o := .cells #[.slice (some ad441) l0_0.length c0_0, .slice A0_1 l0_1.length c0_1] 59 (0, 0)) BK439.out hg (Kd.S_ne HO_7.out BK439.out (by decide))); replace HB := Aside0.mk (hb); clear HO_7; clear HO_13; clear ho hb hg hat) | ((with_reducible refine gate_builtin (b := .append) (xs := #[.tmp 214, .tmp 215]) rfl ?_); (try (refine gate_guard (by rfl) ?_; dsimp only)); at_builtin; refine Kd.R_append (Kd.int .i64) (w0 := w) w.heap.size rfl (.tmp 214) (.tmp 215) 22 2 (.int .i64 0) 8 rfl Try.underlying22 info2 rfl (by decide) (by omega) u8 x8_5 0 [.int .i64 0] (fun _ => True) (fun _ => False) rfl rfl ?aP (fun _ hk => hk.elim) ?aF ?aO ?aB ?aS ?aL ?_; (case aP => exact rfl); (case aB => exact (by repeat (first | exact HB.out | apply pw_below_drewN | refine sb ?_ GE439))); (case aF => exact (fun _ _ => trivial)); (case aO => exact (by (with_reducible repeat (first | apply Kd.R_alloc | apply Kd.R_drewN | apply Kd.R_drew)); exact HO_8.out)); (case aS => exact (below_size (by repeat (first | exact HB.out | apply pw_below_drewN | refine sb ?_ GE439)))); (case aL => have := LMc75.out; omega); intro v468 w81 ho hb hg hat; rw [← Ny467.out] at ho; have HO469 := Aside0.mk (ho); replace BK439 := Aside0.mk (blk_grown (g := gb439) (o := .cells #[.slice (some ad441) l0_0.length c0_0, .slice A0_1 l0_1.length c0_1] 59 (0, 0)) BK439.out hg (Kd.R_ne HO_8.out BK439.out (by decide))); replace HO466 := Aside0.mk (Kd.S_over' (by (with_reducible repeat (first | apply Kd.S_alloc | apply Kd.S_drewN | apply Kd.S_drew)); exact HO466.out) (Kd.R_typed (by (with_reducible repeat (first | apply Kd.R_alloc | apply Kd.R_drewN | apply Kd.R_drew)); exact HO_8.out)) (by decide) hg); replace HB := Aside0.mk (hb); clear HO_8; clear ho hb hg hat; obtain ⟨Ao82, co82, eo82⟩ := Kd.R_slice HO469.out; subst eo82; have p470 : 0 ≤ (x18_64 : Int) := of_decide_eq_true (by first | (with_reducible assumption) | assumption); have q470 : x18_64 < (y467.length : Int) := of_decide_eq_true (by first | (with_reducible assumption) | assumption); obtain ⟨ad470, e470, hx470_0⟩ := Kd.at_int (Kd.R_reads' HO469.out).2.2 x18_64 p470 q470; cases e470; replace p470 := eq_true p470; replace q470 := eq_true q470; have p78 : 0 ≤ (x18_64 : Int) := of_decide_eq_true (by first | (with_reducible assumption) | assumption); have q78 : (x18_64 : Int) < ((y467.length : Int) : Int) := of_decide_eq_true (by first | (with_reducible assumption) | assumption); obtain ⟨go78, co78, eo78, gb78, gl78, cl78, HG78⟩ := Kd.R_form HO469.out (by omega); (first | cases eo78 | (injection eo78 with ea_ en_ ec_; (first | subst ea_ | (injection ea_ with ea_; subst ea_)); subst ec_; clear en_)); have GB78 := Aside0.mk gb78; have GG78 := Aside0.mk HG78; clear gb78 gl78 HG78; (first | simp only [add_plain] at hx470_0 | skip); obtain ⟨hx78_0, hf78_0⟩ := Kd.R_celln 0 HO469.out (x18_64 : Int) p78 q78; replace p78 := eq_true p78; replace q78 := eq_true q78; obtain ⟨hy83_, hz83_⟩ := Kd.R_celln 0 HO469.out (x18_64 : Int) (of_decide_eq_true (by first | (with_reducible assumption) | assumption)) (of_decide_eq_true (by first | (with_reducible assumption) | assumption)); have HP83 := Kd.R_putg HO469.out (x18_64 : Int) (wrap64 ((rd y467 x18_64) + 1))) | ((with_reducible refine gate_store (t := 2) (p := 222) rfl ?_); refine store_event (t := 2) (p := 222) (v := ?vo_w84) (w1 := (w81.setCell ⟨go78, (x18_64 : Int).toNat, none⟩ (.int .i64 (wrap64 ((rd y467 x18_64) + 1))))) ?hg ?ho ?hn ?hr ?_; (case ho => rfl); (case hg => rfl); (case hn => rfl); (case hr => first | (go_simp; done) | (go_simp; rfl)); intro w84 hw; have hg : w81.grownBy w84 (some go78) := (by rw [hw]; exact HP83.2); have hp_ : Kd.R (Kd.int .i64) 2 w84 w.heap.size (fun _ => True) (.slice (some ⟨go78, 0, none⟩) y467.length co82) y471 := (by rw [hw, Ny471.out]; exact HP83.1); clear HP83; replace BK439 := Aside0.mk (blk_grown (g := gb439) (o := .cells #[.slice (some ad441) l0_0.length c0_0, .slice A0_1 l0_1.length c0_1] 59 (0, 0)) BK439.out hg (Kd.R_ne HO469.out BK439.out (by decide))); replace HO466 := Aside0.mk (Kd.S_over' (v := (.slice (some ⟨go78, 0, none⟩) y467.length co82)) (by (with_reducible repeat (first | apply Kd.S_alloc | apply Kd.S_drewN | apply Kd.S_drew)); exact HO466.out) (Kd.R_typed HO469.out) (by decide) hg); replace HO469 := Aside0.mk (hp_); replace HB := Aside0.mk ((by rw [hw]; exact below_set (HB.out) GB78.out : Below w.heap.size w w84)); clear hg hw hp_))
                                   go_roundg kj64
                                   case measure => have := HJ3.out; have := HJ12.out; have := HK3.out; have := HK4.out; have := HK5.out; have := HK6.out; have := HJ44.out; have := HK8.out; have := HJ64.out; omega
                                   case rel => exact ⟨(y464), (y471), (wrap64 (x124_5 + 1)), (by first | rfl | (simp; done) | (simp [*]; done) | (simp [i64_w]; done) | (simp [*, i64_w]; done)), H', ⟨by have := HJ3.out; have := HJ12.out; have := HK3.out; have := HK4.out; have := HK5.out; have := HK6.out; have := HJ44.out; have := HK8.out; have := HJ64.out; omega⟩, ⟨by (with_reducible repeat (first | apply Kd.S_alloc | apply Kd.S_drewN | apply Kd.S_drew)); exact HO466.out⟩, ⟨by (with_reducible repeat (first | apply Kd.R_alloc | apply Kd.R_drewN | apply Kd.R_drew)); exact HO469.out⟩, ⟨by exact BK439.out⟩, ⟨by repeat (first | exact HB.out | apply pw_below_drewN | refine sb ?_ GE439)⟩⟩
                                 ·rw [if_neg c77] at H
                                  exact absurd H (by simp)
                                ·rw [if_neg c76] at H
                                 exact absurd H (by simp)
                               ·rw [if_neg c75] at H
                                exact absurd H (by simp)
                              ·rw [if_neg c74] at H
                               exact absurd H (by simp)
                             ·rw [if_neg c73] at H
                              have c73b0 : (x18_64 == (x7_5.length : Int)) = false := beq_eq_false_iff_ne.mpr c73
                              have c73b1 : (x18_64 != (x7_5.length : Int)) = true := bne_iff_ne.mpr c73
                              by_cases c85 : 0 ≤ x18_64
                              ·rw [if_pos c85] at H
                               have c85b0 : decide (0 ≤ x18_64) = true := decide_eq_true c85
                               clear c85
                               by_cases c86 : x18_64 < (x8_5.length : Int)
                               ·rw [if_pos c86] at H
                                have c86b0 : decide (x18_64 < (x8_5.length : Int)) = true := decide_eq_true c86
                                clear c86
                                obtain ⟨y473, hy473⟩ : ∃ y_ : List Int, y_ = (x8_5.set (x18_64 : Int).toNat (wrap64 ((rd x8_5 x18_64) + 1))) := ⟨_, rfl⟩
                                replace H : (hcp.l2 kj64 (l0_1.length : Int) t442 x6_4 x7_5 y473 x6_4 (wrap64 (x124_5 + 1)) l0_0 l0_1) = some r := by first | (rw [hy473]; with_reducible exact H) | (have H2_ := (Option.bind_some _ _).symm.trans H; rw [hy473]; with_reducible exact H2_) | (have H2_ := (Option.bind_some _ _).symm.trans H; with_reducible exact H2_) | with_reducible exact H | (rw [hy473]; exact H) | exact H
                                have Ny473 := Aside0.mk hy473
                                clear hy473
                                as_aux_lemma =>
                                 have H' := Aside0.mk H
                                 clear H
                                 obtain ⟨Ao88, co88, eo88⟩ := Kd.S_slice HO_7.out
                                 subst eo88
                                 obtain ⟨Ao89, co89, eo89⟩ := Kd.R_slice HO_8.out
                                 subst eo89
                                 have p472 : 0 ≤ (x18_64 : Int) := of_decide_eq_true (by first | (with_reducible assumption) | assumption)
                                 have q472 : x18_64 < (x8_5.length : Int) := of_decide_eq_true (by first | (with_reducible assumption) | assumption)
                                 obtain ⟨ad472, e472, hx472_0⟩ := Kd.at_int (Kd.R_reads' HO_8.out).2.2 x18_64 p472 q472
                                 cases e472
                                 replace p472 := eq_true p472
                                 replace q472 := eq_true q472
                                 have p87 : 0 ≤ (x18_64 : Int) := of_decide_eq_true (by first | (with_reducible assumption) | assumption)
                                 have q87 : (x18_64 : Int) < ((x8_5.length : Int) : Int) := of_decide_eq_true (by first | (with_reducible assumption) | assumption)
                                 obtain ⟨go87, co87, eo87, gb87, gl87, cl87, HG87⟩ := Kd.R_form HO_8.out (by omega)
                                 (first | cases eo87 | (injection eo87 with ea_ en_ ec_; (first | subst ea_ | (injection ea_ with ea_; subst ea_)); subst ec_; clear en_))
                                 have GB87 := Aside0.mk gb87
                                 have GG87 := Aside0.mk HG87
                                 clear gb87 gl87 HG87
                                 (first | simp only [add_plain] at hx472_0 | skip)
                                 obtain ⟨hx87_0, hf87_0⟩ := Kd.R_celln 0 HO_8.out (x18_64 : Int) p87 q87
                                 replace p87 := eq_true p87
                                 replace q87 := eq_true q87
                                 have HP90 := Kd.R_putg HO_8.out (x18_64 : Int) (wrap64 ((rd x8_5 x18_64) + 1))
                                 go_wp2_with (first | ((with_reducible refine gate_store (t := 2) (p := 222) rfl ?_); refine store_event (t := 2) (p := 222) (v := ?vo_w91) (w1 := (wc.setCell ⟨go87, (x18_64 : Int).toNat, none⟩ (.int .i64 (wrap64 ((rd x8_5 x18_64) + 1))))) ?hg ?ho ?hn ?hr ?_; (case ho => rfl); (case hg => rfl); (case hn => rfl); (case hr => first | (go_simp; done) | (go_simp; rfl)); intro w91 hw; have hg : wc.grownBy w91 (some go87) := (by rw [hw]; exact HP90.2); have hp_ : Kd.R (Kd.int .i64) 2 w91 w.heap.size (fun _ => True) (.slice (some ⟨go87, 0, none⟩) x8_5.length co89) y473 := (by rw [hw, Ny473.out]; exact HP90.1); clear HP90; replace HO_7 := Aside0.mk (Kd.S_over' (v := (.slice (some ⟨go87, 0, none⟩) x8_5.length co89)) (by (with_reducible repeat (first | apply Kd.S_alloc | apply Kd.S_drewN | apply Kd.S_drew)); exact HO_7.out) (Kd.R_typed HO_8.out) (by decide) hg); replace HO_13 := Aside0.mk (Kd.R_over' (v := (.slice (some ⟨go87, 0, none⟩) x8_5.length co89)) (by (with_reducible repeat (first | apply Kd.R_alloc | apply Kd.R_drewN | apply Kd.R_drew)); exact HO_13.out) (Kd.R_typed HO_8.out) (by decide) hg); replace BK439 := Aside0.mk (blk_grown (g := gb439) (o := .cells #[.slice (some ad441) l0_0.length c0_0, .slice A0_1 l0_1.length c0_1] 59 (0, 0)) BK439.out hg (Kd.R_ne HO_8.out BK439.out (by decide))); replace HO_8 := Aside0.mk (hp_); replace HB := Aside0.mk ((by rw [hw]; exact below_set (HB.out) GB87.out : Below w.heap.size w w91)); clear hg hw hp_))
                                 go_roundg kj64
                                 case measure => have := HJ3.out; have := HJ12.out; have := HK3.out; have := HK4.out; have := HK5.out; have := HK6.out; have := HJ44.out; have := HK8.out; have := HJ64.out; omega
                                 case rel => exact ⟨(x7_5), (y473), (wrap64 (x124_5 + 1)), (by first | rfl | (simp; done) | (simp [*]; done) | (simp [i64_w]; done) | (simp [*, i64_w]; done)), H', ⟨by have := HJ3.out; have := HJ12.out; have := HK3.out; have := HK4.out; have := HK5.out; have := HK6.out; have := HJ44.out; have := HK8.out; have := HJ64.out; omega⟩, ⟨by (with_reducible repeat (first | apply Kd.S_alloc | apply Kd.S_drewN | apply Kd.S_drew)); exact Kd.S_mono HO_7.out (fun _ hk => trivial)⟩, ⟨by (with_reducible repeat (first | apply Kd.R_alloc | apply Kd.R_drewN | apply Kd.R_drew)); exact HO_8.out⟩, ⟨by exact BK439.out⟩, ⟨by repeat (first | exact HB.out | apply pw_below_drewN | refine sb ?_ GE439)⟩⟩
                               ·rw [if_neg c86] at H
                                exact absurd H (by simp)
                              ·rw [if_neg c85] at H
                               exact absurd H (by simp)
                 ·rw [if_neg c39] at H
                  have c39b0 : decide (x124_5 < x6_4) = false := decide_eq_false c39
                  clear c39
                  have H' := Aside0.mk H
                  clear H
                  obtain ⟨Ao92, co92, eo92⟩ := Kd.S_slice HO_7.out
                  subst eo92
                  go_wp2
                  go_loopg [226] k5 (fun kq v226 w' => ∃ (x226_6 : Int), v226 = .int .i64 x226_6 ∧ Aside0 (hcp.l6 kq t442 x6_4 x7_5 x8_5 x7_5 (x7_5.length : Int) x226_6 l0_0 l0_1 = some r) ∧ Aside0 (kq ≤ k5) ∧ Aside0 (Kd.S (Kd.slice 3 (Kd.int .i64)) 60 w' w.heap.size (fun _ => True) (.slice Ao92 x7_5.length co92) x7_5) ∧ Aside0 (Kd.R (Kd.int .i64) 2 w' w.heap.size (fun _ => True) u8 x8_5) ∧ Aside0 (Kd.S (Kd.slice 3 (Kd.int .i64)) 60 w' w.heap.size (fun _ => True) (.slice Ao92 x7_5.length co92) x7_5) ∧ Aside0 (w'.heap[gb439]? = some (.cells #[(.slice (some ad441) l0_0.length c0_0), (.slice A0_1 l0_1.length c0_1)] 59 (0, 0))) ∧ Aside0 (Below w.heap.size w w'))
                  case atStart => exact ⟨(0), (by first | rfl | (simp; done) | (simp [*]; done) | (simp [i64_w]; done) | (simp [*, i64_w]; done)), H', ⟨Nat.le_refl _⟩, ⟨by (with_reducible repeat (first | apply Kd.S_alloc | apply Kd.S_drewN | apply Kd.S_drew)); exact HO_7.out⟩, ⟨by (with_reducible repeat (first | apply Kd.R_alloc | apply Kd.R_drewN | apply Kd.R_drew)); exact HO_8.out⟩, ⟨by (with_reducible repeat (first | apply Kd.S_alloc | apply Kd.S_drewN | apply Kd.S_drew)); exact HO_7.out⟩, ⟨by exact BK439.out⟩, ⟨by repeat (first | exact HB.out | apply pw_below_drewN | refine sb ?_ GE439)⟩⟩
                  case round =>
                   clear H'
                   try clear c1
                   try clear c2
                   try clear p2
                   try clear c3
                   try clear c4
                   try clear p4
                   try clear q4
                   try clear hx4
                   try clear qi4
                   try clear c5
                   try clear c6
                   try clear p6
                   try clear c7
                   try clear p7
                   try clear q7
                   try clear hx7
                   try clear hf7
                   try clear c8
                   try clear p8
                   try clear q8
                   try clear hx8
                   try clear hf8
                   try clear c15
                   try clear c18
                   try clear c18b0
                   try clear c20
                   try clear c21
                   try clear c23
                   try clear c23b0
                   try clear c23b1
                   try clear c26
                   try clear c31
                   try clear c37
                   try clear c38
                   try clear c38b0
                   try clear c39
                   try clear c39b0
                   try clear c40
                   try clear c40b0
                   try clear c41
                   try clear c41b0
                   try clear c41b1
                   try clear c42
                   try clear c44
                   try clear p44
                   try clear q44
                   try clear hx44
                   try clear c46
                   try clear p46
                   try clear q46
                   try clear hx46
                   try clear qi46
                   try clear p47
                   try clear q47
                   try clear hx47
                   try clear c49
                   try clear c49b0
                   try clear c49b1
                   try clear c50
                   try clear c50b0
                   try clear c50b1
                   try clear c52
                   try clear c52b0
                   try clear c55
                   try clear c57
                   try clear c57b0
                   try clear c58
                   try clear c58b0
                   try clear c59
                   try clear c59b0
                   try clear c60
                   try clear c60b0
                   try clear c61
                   try clear c61b0
                   try clear c61b1
                   try clear c62
                   try clear c62b0
                   try clear p64
                   try clear c66
                   try clear c66b0
                   try clear c67
                   try clear c67b0
                   try clear c69
                   try clear c73
                   try clear c73b0
                   try clear c73b1
                   try clear c74
                   try clear c75
                   try clear c76
                   try clear c76b0
                   try clear c77
                   try clear c77b0
                   try clear p78
                   try clear q78
                   try clear hx78
                   try clear hf78
                   try clear c85
                   try clear c85b0
                   try clear c86
                   try clear c86b0
                   try clear p87
                   try clear q87
                   try clear hx87
                   try clear hf87
                   try clear hcz46_0
                   try clear hcz46_1
                   try clear hcz63_0
                   try clear hcz63_1
                   try clear hcz64_0
                   try clear hcz64_1
                   try clear hfz46_0
                   try clear hfz46_1
                   try clear hfz63_0
                   try clear hfz63_1
                   try clear hfz64_0
                   try clear hfz64_1
                   try clear hx443_0
                   try clear hx460_0
                   try clear hx461_0
                   try clear hx462_0
                   try clear hx470_0
                   try clear hx472_0
                   try clear hx78_0
                   try clear hx87_0
                   try clear p2
                   try clear p4
                   try clear p44
                   try clear p443
                   try clear p46
                   try clear p460
                   try clear p461
                   try clear p462
                   try clear p470
                   try clear p472
                   try clear p6
                   try clear p64
                   try clear p78
                   try clear p87
                   try clear q4
                   try clear q44
                   try clear q443
                   try clear q46
                   try clear q460
                   try clear q461
                   try clear q462
                   try clear q470
                   try clear q472
                   try clear q78
                   try clear q87
                   obtain ⟨x226_6, rfl, HA, HK6, HO_7, HO_8, HO_224, BK439, HB⟩ := hrel
                   cases gk with
                   | zero => exact absurd HA.out (by simp [hcp.l6])
                   | succ k6 =>
                    have H := HA.out
                    clear HA
                    simp only [hcp.l6] at H
                    by_cases c93 : x226_6 < (x7_5.length : Int)
                    ·rw [if_pos c93] at H
                     have c93b0 : decide (x226_6 < (x7_5.length : Int)) = true := decide_eq_true c93
                     clear c93
                     by_cases c94 : 0 ≤ x226_6
                     ·rw [if_pos c94] at H
                      have c94b0 : decide (0 ≤ x226_6) = true := decide_eq_true c94
                      clear c94
                      by_cases c95 : x226_6 < (x7_5.length : Int)
                      ·rw [if_pos c95] at H
                       have c95b0 : decide (x226_6 < (x7_5.length : Int)) = true := decide_eq_true c95
                       clear c95
                       have H' := Aside0.mk H
                       clear H
                       have p474 : 0 ≤ (x226_6 : Int) := of_decide_eq_true (by first | (with_reducible assumption) | assumption)
                       have q474 : x226_6 < (x7_5.length : Int) := of_decide_eq_true (by first | (with_reducible assumption) | assumption)
                       obtain ⟨ad474, A474_0, c474_0, e474, hx474_0, hl474_0, hi474_0⟩ := at_L4 (Kd.S_reads' HO_224.out).2.2 x226_6 p474 q474
                       cases e474
                       obtain ⟨ce474, hce474, hMe474, hcc474⟩ := Kd.S_get HO_224.out [] x226_6 p474 (by first | exact q474 | exact of_decide_eq_true (by first | (with_reducible assumption) | assumption) | (have e_ := (Kd.S_reads' HO_224.out).1; omega))
                       obtain ⟨ve474_0, rfl, ge474_0⟩ := hMe474
                       have hv474_0 := hcc474 0 _ rfl
                       rw [Nat.add_zero, show ((Kd.slice 3 (Kd.int .i64))).sz = 1 from rfl, Nat.mul_one] at hv474_0
                       replace hv474_0 := Option.some.inj (hv474_0.symm.trans hx474_0)
                       rw [hv474_0] at ge474_0
                       have HL474_0 := Aside0.mk (show Kd.R (Kd.int .i64) 3 _ _ _ _ (rd_L4 x7_5 x226_6) from ge474_0)
                       clear hv474_0 ge474_0
                       clear hcc474 hce474
                       have HR474_0 := Aside0.mk hi474_0
                       have HC474_0 := Aside0.mk hl474_0
                       clear hi474_0 hl474_0
                       replace p474 := eq_true p474
                       replace q474 := eq_true q474
                       go_wp2
                       go_loopg [21] k6 (fun kq v21 w' => ∃ (x21_7 : Int), v21 = .int .i64 x21_7 ∧ Aside0 (hcp.l7 kq t442 x6_4 x7_5 x8_5 (rd_L4 x7_5 x226_6) x21_7 x7_5 (x7_5.length : Int) x226_6 l0_0 l0_1 = some r) ∧ Aside0 (kq ≤ k6) ∧ Aside0 (Kd.S (Kd.slice 3 (Kd.int .i64)) 60 w' w.heap.size (fun _ => True) (.slice (some ad474) x7_5.length co92) x7_5) ∧ Aside0 (Kd.R (Kd.int .i64) 2 w' w.heap.size (fun _ => True) u8 x8_5) ∧ Aside0 (Kd.S (Kd.slice 3 (Kd.int .i64)) 60 w' w.heap.size (fun _ => True) (.slice (some ad474) x7_5.length co92) x7_5) ∧ Aside0 (w'.heap[gb439]? = some (.cells #[(.slice (some ad441) l0_0.length c0_0), (.slice A0_1 l0_1.length c0_1)] 59 (0, 0))) ∧ Aside0 (Kd.C (Kd.int .i64) w' A474_0 (rd_L4 x7_5 x226_6).length (rd_L4 x7_5 x226_6)) ∧ Aside0 (Below w.heap.size w w'))
                       case atStart => exact ⟨(1), (by first | rfl | (simp; done) | (simp [*]; done) | (simp [i64_w]; done) | (simp [*, i64_w]; done)), H', ⟨Nat.le_refl _⟩, ⟨by (with_reducible repeat (first | apply Kd.S_alloc | apply Kd.S_drewN | apply Kd.S_drew)); exact HO_7.out⟩, ⟨by (with_reducible repeat (first | apply Kd.R_alloc | apply Kd.R_drewN | apply Kd.R_drew)); exact HO_8.out⟩, ⟨by (with_reducible repeat (first | apply Kd.S_alloc | apply Kd.S_drewN | apply Kd.S_drew)); exact HO_224.out⟩, ⟨by exact BK439.out⟩, ⟨by repeat (first | (with_reducible exact HR474_0.out) | (with_reducible refine Kd.C_alloc ?_ _) | (with_reducible refine Kd.C_drewN ?_ _) | (with_reducible refine Kd.C_drew ?_) | exact HR474_0.out)⟩, ⟨by repeat (first | exact HB.out | apply pw_below_drewN | refine sb ?_ GE439)⟩⟩
                       case round =>
                        clear H'
                        try clear c1
                        try clear c2
                        try clear p2
                        try clear c3
                        try clear c4
                        try clear p4
                        try clear q4
                        try clear hx4
                        try clear qi4
                        try clear c5
                        try clear c6
                        try clear p6
                        try clear c7
                        try clear p7
                        try clear q7
                        try clear hx7
                        try clear hf7
                        try clear c8
                        try clear p8
                        try clear q8
                        try clear hx8
                        try clear hf8
                        try clear c9
                        try clear c15
                        try clear c18
                        try clear c18b0
                        try clear c20
                        try clear c21
                        try clear c23
                        try clear c23b0
                        try clear c23b1
                        try clear c26
                        try clear c31
                        try clear c37
                        try clear c38
                        try clear c38b0
                        try clear c39
                        try clear c39b0
                        try clear c40
                        try clear c40b0
                        try clear c41
                        try clear c41b0
                        try clear c41b1
                        try clear c42
                        try clear c44
                        try clear p44
                        try clear q44
                        try clear hx44
                        try clear c46
                        try clear p46
                        try clear q46
                        try clear hx46
                        try clear qi46
                        try clear c47
                        try clear p47
                        try clear q47
                        try clear hx47
                        try clear c49
                        try clear c49b0
                        try clear c49b1
                        try clear c50
                        try clear c50b0
                        try clear c50b1
                        try clear c52
                        try clear c52b0
                        try clear c55
                        try clear c57
                        try clear c57b0
                        try clear c58
                        try clear c58b0
                        try clear c59
                        try clear c59b0
                        try clear c60
                        try clear c60b0
                        try clear c61
                        try clear c61b0
                        try clear c61b1
                        try clear c62
                        try clear c62b0
                        try clear p64
                        try clear c66
                        try clear c66b0
                        try clear c67
                        try clear c67b0
                        try clear c69
                        try clear c73
                        try clear c73b0
                        try clear c73b1
                        try clear c74
                        try clear c75
                        try clear c76
                        try clear c76b0
                        try clear c77
                        try clear c77b0
                        try clear p78
                        try clear q78
                        try clear hx78
                        try clear hf78
                        try clear c85
                        try clear c85b0
                        try clear c86
                        try clear c86b0
                        try clear p87
                        try clear q87
                        try clear hx87
                        try clear hf87
                        try clear c93
                        try clear c93b0
                        try clear c94
                        try clear c94b0
                        try clear c95
                        try clear c95b0
                        try clear hcz46_0
                        try clear hcz46_1
                        try clear hcz63_0
                        try clear hcz63_1
                        try clear hcz64_0
                        try clear hcz64_1
                        try clear hfz46_0
                        try clear hfz46_1
                        try clear hfz63_0
                        try clear hfz63_1
                        try clear hfz64_0
                        try clear hfz64_1
                        try clear hx443_0
                        try clear hx460_0
                        try clear hx461_0
                        try clear hx462_0
                        try clear hx470_0
                        try clear hx472_0
                        try clear hx474_0
                        try clear hx78_0
                        try clear hx87_0
                        try clear p2
                        try clear p4
                        try clear p44
                        try clear p443
                        try clear p46
                        try clear p460
                        try clear p461
                        try clear p462
                        try clear p47
                        try clear p470
                        try clear p472
                        try clear p474
                        try clear p6
                        try clear p64
                        try clear p7
                        try clear p78
                        try clear p8
                        try clear p87
                        try clear q4
                        try clear q44
                        try clear q443
                        try clear q46
                        try clear q460
                        try clear q461
                        try clear q462
                        try clear q47
                        try clear q470
                        try clear q472
                        try clear q474
                        try clear q7
                        try clear q78
                        try clear q8
                        try clear q87
                        obtain ⟨x21_7, rfl, HA, HK7, HO_7, HO_8, HO_224, BK439, HR474_0, HB⟩ := hrel
                        cases gk with
                        | zero => exact absurd HA.out (by simp [hcp.l7])
                        | succ k7 =>
                         have H := HA.out
                         clear HA
                         simp only [hcp.l7] at H
                         by_cases c96 : x21_7 ≤ ((rd_L4 x7_5 x226_6).length : Int)
                         ·rw [if_pos c96] at H
                          have c96b0 : decide (x21_7 ≤ ((rd_L4 x7_5 x226_6).length : Int)) = true := decide_eq_true c96
                          clear c96
                          by_cases c97 : 0 ≤ x21_7
                          ·rw [if_pos c97] at H
                           have c97b0 := eq_true c97
                           have c97b1 : decide (0 ≤ x21_7) = true := decide_eq_true c97
                           clear c97
                           have c98b0 := eq_true (of_decide_eq_true (by first | (with_reducible assumption) | assumption) : x21_7 ≤ ((rd_L4 x7_5 x226_6).length : Int))
                           replace H := Option.bind_eq_some_iff.mp H
                           obtain ⟨t476, A990, H⟩ := H
                           replace H : (if t476 = true then (hcp.l7 k7 t442 x6_4 x7_5 x8_5 (rd_L4 x7_5 x226_6) (wrap64 (x21_7 + 1)) x7_5 (x7_5.length : Int) x226_6 l0_0 l0_1) else (some false)) = some r := H
                           have A99 := Aside0.mk A990
                           clear A990
                           by_cases c100 : t476 = true
                           ·subst c100
                            have H1 : (hcp.l7 k7 t442 x6_4 x7_5 x8_5 (rd_L4 x7_5 x226_6) (wrap64 (x21_7 + 1)) x7_5 (x7_5.length : Int) x226_6 l0_0 l0_1) = some r := by rw [if_pos rfl] at H; exact H
                            clear H
                            have H := H1
                            clear H1
                            as_aux_lemma =>
                             have H' := Aside0.mk H
                             clear H
                             try go_wp2
                             replace HO_7 := Aside0.mk (Kd.S_drew HO_7.out)
                             replace HO_8 := Aside0.mk (Kd.R_drew HO_8.out)
                             replace HO_224 := Aside0.mk (Kd.S_drew HO_224.out)
                             replace BK439 := Aside0.mk (blk_drew BK439.out)
                             replace HR474_0 := Aside0.mk (Kd.C_drew HR474_0.out)
                             replace HB := Aside0.mk (below_drew1 HB.out)
                             obtain ⟨i0102, hi0102, _, hsz102, _⟩ := info_parts info3
                             obtain ⟨hcut102, hA102, hC102⟩ := print_take_of (P := Try.prog) (Value.int .i64) 0 60 3 .i64 Try.underlying60 hi0102 hsz102 A474_0 c474_0 (rd_L4 x7_5 x226_6) x21_7 (of_decide_eq_true (by first | (with_reducible assumption) | assumption)) (of_decide_eq_true (by first | (with_reducible assumption) | assumption)) HC474_0.out
                             have HR475 := Aside0.mk (Kd.C_of_reads (h1 := fun _ => rfl) (hA102 _ (Kd.reads_of_C HR474_0.out)))
                             have HC475 := Aside0.mk hC102
                             clear hA102 hC102 hi0102 hsz102
                             obtain ⟨tk102, htk102⟩ : ∃ t_, (rd_L4 x7_5 x226_6).take (x21_7 : Int).toNat = t_ := ⟨_, rfl⟩
                             rw [htk102] at hcut102 HR475 HC475
                             (try rw [htk102] at A102)
                             (try simp only [htk102] at *)
                             clear htk102
                             obtain ⟨Ao103, co103, eo103⟩ := Kd.R_slice HO_8.out
                             (first | subst eo103 | (injection eo103 with f1_ f2_ f3_; have f4_ := f1_.symm; have f5_ := f3_.symm; clear f1_ f2_ f3_; subst f4_; subst f5_))
                             refine start_ (n := 10) (S := fun w' => w'.cell? ⟨gb439, 0, none⟩ = some (.slice (some ad441) l0_0.length c0_0) ∧ w'.cell? ⟨gb439, 1, none⟩ = some (.slice A0_1 l0_1.length c0_1)) (ds := []) bm77 (by kernel_rfl) rfl rfl ⟨(blk_cell BK439.out 0).trans rfl, (blk_cell BK439.out 1).trans rfl⟩ (fun hHeld => ?_); refine with_tabW hcp.tab53 hcp.bits53 (fun HT_ HW_ => ?_)
                             generalize wr.drew = w101 at HO_7 HO_8 HO_224 BK439 HR474_0 HB HR475 hHeld ⊢
                             refine pu HT_ (i := 0) (N := some 236) (v := ?_) (a' := ?_) bm78 rfl rfl (by kernel_rfl) (fun _ _ _ h => h) (by rfl) ?_ ?_ ?_
                             rotate_left;(·intro w';go_simp;with_reducible rfl);rotate_left;(·simp only [Act.put, sa, sz, ss, i64_w, i32_w];rfl)
                             refine pu HT_ (i := 1) (N := some 237) (v := ?_) (a' := ?_) bm79 rfl rfl (by kernel_rfl) (fun _ _ _ h => h) (by rfl) ?_ ?_ ?_
                             rotate_left;(·intro w';go_simp;with_reducible rfl);rotate_left;(·simp only [Act.put, sa, sz, ss, i64_w, i32_w];rfl)
                             refine pu HT_ (i := 3) (N := some 239) (v := ?_) (a' := ?_) bm80 rfl rfl (by kernel_rfl) (fun _ _ _ h => h) (by rfl) ?_ ?_ ?_
                             rotate_left;(·intro w';go_simp;with_reducible rfl);rotate_left;(·simp only [Act.put, sa, sz, ss, i64_w, i32_w];rfl)
                             refine pu HT_ (i := 4) (N := some 240) (v := ?_) (a' := ?_) bm81 rfl rfl (by kernel_rfl) (fun _ _ _ h => h) (by rfl) ?_ ?_ ?_
                             rotate_left;(·intro w';go_simp;with_reducible rfl);rotate_left;(·simp only [Act.put, sa, sz, ss, i64_w, i32_w];rfl)
                             refine pu HT_ (i := 5) (N := some 241) (v := ?_) (a' := ?_) bm82 rfl rfl (by kernel_rfl) (fun _ _ _ h => h) (by rfl) ?_ ?_ ?_
                             rotate_left;(·intro w';go_simp;with_reducible rfl);rotate_left;(·simp only [Act.put, sa, sz, ss, i64_w, i32_w];rfl)
                             refine pu HT_ (i := 6) (N := some 242) (v := ?_) (a' := ?_) bm83 rfl rfl (by kernel_rfl) (fun _ _ _ h => h) (by rfl) ?_ ?_ ?_
                             rotate_left;(·intro w';go_simp;with_reducible rfl);rotate_left;(·simp only [Act.put, sa, sz, ss, i64_w, i32_w];rfl)
                             refine pu HT_ (i := 7) (N := some 243) (v := ?_) (a' := ?_) bm84 rfl rfl (by kernel_rfl) (fun _ _ _ h => h) (by rfl) ?_ ?_ ?_
                             rotate_left;(·intro w';go_simp;with_reducible rfl);rotate_left;(·simp only [Act.put, sa, sz, ss, i64_w, i32_w];rfl)
                             refine take_ (i := 2) (N := some 238) (v := ?_) (a' := ?_) bm85 rfl rfl (take_ofW HT_.out HW_.out (by kernel_rfl)) (fun _ _ _ h => h) (Or.inl ⟨by rfl, ?_⟩) hHeld ?_ ?_
                             rotate_left;(·rintro w' ⟨s0, s1⟩;go_simp;with_reducible rfl);rotate_left;(·simp only [Act.put, sa, sz, ss, i64_w, i32_w];rfl)
                             refine one_ (i := 8) (N := some 244) bm86 rfl rfl (one_of HT_.out (by kernel_rfl)) (by decide) (fun K hK => ?_)
                             refine goes_ Try.func34 (by kernel_rfl) rfl #[.slice (some ad474) x7_5.length co92, .slice Ao103 x8_5.length co103, .agg #[.slice (some ad441) l0_0.length c0_0, .slice A0_1 l0_1.length c0_1], .slice A474_0 tk102.length c474_0, .int .i64 x6_4, .int .i64 t442] (by rfl) rfl rfl (by (try simp only [List.map_toArray, List.map_cons, List.map_nil]); first | done | (rw [show tk102.length = x21_7.toNat from (by rw [List.length_take]; have h_ : (x21_7 : Int) ≤ ((rd_L4 x7_5 x226_6).length : Int) := of_decide_eq_true (by first | (with_reducible assumption) | assumption); omega)] <;> rfl) | rfl | (simp only [List.length_drop, List.length_take]; rfl)) ?_
                             with_reducible refine (heraldlaw24_exact.calls k7 _ _ x7_5 _ _ x8_5 _ _ l0_0 _ _ l0_1 _ _ _ x6_4 t442 true _ ?side1 ?side2 ?side3 ?side4 ?side5 ?side6 ?side7 ?side8 ?side9 ?side10 A99.out).mono ?_
                             (case side1 => repeat (first | exact (Kd.S_reads' HO_7.out).2.2 | (with_reducible refine Kd.C_alloc ?_ _) | (with_reducible refine Kd.C_drewN ?_ _) | (with_reducible refine Kd.C_drew ?_)))
                             (case side2 => exact (Kd.S_reads' HO_7.out).2.1)
                             (case side3 => repeat (first | exact (Kd.R_reads' HO_8.out).2.2 | (with_reducible refine Kd.C_alloc ?_ _) | (with_reducible refine Kd.C_drewN ?_ _) | (with_reducible refine Kd.C_drew ?_)))
                             (case side4 => exact (Kd.R_reads' HO_8.out).2.1)
                             (case side5 => repeat (first | exact (Kd.C_below HR0_0.out HB.out) | (with_reducible refine Kd.C_alloc ?_ _) | (with_reducible refine Kd.C_drewN ?_ _) | (with_reducible refine Kd.C_drew ?_)))
                             (case side6 => exact HC0_0.out)
                             (case side7 => repeat (first | exact (Kd.C_below HR0_1.out HB.out) | (with_reducible refine Kd.C_alloc ?_ _) | (with_reducible refine Kd.C_drewN ?_ _) | (with_reducible refine Kd.C_drew ?_)))
                             (case side8 => exact HC0_1.out)
                             (case side9 => repeat (first | exact HR475.out | exact (Kd.C_below HR475.out HB.out) | (with_reducible refine Kd.C_alloc ?_ _) | (with_reducible refine Kd.C_drewN ?_ _) | (with_reducible refine Kd.C_drew ?_)))
                             (case side10 => exact HC475.out)
                             rintro e w104 ⟨rfl, hb⟩
                             refine ⟨_, rfl, ?_⟩
                             replace HO_7 := Aside0.mk (Kd.S_below (by (with_reducible repeat (first | apply Kd.S_alloc | apply Kd.S_drewN | apply Kd.S_drew)); exact HO_7.out) hb)
                             replace HO_8 := Aside0.mk (Kd.R_below (by (with_reducible repeat (first | apply Kd.R_alloc | apply Kd.R_drewN | apply Kd.R_drew)); exact HO_8.out) hb)
                             replace HO_224 := Aside0.mk (Kd.S_below (by (with_reducible repeat (first | apply Kd.S_alloc | apply Kd.S_drewN | apply Kd.S_drew)); exact HO_224.out) hb)
                             replace BK439 := bb BK439 hb
                             replace HR474_0 := Aside0.mk (Kd.C_below (by repeat (first | (with_reducible exact HR474_0.out) | (with_reducible refine Kd.C_alloc ?_ _) | (with_reducible refine Kd.C_drewN ?_ _) | (with_reducible refine Kd.C_drew ?_) | exact HR474_0.out)) hb)
                             replace HB := Aside0.mk (below_step (by repeat (first | exact HB.out | apply pw_below_drewN | refine sb ?_ GE439)) hb)
                             (try clear hb)
                             (try clear hb2)
                             (try clear hk)
                             (try clear hi)
                             refine hK.out _ _ ⟨(blk_cell BK439.out 0).trans rfl, (blk_cell BK439.out 1).trans rfl⟩ (fun hHeld => ?_)
                             clear hK K
                             refine norm_ (a' := ?_) ?_ ?_
                             rotate_left;(·show Act.put _ (some 244) _ = _;simp only [Act.put, sa, sz, ss, i64_w, i32_w];rfl)
                             refine pu HT_ (i := 9) (N := some 245) (v := ?_) (a' := ?_) bm87 rfl rfl (by kernel_rfl) (fun _ _ _ h => h) (by rfl) ?_ ?_ ?_
                             rotate_left;(·intro w';go_simp;with_reducible rfl);rotate_left;(·simp only [Act.put, sa, sz, ss, i64_w, i32_w];rfl)
                             refine done_ (done_of HT_.out (by kernel_rfl)) ?_
                             try go_wp2
                             go_roundg k7
                             case measure => have := HJ3.out; have := HJ12.out; have := HK3.out; have := HK4.out; have := HK5.out; have := HK6.out; have := HK7.out; omega
                             case rel => exact ⟨(wrap64 (x21_7 + 1)), (by first | rfl | (simp; done) | (simp [*]; done) | (simp [i64_w]; done) | (simp [*, i64_w]; done)), H', ⟨by have := HJ3.out; have := HJ12.out; have := HK3.out; have := HK4.out; have := HK5.out; have := HK6.out; have := HK7.out; omega⟩, ⟨by (with_reducible repeat (first | apply Kd.S_alloc | apply Kd.S_drewN | apply Kd.S_drew)); exact HO_7.out⟩, ⟨by (with_reducible repeat (first | apply Kd.R_alloc | apply Kd.R_drewN | apply Kd.R_drew)); exact HO_8.out⟩, ⟨by (with_reducible repeat (first | apply Kd.S_alloc | apply Kd.S_drewN | apply Kd.S_drew)); exact HO_224.out⟩, ⟨by exact BK439.out⟩, ⟨by repeat (first | (with_reducible exact HR474_0.out) | (with_reducible refine Kd.C_alloc ?_ _) | (with_reducible refine Kd.C_drewN ?_ _) | (with_reducible refine Kd.C_drew ?_) | exact HR474_0.out)⟩, ⟨by repeat (first | exact HB.out | apply pw_below_drewN | refine sb ?_ GE439)⟩⟩
                           ·replace c100 := Bool.eq_false_iff.mpr c100
                            subst c100
                            have H1 : (some false) = some r := by rw [if_neg (show ¬ (false = true) by decide)] at H; exact H
                            clear H
                            have H := H1
                            clear H1
                            as_aux_lemma =>
                             obtain rfl := Option.some.inj H
                             try go_wp2
                             replace HO_7 := Aside0.mk (Kd.S_drew HO_7.out)
                             replace HO_8 := Aside0.mk (Kd.R_drew HO_8.out)
                             replace HO_224 := Aside0.mk (Kd.S_drew HO_224.out)
                             replace BK439 := Aside0.mk (blk_drew BK439.out)
                             replace HR474_0 := Aside0.mk (Kd.C_drew HR474_0.out)
                             replace HB := Aside0.mk (below_drew1 HB.out)
                             obtain ⟨i0106, hi0106, _, hsz106, _⟩ := info_parts info3
                             obtain ⟨hcut106, hA106, hC106⟩ := print_take_of (P := Try.prog) (Value.int .i64) 0 60 3 .i64 Try.underlying60 hi0106 hsz106 A474_0 c474_0 (rd_L4 x7_5 x226_6) x21_7 (of_decide_eq_true (by first | (with_reducible assumption) | assumption)) (of_decide_eq_true (by first | (with_reducible assumption) | assumption)) HC474_0.out
                             have HR475 := Aside0.mk (Kd.C_of_reads (h1 := fun _ => rfl) (hA106 _ (Kd.reads_of_C HR474_0.out)))
                             have HC475 := Aside0.mk hC106
                             clear hA106 hC106 hi0106 hsz106
                             obtain ⟨tk106, htk106⟩ : ∃ t_, (rd_L4 x7_5 x226_6).take (x21_7 : Int).toNat = t_ := ⟨_, rfl⟩
                             rw [htk106] at hcut106 HR475 HC475
                             (try rw [htk106] at A106)
                             (try simp only [htk106] at *)
                             clear htk106
                             obtain ⟨Ao107, co107, eo107⟩ := Kd.R_slice HO_8.out
                             (first | subst eo107 | (injection eo107 with f1_ f2_ f3_; have f4_ := f1_.symm; have f5_ := f3_.symm; clear f1_ f2_ f3_; subst f4_; subst f5_))
                             refine start_ (n := 10) (S := fun w' => w'.cell? ⟨gb439, 0, none⟩ = some (.slice (some ad441) l0_0.length c0_0) ∧ w'.cell? ⟨gb439, 1, none⟩ = some (.slice A0_1 l0_1.length c0_1)) (ds := []) bm77 (by kernel_rfl) rfl rfl ⟨(blk_cell BK439.out 0).trans rfl, (blk_cell BK439.out 1).trans rfl⟩ (fun hHeld => ?_); refine with_tabW hcp.tab53 hcp.bits53 (fun HT_ HW_ => ?_)
                             generalize wr.drew = w105 at HO_7 HO_8 HO_224 BK439 HR474_0 HB HR475 hHeld ⊢
                             refine pu HT_ (i := 0) (N := some 236) (v := ?_) (a' := ?_) bm78 rfl rfl (by kernel_rfl) (fun _ _ _ h => h) (by rfl) ?_ ?_ ?_
                             rotate_left;(·intro w';go_simp;with_reducible rfl);rotate_left;(·simp only [Act.put, sa, sz, ss, i64_w, i32_w];rfl)
                             refine pu HT_ (i := 1) (N := some 237) (v := ?_) (a' := ?_) bm79 rfl rfl (by kernel_rfl) (fun _ _ _ h => h) (by rfl) ?_ ?_ ?_
                             rotate_left;(·intro w';go_simp;with_reducible rfl);rotate_left;(·simp only [Act.put, sa, sz, ss, i64_w, i32_w];rfl)
                             refine pu HT_ (i := 3) (N := some 239) (v := ?_) (a' := ?_) bm80 rfl rfl (by kernel_rfl) (fun _ _ _ h => h) (by rfl) ?_ ?_ ?_
                             rotate_left;(·intro w';go_simp;with_reducible rfl);rotate_left;(·simp only [Act.put, sa, sz, ss, i64_w, i32_w];rfl)
                             refine pu HT_ (i := 4) (N := some 240) (v := ?_) (a' := ?_) bm81 rfl rfl (by kernel_rfl) (fun _ _ _ h => h) (by rfl) ?_ ?_ ?_
                             rotate_left;(·intro w';go_simp;with_reducible rfl);rotate_left;(·simp only [Act.put, sa, sz, ss, i64_w, i32_w];rfl)
                             refine pu HT_ (i := 5) (N := some 241) (v := ?_) (a' := ?_) bm82 rfl rfl (by kernel_rfl) (fun _ _ _ h => h) (by rfl) ?_ ?_ ?_
                             rotate_left;(·intro w';go_simp;with_reducible rfl);rotate_left;(·simp only [Act.put, sa, sz, ss, i64_w, i32_w];rfl)
                             refine pu HT_ (i := 6) (N := some 242) (v := ?_) (a' := ?_) bm83 rfl rfl (by kernel_rfl) (fun _ _ _ h => h) (by rfl) ?_ ?_ ?_
                             rotate_left;(·intro w';go_simp;with_reducible rfl);rotate_left;(·simp only [Act.put, sa, sz, ss, i64_w, i32_w];rfl)
                             refine pu HT_ (i := 7) (N := some 243) (v := ?_) (a' := ?_) bm84 rfl rfl (by kernel_rfl) (fun _ _ _ h => h) (by rfl) ?_ ?_ ?_
                             rotate_left;(·intro w';go_simp;with_reducible rfl);rotate_left;(·simp only [Act.put, sa, sz, ss, i64_w, i32_w];rfl)
                             refine take_ (i := 2) (N := some 238) (v := ?_) (a' := ?_) bm85 rfl rfl (take_ofW HT_.out HW_.out (by kernel_rfl)) (fun _ _ _ h => h) (Or.inl ⟨by rfl, ?_⟩) hHeld ?_ ?_
                             rotate_left;(·rintro w' ⟨s0, s1⟩;go_simp;with_reducible rfl);rotate_left;(·simp only [Act.put, sa, sz, ss, i64_w, i32_w];rfl)
                             refine one_ (i := 8) (N := some 244) bm86 rfl rfl (one_of HT_.out (by kernel_rfl)) (by decide) (fun K hK => ?_)
                             refine goes_ Try.func34 (by kernel_rfl) rfl #[.slice (some ad474) x7_5.length co92, .slice Ao107 x8_5.length co107, .agg #[.slice (some ad441) l0_0.length c0_0, .slice A0_1 l0_1.length c0_1], .slice A474_0 tk106.length c474_0, .int .i64 x6_4, .int .i64 t442] (by rfl) rfl rfl (by (try simp only [List.map_toArray, List.map_cons, List.map_nil]); first | done | (rw [show tk106.length = x21_7.toNat from (by rw [List.length_take]; have h_ : (x21_7 : Int) ≤ ((rd_L4 x7_5 x226_6).length : Int) := of_decide_eq_true (by first | (with_reducible assumption) | assumption); omega)] <;> rfl) | rfl | (simp only [List.length_drop, List.length_take]; rfl)) ?_
                             with_reducible refine (heraldlaw24_exact.calls k7 _ _ x7_5 _ _ x8_5 _ _ l0_0 _ _ l0_1 _ _ _ x6_4 t442 false _ ?side1 ?side2 ?side3 ?side4 ?side5 ?side6 ?side7 ?side8 ?side9 ?side10 A99.out).mono ?_
                             (case side1 => repeat (first | exact (Kd.S_reads' HO_7.out).2.2 | (with_reducible refine Kd.C_alloc ?_ _) | (with_reducible refine Kd.C_drewN ?_ _) | (with_reducible refine Kd.C_drew ?_)))
                             (case side2 => exact (Kd.S_reads' HO_7.out).2.1)
                             (case side3 => repeat (first | exact (Kd.R_reads' HO_8.out).2.2 | (with_reducible refine Kd.C_alloc ?_ _) | (with_reducible refine Kd.C_drewN ?_ _) | (with_reducible refine Kd.C_drew ?_)))
                             (case side4 => exact (Kd.R_reads' HO_8.out).2.1)
                             (case side5 => repeat (first | exact (Kd.C_below HR0_0.out HB.out) | (with_reducible refine Kd.C_alloc ?_ _) | (with_reducible refine Kd.C_drewN ?_ _) | (with_reducible refine Kd.C_drew ?_)))
                             (case side6 => exact HC0_0.out)
                             (case side7 => repeat (first | exact (Kd.C_below HR0_1.out HB.out) | (with_reducible refine Kd.C_alloc ?_ _) | (with_reducible refine Kd.C_drewN ?_ _) | (with_reducible refine Kd.C_drew ?_)))
                             (case side8 => exact HC0_1.out)
                             (case side9 => repeat (first | exact HR475.out | exact (Kd.C_below HR475.out HB.out) | (with_reducible refine Kd.C_alloc ?_ _) | (with_reducible refine Kd.C_drewN ?_ _) | (with_reducible refine Kd.C_drew ?_)))
                             (case side10 => exact HC475.out)
                             rintro e w108 ⟨rfl, hb⟩
                             refine ⟨_, rfl, ?_⟩
                             replace HO_7 := Aside0.mk (Kd.S_below (by (with_reducible repeat (first | apply Kd.S_alloc | apply Kd.S_drewN | apply Kd.S_drew)); exact HO_7.out) hb)
                             replace HO_8 := Aside0.mk (Kd.R_below (by (with_reducible repeat (first | apply Kd.R_alloc | apply Kd.R_drewN | apply Kd.R_drew)); exact HO_8.out) hb)
                             replace HO_224 := Aside0.mk (Kd.S_below (by (with_reducible repeat (first | apply Kd.S_alloc | apply Kd.S_drewN | apply Kd.S_drew)); exact HO_224.out) hb)
                             replace BK439 := bb BK439 hb
                             replace HR474_0 := Aside0.mk (Kd.C_below (by repeat (first | (with_reducible exact HR474_0.out) | (with_reducible refine Kd.C_alloc ?_ _) | (with_reducible refine Kd.C_drewN ?_ _) | (with_reducible refine Kd.C_drew ?_) | exact HR474_0.out)) hb)
                             replace HB := Aside0.mk (below_step (by repeat (first | exact HB.out | apply pw_below_drewN | refine sb ?_ GE439)) hb)
                             (try clear hb)
                             (try clear hb2)
                             (try clear hk)
                             (try clear hi)
                             refine hK.out _ _ ⟨(blk_cell BK439.out 0).trans rfl, (blk_cell BK439.out 1).trans rfl⟩ (fun hHeld => ?_)
                             clear hK K
                             refine norm_ (a' := ?_) ?_ ?_
                             rotate_left;(·show Act.put _ (some 244) _ = _;simp only [Act.put, sa, sz, ss, i64_w, i32_w];rfl)
                             refine pu HT_ (i := 9) (N := some 245) (v := ?_) (a' := ?_) bm87 rfl rfl (by kernel_rfl) (fun _ _ _ h => h) (by rfl) ?_ ?_ ?_
                             rotate_left;(·intro w';go_simp;with_reducible rfl);rotate_left;(·simp only [Act.put, sa, sz, ss, i64_w, i32_w];rfl)
                             refine done_ (done_of HT_.out (by kernel_rfl)) ?_
                             try go_wp2
                             go_ret
                             exact ⟨by first | rfl | (simp [errW_none, errW_some] <;> rfl) | (simp [*, errW_none, errW_some] <;> rfl), by repeat (first | exact HB.out | apply pw_below_drewN | refine sb ?_ GE439)⟩
                          ·rw [if_neg c97] at H
                           exact absurd H (by simp)
                         ·rw [if_neg c96] at H
                          have c96b0 : decide (x21_7 ≤ ((rd_L4 x7_5 x226_6).length : Int)) = false := decide_eq_false c96
                          clear c96
                          as_aux_lemma =>
                           have H' := Aside0.mk H
                           clear H
                           go_wp2
                           go_roundg k7
                           case measure => have := HJ3.out; have := HJ12.out; have := HK3.out; have := HK4.out; have := HK5.out; have := HK6.out; have := HK7.out; omega
                           case rel => exact ⟨(wrap64 (x226_6 + 1)), (by first | rfl | (simp; done) | (simp [*]; done) | (simp [i64_w]; done) | (simp [*, i64_w]; done)), H', ⟨by have := HJ3.out; have := HJ12.out; have := HK3.out; have := HK4.out; have := HK5.out; have := HK6.out; have := HK7.out; omega⟩, ⟨by (with_reducible repeat (first | apply Kd.S_alloc | apply Kd.S_drewN | apply Kd.S_drew)); exact HO_7.out⟩, ⟨by (with_reducible repeat (first | apply Kd.R_alloc | apply Kd.R_drewN | apply Kd.R_drew)); exact HO_8.out⟩, ⟨by (with_reducible repeat (first | apply Kd.S_alloc | apply Kd.S_drewN | apply Kd.S_drew)); exact HO_224.out⟩, ⟨by exact BK439.out⟩, ⟨by repeat (first | exact HB.out | apply pw_below_drewN | refine sb ?_ GE439)⟩⟩
                      ·rw [if_neg c95] at H
                       exact absurd H (by simp)
                     ·rw [if_neg c94] at H
                      exact absurd H (by simp)
                    ·rw [if_neg c93] at H
                     have c93b0 : decide (x226_6 < (x7_5.length : Int)) = false := decide_eq_false c93
                     clear c93
                     as_aux_lemma =>
                      obtain rfl := Option.some.inj H
                      go_wp2
                      go_ret
                      exact ⟨by first | rfl | (simp [errW_none, errW_some] <;> rfl) | (simp [*, errW_none, errW_some] <;> rfl), by repeat (first | exact HB.out | apply pw_below_drewN | refine sb ?_ GE439)⟩
     ·rw [if_neg c11] at H
      exact absurd H (by simp)
 ·replace c3 := Bool.eq_false_iff.mpr c3
  subst c3
  have H1 : (some false) = some r := by rw [if_neg (show ¬ (false = true) by decide)] at H; exact H
  clear H
  have H := H1
  clear H1
  as_aux_lemma =>
   obtain rfl := Option.some.inj H
   go_enter Try.func12, Try.ntmps12
   go_wp2_with (first | ((with_reducible refine gate_dst (N := 1) rfl ?_); (try (refine gate_guard (by rfl) ?_; dsimp only)); refine box_event ?hg (N := 1) ?hd (cs := #[.slice A0_0 l0_0.length c0_0, .slice A0_1 l0_1.length c0_1]) (t := 59) ?hr ?_; (case hd => rfl); (case hg => rfl); (case hr => first | (go_simp; done) | (go_simp; rfl)); intro gb439 hg w109 hbox hb; have BK439 := Aside0.mk (hbox); have GW439 := Aside0.mk ((by rw [hg]; exact (below_size HB.out) : w.heap.size ≤ gb439)); have GE439 := Aside0.mk ((by rw [hg]; exact (below_size HB.out) : w.heap.size ≤ gb439)); replace HB := Aside0.mk (below_step HB.out hb); clear hb hbox hg) | ((with_reducible refine gate_callee (f := 14) rfl ?_); refine goesL_ (some 22) rfl rfl Try.func14 (by kernel_rfl) rfl #[] rfl (by (try simp only [List.map_toArray, List.map_cons, List.map_nil]); first | done | rfl | (simp only [List.length_drop, List.length_take]; rfl)) ?_; (with_reducible refine (heraldlaw24_awake.calls k  false _ A2.out).mono ?_); rintro e w110 ⟨rfl, hb⟩; refine ⟨_, rfl, ?_⟩; replace BK439 := bb BK439 hb; replace HB := Aside0.mk (below_step (by repeat (first | exact HB.out | apply pw_below_drewN | refine sb ?_ GE439)) hb); (try clear hb); (try clear hb2); (try clear hk); (try clear hi)))
   go_ret
   exact ⟨by first | rfl | (simp [errW_none, errW_some] <;> rfl) | (simp [*, errW_none, errW_some] <;> rfl), by repeat (first | exact HB.out | apply pw_below_drewN | refine sb ?_ GE439)⟩
end Go.Proofs.Ytldbdifdldmgfaa.PAll
end
