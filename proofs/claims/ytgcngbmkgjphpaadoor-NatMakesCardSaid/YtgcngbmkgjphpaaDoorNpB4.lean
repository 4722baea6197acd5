/- Texts of this session and printed texts, merged, what is not needed left out: PAllx9, NmG, PAllx11, NmH, PureNatMakes. -/
import Derived.Test.YtgcngbmkgjphpaaDoorNpB0
import Derived.Test.YtgcngbmkgjphpaaDoorNpB1
import Derived.Test.YtgcngbmkgjphpaaDoorNpB2
import Derived.Test.YtgcngbmkgjphpaaDoorNpB3
section
namespace Go.Proofs.YtgcngbmkgjphpaaDoor.PAll
open Go.RowKit Go.Proofs.YtgcngbmkgjphpaaDoorW.PrintWords Go.Proofs.YtgcngbmkgjphpaaDoorW.PrintLast Go.Proofs.YtgcngbmkgjphpaaDoorW.PrintMore
attribute [local go_sem] max2_int min2_int max_two min_two max_three min_three max_four min_four   -- for this text's walks alone
set_option linter.unusedVariables false
set_option linter.unusedSimpArgs false
mutual
def nat_Product.l0 : Nat → List Int → Bool → List Int → Int → Int → Option (List Int × Int)
  | 0, _, _, _, _, _ => none
  | k + 1, x0, x4, x11, x12, x13 => if x13 < x12 then (if 0 ≤ x13 then (if x13 < (x11.length : Int) then (if (rd x11 x13) < 0 then (some (([] : List Int), 40)) else (if x4 = true then (nat_Product.l0 k x0 true x11 x12 (wrap64 (x13 + 1))) else (nat_Product.l0 k x0 ((rd x11 x13) == 0) x11 x12 (wrap64 (x13 + 1))))) else (none)) else (none)) else (if x4 = true then (some (([] : List Int), 0)) else ((nat_of.f k 1).bind fun t231 => (nat_Product.l1 k x0 (x0.length : Int) 0 t231)))
def nat_Product.l1 : Nat → List Int → Int → Int → List Int → Option (List Int × Int)
  | 0, _, _, _, _ => none
  | k + 1, x29, x30, x31, x235000 => if x31 < x30 then (if 0 ≤ x31 then (if x31 < (x29.length : Int) then ((nat_of.f k (IntKind.u64.wrap (rd x29 x31))).bind fun t236 => ((nat_Nat_Mul.f k x235000 t236).bind fun bt239 => (if bt239.2 = 0 then (nat_Product.l1 k x29 x30 (wrap64 (x31 + 1)) bt239.1) else (some (([] : List Int), bt239.2))))) else (none)) else (none)) else (some (x235000, 0))
end
def nat_Product.f (k : Nat) (l0 : List Int) : Option (List Int × Int) := nat_Product.l0 k l0 false l0 (l0.length : Int) 0
def nat_Product.T16 : Bool × List (List Nat × List Nat) := (true, [([], []), ([], []), ([1], [1]), ([2], [2]), ([0, 3, 3], [0, 3]), ([4], [4]), ([5], [5]), ([5], [5]), ([6, 4, 0, 1, 2, 3, 4, 5, 6], [6]), ([7, 8, 0, 1, 2, 3, 4, 5, 6, 7, 8], [7])])
def nat_Product.B16 : List Nat := [0, 0, 2, 6, 15, 31, 63, 63, 127, 511]
theorem nat_Product.tab16 : rtab .any (opsOf Tryd.f16 16) = nat_Product.T16 := by kernel_rfl
theorem nat_Product.bits16 : waitsOk nat_Product.T16.2 nat_Product.B16 = true := by kernel_rfl
set_option maxHeartbeats 8000000 in
set_option maxRecDepth 100000 in
theorem nat_Product.calls (k : Nat) (A0 : Option Addr) (c0 : Nat) (l0 : List Int) (r1 : List Int) (r2 : Int) (w : World) (hr0 : Kd.C (Kd.int .i64) w A0 l0.length l0) (hc0 : l0.length ≤ c0) (h : nat_Product.f k l0 = some (r1, r2)) :
    Calls Tryd.prog 16 #[.slice A0 l0.length c0] w fun e w' => ∃ v0_ : Value, e = .returned (.tuple #[.agg #[v0_], .int .i64 r2]) ∧ Kd.V (Kd.int .u32) 79 w' w.heap.size (fun k_ => (w.heap.size ≤ k_)) v0_ r1 ∧ Below w.heap.size w w' := by
  have hu26 := Tryd.underlying26
  have HR0 := Aside0.mk hr0
  have HC0 := Aside0.mk hc0
  clear hr0 hc0
  have HB := Aside0.mk (Below.refl w.heap.size w)
  have H : (nat_Product.l0 k l0 false l0 (l0.length : Int) 0) = some (r1, r2) := h
  clear h
  have H' := Aside0.mk H
  clear H
  go_enter Tryd.func16, Tryd.ntmps16
  go_wp2_with (first | ((with_reducible refine gate_dst (N := 2) rfl ?_); refine box_event ?hg (N := 2) ?hd (cs := #[.slice none 0 0]) (t := 26) ?hr ?_; (case hd => rfl); (case hg => rfl); (case hr => first | (go_simp; done) | (go_simp; rfl)); intro gb229 hg w2 hbox hb; have n0_ := Aside0.mk (below_step (by repeat (first | (with_reducible first | exact HB.out | apply below_alloc | apply pw_below_drewN | apply below_drew1) | exact HB.out)) hb); have n1_ := Aside0.mk (hbox); have n2_ := Aside0.mk ((by rw [hg]; exact (below_size (by repeat (first | (with_reducible first | exact HB.out | apply below_alloc | apply pw_below_drewN | apply below_drew1) | exact HB.out))) : w.heap.size ≤ gb229)); have n3_ := Aside0.mk ((by rw [hg]; exact (below_size (by repeat (first | (with_reducible first | exact HB.out | apply below_alloc | apply pw_below_drewN | apply below_drew1) | exact HB.out))) : w.heap.size ≤ gb229)); clear HB; have HB := n0_; have BK229 := n1_; have GW229 := n2_; have GE229 := n3_; clear n0_ n1_ n2_ n3_; clear hb hbox hg))
  go_loopg [4, 13] k (fun kq v4 v13 w' => ∃ (x4_1 : Bool) (x13_1 : Int), v4 = .bool x4_1 ∧ v13 = .int .i64 x13_1 ∧ Aside0 (nat_Product.l0 kq l0 x4_1 l0 (l0.length : Int) x13_1 = some (r1, r2)) ∧ Aside0 (kq ≤ k) ∧ Aside0 (w'.heap[gb229]? = some (.cells #[(.slice none 0 0)] 26 (0, 0))) ∧ Aside0 (Below w.heap.size w w'))
  case atStart => exact ⟨(false), (0), (by first | rfl | (simp; done) | (simp [*]; done) | (simp [i64_w]; done) | (simp [*, i64_w]; done)), (by first | rfl | (simp; done) | (simp [*]; done) | (simp [i64_w]; done) | (simp [*, i64_w]; done)), H', ⟨Nat.le_refl _⟩, ⟨by (with_reducible repeat (first | refine blk_drewN ?_ _ | refine blk_drew ?_ | refine blk_alloc ?_ _)); exact BK229.out⟩, ⟨by repeat (first | (with_reducible first | exact HB.out | apply below_alloc | apply pw_below_drewN | apply below_drew1 | refine below_set ?_ GE229.out) | exact HB.out)⟩⟩
  case round =>
    clear H'
    try clear c1
    try clear p2
    obtain ⟨x4_1, x13_1, rfl, rfl, HA, HK1, BK229, HB⟩ := hrel
    cases gk with
    | zero => exact absurd HA.out (by simp [nat_Product.l0])
    | succ k1 =>
      have H := HA.out
      clear HA
      simp only [nat_Product.l0] at H
      by_cases c3 : x13_1 < (l0.length : Int)
      · rw [if_pos c3] at H
        have c3b0 : decide (x13_1 < (l0.length : Int)) = true := decide_eq_true c3
        clear c3
        by_cases c4 : 0 ≤ x13_1
        · rw [if_pos c4] at H
          have c4b0 : decide (0 ≤ x13_1) = true := decide_eq_true c4
          clear c4
          by_cases c5 : x13_1 < (l0.length : Int)
          · rw [if_pos c5] at H
            have c5b0 : decide (x13_1 < (l0.length : Int)) = true := decide_eq_true c5
            clear c5
            by_cases c6 : (rd l0 x13_1) < 0
            · rw [if_pos c6] at H
              have c6b0 : decide ((rd l0 x13_1) < 0) = true := decide_eq_true c6
              clear c6
              simp only [Option.some.injEq, Prod.mk.injEq] at H
              obtain ⟨rfl, rfl⟩ := H
              have p230 : 0 ≤ (x13_1 : Int) := of_decide_eq_true (by first | (with_reducible assumption) | assumption)
              have q230 : x13_1 < (l0.length : Int) := of_decide_eq_true (by first | (with_reducible assumption) | assumption)
              obtain ⟨ad230, e230, hx230_0⟩ := Kd.at_int HR0.out x13_1 p230 q230
              cases e230
              replace hx230_0 := (HB.out.cell (World.block_lt_of_cell? w _ hx230_0)).trans hx230_0
              replace p230 := eq_true p230
              replace q230 := eq_true q230
              have hcz7_0 : wr.cell? ⟨gb229, 0, none⟩ = some (.slice none 0 0) := (blk_cell BK229.out 0).trans rfl
              have hfz7_0 := blk_frozen BK229.out 0
              go_wp2
              refine bodyPost_ret (results_ct rfl _ _ gb229 26 #[.slice none 0 0] (0, 0) _ rfl (by (with_reducible repeat (first | refine blk_drewN ?_ _ | refine blk_drew ?_ | refine blk_alloc ?_ _)); refine blk_put (cs := #[.slice none 0 0]) ?_ 0 _ rfl; (with_reducible repeat (first | refine blk_drewN ?_ _ | refine blk_drew ?_ | refine blk_alloc ?_ _)); exact BK229.out) Tryd.underlying26 rfl (by kernel_rfl)) rfl ?_
              exact ⟨_, by first | rfl | (simp [errW_none, errW_some] <;> rfl) | (simp [*, errW_none, errW_some] <;> rfl), Kd.R_V (base := w.heap.size) (by first | exact Kd.R_nil _ _ _ _ (fun _ => False) | exact Kd.R_nil _ _ _ _ _ | exact Kd.N_nil _ _ _ _ _ | exact Kd.V_nil _ _ _ _ _ | exact Kd.Q_nil _ _ _ _ _ | exact Kd.S_nil _ _ _ _ _), by repeat (first | (with_reducible first | exact HB.out | apply below_alloc | apply pw_below_drewN | apply below_drew1 | refine below_set ?_ GE229.out) | exact HB.out)⟩
            · rw [if_neg c6] at H
              have c6b0 : decide ((rd l0 x13_1) < 0) = false := decide_eq_false c6
              clear c6
              by_cases c8 : x4_1 = true
              · subst c8
                have H1 : (nat_Product.l0 k1 l0 true l0 (l0.length : Int) (wrap64 (x13_1 + 1))) = some (r1, r2) := by rw [if_pos rfl] at H; exact H
                clear H
                have H := H1
                clear H1
                have H' := Aside0.mk H
                clear H
                have p230 : 0 ≤ (x13_1 : Int) := of_decide_eq_true (by first | (with_reducible assumption) | assumption)
                have q230 : x13_1 < (l0.length : Int) := of_decide_eq_true (by first | (with_reducible assumption) | assumption)
                obtain ⟨ad230, e230, hx230_0⟩ := Kd.at_int HR0.out x13_1 p230 q230
                cases e230
                replace hx230_0 := (HB.out.cell (World.block_lt_of_cell? w _ hx230_0)).trans hx230_0
                replace p230 := eq_true p230
                replace q230 := eq_true q230
                go_wp2
                go_roundg k1
                case measure => have := HK1.out; omega
                case rel => exact ⟨(true), (wrap64 (x13_1 + 1)), (by first | rfl | (simp; done) | (simp [*]; done) | (simp [i64_w]; done) | (simp [*, i64_w]; done)), (by first | rfl | (simp; done) | (simp [*]; done) | (simp [i64_w]; done) | (simp [*, i64_w]; done)), H', ⟨by have := HK1.out; omega⟩, ⟨by (with_reducible repeat (first | refine blk_drewN ?_ _ | refine blk_drew ?_ | refine blk_alloc ?_ _)); exact BK229.out⟩, ⟨by repeat (first | (with_reducible first | exact HB.out | apply below_alloc | apply pw_below_drewN | apply below_drew1 | refine below_set ?_ GE229.out) | exact HB.out)⟩⟩
              · replace c8 := Bool.eq_false_iff.mpr c8
                subst c8
                have H1 : (nat_Product.l0 k1 l0 ((rd l0 x13_1) == 0) l0 (l0.length : Int) (wrap64 (x13_1 + 1))) = some (r1, r2) := by rw [if_neg (show ¬ (false = true) by decide)] at H; exact H
                clear H
                have H := H1
                clear H1
                have H' := Aside0.mk H
                clear H
                have p230 : 0 ≤ (x13_1 : Int) := of_decide_eq_true (by first | (with_reducible assumption) | assumption)
                have q230 : x13_1 < (l0.length : Int) := of_decide_eq_true (by first | (with_reducible assumption) | assumption)
                obtain ⟨ad230, e230, hx230_0⟩ := Kd.at_int HR0.out x13_1 p230 q230
                cases e230
                replace hx230_0 := (HB.out.cell (World.block_lt_of_cell? w _ hx230_0)).trans hx230_0
                replace p230 := eq_true p230
                replace q230 := eq_true q230
                go_wp2
                go_roundg k1
                case measure => have := HK1.out; omega
                case rel => exact ⟨(((rd l0 x13_1) == 0)), (wrap64 (x13_1 + 1)), (by first | rfl | (simp; done) | (simp [*]; done) | (simp [i64_w]; done) | (simp [*, i64_w]; done)), (by first | rfl | (simp; done) | (simp [*]; done) | (simp [i64_w]; done) | (simp [*, i64_w]; done)), H', ⟨by have := HK1.out; omega⟩, ⟨by (with_reducible repeat (first | refine blk_drewN ?_ _ | refine blk_drew ?_ | refine blk_alloc ?_ _)); exact BK229.out⟩, ⟨by repeat (first | (with_reducible first | exact HB.out | apply below_alloc | apply pw_below_drewN | apply below_drew1 | refine below_set ?_ GE229.out) | exact HB.out)⟩⟩
          · rw [if_neg c5] at H
            exact absurd H (by simp)
        · rw [if_neg c4] at H
          exact absurd H (by simp)
      · rw [if_neg c3] at H
        have c3b0 : decide (x13_1 < (l0.length : Int)) = false := decide_eq_false c3
        clear c3
        by_cases c9 : x4_1 = true
        · subst c9
          have H1 : (some (([] : List Int), 0)) = some (r1, r2) := by rw [if_pos rfl] at H; exact H
          clear H
          have H := H1
          clear H1
          simp only [Option.some.injEq, Prod.mk.injEq] at H
          obtain ⟨rfl, rfl⟩ := H
          have hcz10_0 : wr.cell? ⟨gb229, 0, none⟩ = some (.slice none 0 0) := (blk_cell BK229.out 0).trans rfl
          have hfz10_0 := blk_frozen BK229.out 0
          go_wp2
          refine bodyPost_ret (results_ct rfl _ _ gb229 26 #[.slice none 0 0] (0, 0) _ rfl (by (with_reducible repeat (first | refine blk_drewN ?_ _ | refine blk_drew ?_ | refine blk_alloc ?_ _)); refine blk_put (cs := #[.slice none 0 0]) ?_ 0 _ rfl; (with_reducible repeat (first | refine blk_drewN ?_ _ | refine blk_drew ?_ | refine blk_alloc ?_ _)); exact BK229.out) Tryd.underlying26 rfl (by kernel_rfl)) rfl ?_
          exact ⟨_, by first | rfl | (simp [errW_none, errW_some] <;> rfl) | (simp [*, errW_none, errW_some] <;> rfl), Kd.R_V (base := w.heap.size) (by first | exact Kd.R_nil _ _ _ _ (fun _ => False) | exact Kd.R_nil _ _ _ _ _ | exact Kd.N_nil _ _ _ _ _ | exact Kd.V_nil _ _ _ _ _ | exact Kd.Q_nil _ _ _ _ _ | exact Kd.S_nil _ _ _ _ _), by repeat (first | (with_reducible first | exact HB.out | apply below_alloc | apply pw_below_drewN | apply below_drew1 | refine below_set ?_ GE229.out) | exact HB.out)⟩
        · replace c9 := Bool.eq_false_iff.mpr c9
          subst c9
          have H1 : ((nat_of.f k1 1).bind fun t231 => (nat_Product.l1 k1 l0 (l0.length : Int) 0 t231)) = some (r1, r2) := by rw [if_neg (show ¬ (false = true) by decide)] at H; exact H
          clear H
          have H := H1
          clear H1
          replace H := Option.bind_eq_some_iff.mp H
          obtain ⟨t231, A110, H⟩ := H
          replace H : (nat_Product.l1 k1 l0 (l0.length : Int) 0 t231) = some (r1, r2) := H
          have A11 := Aside0.mk A110
          clear A110
          have H' := Aside0.mk H
          clear H
          go_wp2_with (first | ((with_reducible refine gate_callee (f := 48) rfl ?_); refine goesL_ (some 28) rfl rfl Tryd.func48 (by kernel_rfl) rfl #[.int .u64 1] rfl (by (try simp only [List.map_toArray, List.map_cons, List.map_nil]); first | done | rfl | (simp only [List.length_drop, List.length_take]; rfl)) ?_; (with_reducible refine (nat_of.calls k1 1 t231 _ A11.out).mono ?_); rintro e w12 ⟨v232, rfl, ho0, hb⟩; refine ⟨_, rfl, ?_⟩; have n0_ := Aside0.mk (Kd.V_lower (Kd.V_mono (ok' := fun k_ => (w.heap.size ≤ k_) ∧ k_ ≠ gb229) ho0 (fun k_ hk_ => ⟨(Nat.le_trans (below_size (by repeat (first | (with_reducible first | exact HB.out | apply below_alloc | apply pw_below_drewN | apply below_drew1 | refine below_set ?_ GE229.out) | exact HB.out))) hk_), (Kd.freshB (g := gb229) (o := .cells #[.slice none 0 0] 26 (0, 0)) (by (with_reducible repeat (first | refine blk_drewN ?_ _ | refine blk_drew ?_ | refine blk_alloc ?_ _)); exact BK229.out) k_ hk_)⟩)) (below_size (by repeat (first | (with_reducible first | exact HB.out | apply below_alloc | apply pw_below_drewN | apply below_drew1 | refine below_set ?_ GE229.out) | exact HB.out)))); have n1_ := Aside0.mk (blk_below (g := gb229) (o := .cells #[.slice none 0 0] 26 (0, 0)) (by (with_reducible repeat (first | refine blk_drewN ?_ _ | refine blk_drew ?_ | refine blk_alloc ?_ _)); exact BK229.out) hb); have n2_ := Aside0.mk (below_step (by repeat (first | (with_reducible first | exact HB.out | apply below_alloc | apply pw_below_drewN | apply below_drew1 | refine below_set ?_ GE229.out) | exact HB.out)) hb); clear BK229; clear HB; have HO233 := n0_; have BK229 := n1_; have HB := n2_; clear n0_ n1_ n2_; (try clear hb); (try clear hb2); (try clear hk); (try clear hi); (try clear ho0)) | ((with_reducible refine gate_dst (N := 7) rfl ?_); refine box_event ?hg (N := 7) ?hd (cs := #[.slice none 0 0]) (t := 26) ?hr ?_; (case hd => rfl); (case hg => rfl); (case hr => first | (go_simp; done) | (go_simp; rfl)); intro gb234 hg w13 hbox hb; have n0_ := Aside0.mk (Kd.V_below (Kd.V_elderB (by (with_reducible repeat (first | apply Kd.V_alloc | apply Kd.V_drewN | apply Kd.V_drew)); exact HO233.out) gb234 (Nat.le_of_eq hg.symm)) hb); have n1_ := Aside0.mk (blk_below (g := gb229) (o := .cells #[.slice none 0 0] 26 (0, 0)) (by (with_reducible repeat (first | refine blk_drewN ?_ _ | refine blk_drew ?_ | refine blk_alloc ?_ _)); exact BK229.out) hb); have n2_ := Aside0.mk (below_step (by repeat (first | (with_reducible first | exact HB.out | apply below_alloc | apply pw_below_drewN | apply below_drew1 | refine below_set ?_ GE229.out) | exact HB.out)) hb); have n3_ := Aside0.mk (hbox); have n4_ := Aside0.mk ((by rw [hg]; exact (below_size (by repeat (first | (with_reducible first | exact HB.out | apply below_alloc | apply pw_below_drewN | apply below_drew1 | refine below_set ?_ GE229.out) | exact HB.out))) : w.heap.size ≤ gb234)); have n5_ := Aside0.mk ((by rw [hg]; exact (below_size (by repeat (first | (with_reducible first | exact HB.out | apply below_alloc | apply pw_below_drewN | apply below_drew1 | refine below_set ?_ GE229.out) | exact HB.out))) : w.heap.size ≤ gb234)); have n6_ := Aside0.mk ((by rw [hg]; exact Nat.ne_of_lt (blk_lt (g := gb229) (o := .cells #[.slice none 0 0] 26 (0, 0)) (by (with_reducible repeat (first | refine blk_drewN ?_ _ | refine blk_drew ?_ | refine blk_alloc ?_ _)); exact BK229.out)) : gb229 ≠ gb234)); have n7_ := Aside0.mk ((by rw [hg]; exact Nat.ne_of_gt (blk_lt (g := gb229) (o := .cells #[.slice none 0 0] 26 (0, 0)) (by (with_reducible repeat (first | refine blk_drewN ?_ _ | refine blk_drew ?_ | refine blk_alloc ?_ _)); exact BK229.out)) : gb234 ≠ gb229)); clear HO233; clear BK229; clear HB; have HO233 := n0_; have BK229 := n1_; have HB := n2_; have BK234 := n3_; have GW234 := n4_; have GE234 := n5_; have NB229_234 := n6_; have NB234_229 := n7_; clear n0_ n1_ n2_ n3_ n4_ n5_ n6_ n7_; clear hb hbox hg; obtain ⟨Ao14, co14, eo14⟩ := Kd.V_slice HO233.out; subst eo14; have hnb15 := NB234_229.out; have hnc15 := NB229_234.out; have hcz16_0 : w13.cell? ⟨gb234, 0, none⟩ = some (.slice none 0 0) := (blk_cell BK234.out 0).trans rfl; have hfz16_0 := blk_frozen BK234.out 0))
          go_loopg [31] k1 (fun kq v31 w' => ∃ (x31_2 : Int) (x235000_2 : List Int) (u235000 : Value), v31 = .int .i64 x31_2 ∧ Aside0 (nat_Product.l1 kq l0 (l0.length : Int) x31_2 x235000_2 = some (r1, r2)) ∧ Aside0 (kq ≤ k1) ∧ Aside0 (Kd.V (Kd.int .u32) 79 w' w.heap.size (fun k_ => (w.heap.size ≤ k_) ∧ k_ ≠ gb229 ∧ k_ ≠ gb234) u235000 x235000_2) ∧ Aside0 (w'.heap[gb229]? = some (.cells #[(.slice none 0 0)] 26 (0, 0))) ∧ Aside0 (w'.heap[gb234]? = some (.cells #[u235000] 26 (0, 0))) ∧ Aside0 (Below w.heap.size w w'))
          case atStart => exact ⟨(0), (t231), (.slice Ao14 t231.length co14), (by first | rfl | (simp; done) | (simp [*]; done) | (simp [i64_w]; done) | (simp [*, i64_w]; done)), H', ⟨Nat.le_refl _⟩, ⟨by (with_reducible repeat (first | apply Kd.V_alloc | apply Kd.V_drewN | apply Kd.V_drew)); exact Kd.V_mono (Kd.V_far (p := ⟨gb234, 0, none⟩) (Kd.V_mono HO233.out (fun k_ hk => (⟨hk, hk.2⟩ : _ ∧ k_ ≠ gb234))) (fun _ hk => hk.2) (.slice Ao14 t231.length co14)) (fun _ hk => ⟨hk.1.1.1, ⟨hk.1.1.2, hk.1.2⟩⟩)⟩, ⟨by (with_reducible repeat (first | refine blk_drewN ?_ _ | refine blk_drew ?_ | refine blk_alloc ?_ _)); refine blk_far ?_ NB229_234.out _; (with_reducible repeat (first | refine blk_drewN ?_ _ | refine blk_drew ?_ | refine blk_alloc ?_ _)); exact BK229.out⟩, ⟨by (with_reducible repeat (first | refine blk_drewN ?_ _ | refine blk_drew ?_ | refine blk_alloc ?_ _)); refine blk_put (cs := #[.slice none 0 0]) ?_ 0 _ rfl; (with_reducible repeat (first | refine blk_drewN ?_ _ | refine blk_drew ?_ | refine blk_alloc ?_ _)); exact BK234.out⟩, ⟨by repeat (first | (with_reducible first | exact HB.out | apply below_alloc | apply pw_below_drewN | apply below_drew1 | refine below_set ?_ GE229.out | refine below_set ?_ GE234.out) | exact HB.out)⟩⟩
          case round =>
            clear H'
            try clear c1
            try clear p2
            try clear q2
            try clear hx2
            try clear c3
            try clear c3b0
            try clear c4
            try clear c4b0
            try clear c5
            try clear c5b0
            try clear c6
            try clear c6b0
            try clear p6
            try clear c8
            try clear c9
            try clear c15
            try clear c16
            try clear hcz10_0
            try clear hcz16_0
            try clear hcz7_0
            try clear hfz10_0
            try clear hfz16_0
            try clear hfz7_0
            try clear hx230_0
            try clear p2
            try clear p230
            try clear q230
            obtain ⟨x31_2, x235000_2, u235000, rfl, HA, HK2, HO_235000, BK229, BK234, HB⟩ := hrel
            cases gk with
            | zero => exact absurd HA.out (by simp [nat_Product.l1])
            | succ k2 =>
              have H := HA.out
              clear HA
              simp only [nat_Product.l1] at H
              by_cases c17 : x31_2 < (l0.length : Int)
              · rw [if_pos c17] at H
                have c17b0 : decide (x31_2 < (l0.length : Int)) = true := decide_eq_true c17
                clear c17
                by_cases c18 : 0 ≤ x31_2
                · rw [if_pos c18] at H
                  have c18b0 : decide (0 ≤ x31_2) = true := decide_eq_true c18
                  clear c18
                  by_cases c19 : x31_2 < (l0.length : Int)
                  · rw [if_pos c19] at H
                    have c19b0 : decide (x31_2 < (l0.length : Int)) = true := decide_eq_true c19
                    clear c19
                    replace H := Option.bind_eq_some_iff.mp H
                    obtain ⟨t236, A200, H⟩ := H
                    replace H : ((nat_Nat_Mul.f k2 x235000_2 t236).bind fun bt239 => (if bt239.2 = 0 then (nat_Product.l1 k2 l0 (l0.length : Int) (wrap64 (x31_2 + 1)) bt239.1) else (some (([] : List Int), bt239.2)))) = some (r1, r2) := H
                    have A20 := Aside0.mk A200
                    clear A200
                    replace H := Option.bind_eq_some_iff.mp H
                    obtain ⟨⟨t239, t242⟩, A210, H⟩ := H
                    replace H : (if t242 = 0 then (nat_Product.l1 k2 l0 (l0.length : Int) (wrap64 (x31_2 + 1)) t239) else (some (([] : List Int), t242))) = some (r1, r2) := H
                    have A21 := Aside0.mk A210
                    clear A210
                    by_cases c22 : t242 = 0
                    · rw [if_pos c22] at H
                      have c22b0 : (t242 == 0) = true := beq_iff_eq.mpr c22
                      have c22b1 : (t242 != 0) = false := bne_eq_false_iff_eq.mpr c22
                      clear c22
                      have H' := Aside0.mk H
                      clear H
                      have p235 : 0 ≤ (x31_2 : Int) := of_decide_eq_true (by first | (with_reducible assumption) | assumption)
                      have q235 : x31_2 < (l0.length : Int) := of_decide_eq_true (by first | (with_reducible assumption) | assumption)
                      obtain ⟨ad235, e235, hx235_0⟩ := Kd.at_int HR0.out x31_2 p235 q235
                      cases e235
                      replace hx235_0 := (HB.out.cell (World.block_lt_of_cell? w _ hx235_0)).trans hx235_0
                      replace p235 := eq_true p235
                      replace q235 := eq_true q235
                      try go_wp2
                      have n0_ := Aside0.mk (Kd.V_drew HO_235000.out)
                      have n1_ := Aside0.mk (blk_drew BK229.out)
                      have n2_ := Aside0.mk (blk_drew BK234.out)
                      have n3_ := Aside0.mk (below_drew1 HB.out)
                      clear HO_235000
                      clear BK229
                      clear BK234
                      clear HB
                      have HO_235000 := n0_
                      have BK229 := n1_
                      have BK234 := n2_
                      have HB := n3_
                      clear n0_ n1_ n2_ n3_
                      refine start_ (n := 10) (S := fun w' => w'.cell? ⟨gb234, 0, none⟩ = some (u235000)) (ds := [8]) #[false, false, false, false, false, false, false, false, false, false] (by kernel_rfl) rfl rfl ((blk_cell BK234.out 0).trans rfl) (fun hHeld => ?_); refine with_tabW nat_Product.tab16 nat_Product.bits16 (fun HT_ HW_ => ?_)
                      generalize wr.drew = w23 at HO_235000 BK229 BK234 HB hHeld ⊢
                      refine pure_ (i := 1) (N := some 37) (v := ?_) (a' := ?_) #[false, true, false, false, false, false, false, false, false, false] rfl rfl (any_of HT_.out (by kernel_rfl)) (fun _ _ _ h => h) (Or.inl ⟨by rfl, ?_⟩) ?_ ?_
                      rotate_left
                      · intro w'
                        go_simp
                        with_reducible rfl
                      rotate_left
                      · simp only [Act.put, List.setIfInBounds_toArray, List.set_cons_zero, List.set_cons_succ, i64_w, i32_w]
                        rfl
                      refine pure_ (i := 2) (N := some 38) (v := ?_) (a' := ?_) #[false, true, true, false, false, false, false, false, false, false] rfl rfl (any_of HT_.out (by kernel_rfl)) (fun _ _ _ h => h) (Or.inl ⟨by rfl, ?_⟩) ?_ ?_
                      rotate_left
                      · intro w'
                        go_simp
                        with_reducible rfl
                      rotate_left
                      · simp only [Act.put, List.setIfInBounds_toArray, List.set_cons_zero, List.set_cons_succ, i64_w, i32_w]
                        rfl
                      refine take_ (i := 0) (N := some 36) (v := ?_) (a' := ?_) #[true, true, true, false, false, false, false, false, false, false] rfl rfl (take_ofW HT_.out HW_.out (by kernel_rfl)) (fun _ _ _ h => h) (Or.inl ⟨by rfl, ?_⟩) hHeld ?_ ?_
                      rotate_left
                      · intro w' s0
                        go_simp
                        with_reducible rfl
                      rotate_left
                      · simp only [Act.put, List.setIfInBounds_toArray, List.set_cons_zero, List.set_cons_succ, i64_w, i32_w]
                        rfl
                      refine one_ (i := 3) (N := some 39) #[true, true, true, true, false, false, false, false, false, false] rfl rfl (one_of HT_.out (by kernel_rfl)) (by decide) (fun K hK => ?_)
                      refine goes_ Tryd.func48 (by kernel_rfl) rfl #[.int .u64 (IntKind.u64.wrap (rd l0 x31_2))] (by rfl) rfl rfl (by (try simp only [List.map_toArray, List.map_cons, List.map_nil]); first | done | rfl | (simp only [List.length_drop, List.length_take]; rfl)) ?_
                      with_reducible refine (nat_of.calls k2 (IntKind.u64.wrap (rd l0 x31_2)) t236 _ A20.out).mono ?_
                      rintro e w24 ⟨v237, rfl, ho0, hb⟩
                      refine ⟨_, rfl, ?_⟩
                      have n0_ := Aside0.mk (Kd.V_below (by (with_reducible repeat (first | apply Kd.V_alloc | apply Kd.V_drewN | apply Kd.V_drew)); exact HO_235000.out) hb)
                      have n1_ := Aside0.mk (Kd.V_lower (Kd.V_mono (ok' := fun k_ => (w.heap.size ≤ k_) ∧ k_ ≠ gb229 ∧ k_ ≠ gb234) ho0 (fun k_ hk_ => ⟨(Nat.le_trans (below_size (by repeat (first | (with_reducible first | exact HB.out | apply below_alloc | apply pw_below_drewN | apply below_drew1 | refine below_set ?_ GE229.out | refine below_set ?_ GE234.out) | exact HB.out))) hk_), (Kd.freshB (g := gb229) (o := .cells #[.slice none 0 0] 26 (0, 0)) (by (with_reducible repeat (first | refine blk_drewN ?_ _ | refine blk_drew ?_ | refine blk_alloc ?_ _)); exact BK229.out) k_ hk_), (Kd.freshB (g := gb234) (o := .cells #[u235000] 26 (0, 0)) (by (with_reducible repeat (first | refine blk_drewN ?_ _ | refine blk_drew ?_ | refine blk_alloc ?_ _)); exact BK234.out) k_ hk_)⟩)) (below_size (by repeat (first | (with_reducible first | exact HB.out | apply below_alloc | apply pw_below_drewN | apply below_drew1 | refine below_set ?_ GE229.out | refine below_set ?_ GE234.out) | exact HB.out))))
                      have n2_ := Aside0.mk (blk_below (g := gb229) (o := .cells #[.slice none 0 0] 26 (0, 0)) (by (with_reducible repeat (first | refine blk_drewN ?_ _ | refine blk_drew ?_ | refine blk_alloc ?_ _)); exact BK229.out) hb)
                      have n3_ := Aside0.mk (blk_below (g := gb234) (o := .cells #[u235000] 26 (0, 0)) (by (with_reducible repeat (first | refine blk_drewN ?_ _ | refine blk_drew ?_ | refine blk_alloc ?_ _)); exact BK234.out) hb)
                      have n4_ := Aside0.mk (below_step (by repeat (first | (with_reducible first | exact HB.out | apply below_alloc | apply pw_below_drewN | apply below_drew1 | refine below_set ?_ GE229.out | refine below_set ?_ GE234.out) | exact HB.out)) hb)
                      clear HO_235000
                      clear BK229
                      clear BK234
                      clear HB
                      have HO_235000 := n0_
                      have HO238 := n1_
                      have BK229 := n2_
                      have BK234 := n3_
                      have HB := n4_
                      clear n0_ n1_ n2_ n3_ n4_
                      (try clear hb)
                      (try clear hb2)
                      (try clear hk)
                      (try clear hi)
                      (try clear ho0)
                      obtain ⟨Ao25, co25, eo25⟩ := Kd.V_slice HO_235000.out
                      (first | subst eo25 | (injection eo25 with f1_ f2_ f3_; have f4_ := f1_.symm; have f5_ := f3_.symm; clear f1_ f2_ f3_; subst f4_; subst f5_))
                      obtain ⟨Ao26, co26, eo26⟩ := Kd.V_slice HO238.out
                      (first | subst eo26 | (injection eo26 with f1_ f2_ f3_; have f4_ := f1_.symm; have f5_ := f3_.symm; clear f1_ f2_ f3_; subst f4_; subst f5_))
                      refine hK.out _ _ ((blk_cell BK234.out 0).trans rfl) (fun hHeld => ?_)
                      clear hK K
                      refine norm_ (a' := ?_) ?_ ?_
                      rotate_left
                      · show Act.put _ (some 39) _ = _
                        simp only [Act.put, List.setIfInBounds_toArray, List.set_cons_zero, List.set_cons_succ, i64_w, i32_w]
                        rfl
                      refine one_ (i := 4) (N := some 40) #[true, true, true, true, true, false, false, false, false, false] rfl rfl (one_of HT_.out (by kernel_rfl)) (by decide) (fun K hK => ?_)
                      refine goes_ Tryd.func44 (by kernel_rfl) rfl #[.agg #[.slice Ao25 x235000_2.length co25], .agg #[.slice Ao26 t236.length co26]] (by rfl) rfl rfl (by (try simp only [List.map_toArray, List.map_cons, List.map_nil]); first | done | rfl | (simp only [List.length_drop, List.length_take]; rfl)) ?_
                      with_reducible refine (nat_Nat_Mul.calls k2 _ _ x235000_2 _ _ t236 t239 t242 _ ?side1 ?side2 ?side3 ?side4 A21.out).mono ?_
                      (case side1 => repeat (first | exact (Kd.V_reads' HO_235000.out).2.2 | (with_reducible refine Kd.C_alloc ?_ _) | (with_reducible refine Kd.C_drewN ?_ _) | (with_reducible refine Kd.C_drew ?_)))
                      (case side2 => exact (Kd.V_reads' HO_235000.out).2.1)
                      (case side3 => repeat (first | exact (Kd.V_reads' HO238.out).2.2 | (with_reducible refine Kd.C_alloc ?_ _) | (with_reducible refine Kd.C_drewN ?_ _) | (with_reducible refine Kd.C_drew ?_)))
                      (case side4 => exact (Kd.V_reads' HO238.out).2.1)
                      rintro e w27 ⟨v240, rfl, ho0, hb⟩
                      refine ⟨_, rfl, ?_⟩
                      have n0_ := Aside0.mk (Kd.V_below (by (with_reducible repeat (first | apply Kd.V_alloc | apply Kd.V_drewN | apply Kd.V_drew)); exact HO_235000.out) hb)
                      have n1_ := Aside0.mk (Kd.V_below (by (with_reducible repeat (first | apply Kd.V_alloc | apply Kd.V_drewN | apply Kd.V_drew)); exact HO238.out) hb)
                      have n2_ := Aside0.mk (Kd.V_lower (Kd.V_mono (ok' := fun k_ => (w.heap.size ≤ k_) ∧ k_ ≠ gb229 ∧ k_ ≠ gb234) ho0 (fun k_ hk_ => ⟨(Nat.le_trans (below_size (by repeat (first | (with_reducible first | exact HB.out | apply below_alloc | apply pw_below_drewN | apply below_drew1 | refine below_set ?_ GE229.out | refine below_set ?_ GE234.out) | exact HB.out))) hk_), (Kd.freshB (g := gb229) (o := .cells #[.slice none 0 0] 26 (0, 0)) (by (with_reducible repeat (first | refine blk_drewN ?_ _ | refine blk_drew ?_ | refine blk_alloc ?_ _)); exact BK229.out) k_ hk_), (Kd.freshB (g := gb234) (o := .cells #[.slice Ao25 x235000_2.length co25] 26 (0, 0)) (by (with_reducible repeat (first | refine blk_drewN ?_ _ | refine blk_drew ?_ | refine blk_alloc ?_ _)); exact BK234.out) k_ hk_)⟩)) (below_size (by repeat (first | (with_reducible first | exact HB.out | apply below_alloc | apply pw_below_drewN | apply below_drew1 | refine below_set ?_ GE229.out | refine below_set ?_ GE234.out) | exact HB.out))))
                      have n3_ := Aside0.mk (blk_below (g := gb229) (o := .cells #[.slice none 0 0] 26 (0, 0)) (by (with_reducible repeat (first | refine blk_drewN ?_ _ | refine blk_drew ?_ | refine blk_alloc ?_ _)); exact BK229.out) hb)
                      have n4_ := Aside0.mk (blk_below (g := gb234) (o := .cells #[.slice Ao25 x235000_2.length co25] 26 (0, 0)) (by (with_reducible repeat (first | refine blk_drewN ?_ _ | refine blk_drew ?_ | refine blk_alloc ?_ _)); exact BK234.out) hb)
                      have n5_ := Aside0.mk (below_step (by repeat (first | (with_reducible first | exact HB.out | apply below_alloc | apply pw_below_drewN | apply below_drew1 | refine below_set ?_ GE229.out | refine below_set ?_ GE234.out) | exact HB.out)) hb)
                      clear HO_235000
                      clear HO238
                      clear BK229
                      clear BK234
                      clear HB
                      have HO_235000 := n0_
                      have HO238 := n1_
                      have HO241 := n2_
                      have BK229 := n3_
                      have BK234 := n4_
                      have HB := n5_
                      clear n0_ n1_ n2_ n3_ n4_ n5_
                      (try clear hb)
                      (try clear hb2)
                      (try clear hk)
                      (try clear hi)
                      (try clear ho0)
                      obtain ⟨Ao28, co28, eo28⟩ := Kd.V_slice HO241.out
                      (first | subst eo28 | (injection eo28 with f1_ f2_ f3_; have f4_ := f1_.symm; have f5_ := f3_.symm; clear f1_ f2_ f3_; subst f4_; subst f5_))
                      refine hK.out _ _ ((blk_cell BK234.out 0).trans rfl) (fun hHeld => ?_)
                      clear hK K
                      refine norm_ (a' := ?_) ?_ ?_
                      rotate_left
                      · show Act.put _ (some 40) _ = _
                        simp only [Act.put, List.setIfInBounds_toArray, List.set_cons_zero, List.set_cons_succ, i64_w, i32_w]
                        rfl
                      refine pure_ (i := 5) (N := some 35) (v := ?_) (a' := ?_) #[true, true, true, true, true, true, false, false, false, false] rfl rfl (any_of HT_.out (by kernel_rfl)) (fun _ _ _ h => h) (Or.inl ⟨by rfl, ?_⟩) ?_ ?_
                      rotate_left
                      · intro w'
                        go_simp
                        with_reducible rfl
                      rotate_left
                      · simp only [Act.put, List.setIfInBounds_toArray, List.set_cons_zero, List.set_cons_succ, i64_w, i32_w]
                        rfl
                      refine pure_ (i := 6) (N := some 41) (v := ?_) (a' := ?_) #[true, true, true, true, true, true, true, false, false, false] rfl rfl (any_of HT_.out (by kernel_rfl)) (fun _ _ _ h => h) (Or.inl ⟨by rfl, ?_⟩) ?_ ?_
                      rotate_left
                      · intro w'
                        go_simp
                        with_reducible rfl
                      rotate_left
                      · simp only [Act.put, List.setIfInBounds_toArray, List.set_cons_zero, List.set_cons_succ, i64_w, i32_w]
                        rfl
                      refine pure_ (i := 7) (N := some 42) (v := ?_) (a' := ?_) #[true, true, true, true, true, true, true, true, false, false] rfl rfl (any_of HT_.out (by kernel_rfl)) (fun _ _ _ h => h) (Or.inl ⟨by rfl, ?_⟩) ?_ ?_
                      rotate_left
                      · intro w'
                        go_simp
                        with_reducible rfl
                      rotate_left
                      · simp only [Act.put, List.setIfInBounds_toArray, List.set_cons_zero, List.set_cons_succ, i64_w, i32_w]
                        rfl
                      refine last_ (i := 8) (N := none) #[true, true, true, true, true, true, true, true, true, false] rfl rfl (one_of HT_.out (by kernel_rfl)) (by decide) (fun K hK => ?_)
                      have hs29 : w27.cell? ⟨gb234, 0, none⟩ = some (.slice Ao25 x235000_2.length co25) := (blk_cell BK234.out 0).trans rfl
                      have hfs29 := blk_frozen BK234.out 0
                      have hns29_0 := NB229_234.out
                      have hms29_0 := NB234_229.out
                      refine skip_ (w1 := ?_) (by rfl) rfl ?_ ?_
                      rotate_left
                      · go_simp
                        rfl
                      refine hK.out _ _ ?_
                      clear hK K
                      refine pure_ (i := 9) (N := some 10) (v := ?_) (a' := ?_) #[true, true, true, true, true, true, true, true, true, true] rfl rfl (any_of HT_.out (by kernel_rfl)) (fun _ _ _ h => h) (Or.inl ⟨by rfl, ?_⟩) ?_ ?_
                      rotate_left
                      · intro w'
                        go_simp
                        with_reducible rfl
                      rotate_left
                      · simp only [Act.put, List.setIfInBounds_toArray, List.set_cons_zero, List.set_cons_succ, i64_w, i32_w]
                        rfl
                      refine done_ (done_of HT_.out (by kernel_rfl)) ?_
                      try go_wp2
                      go_roundg k2
                      case measure => have := HK1.out; have := HK2.out; omega
                      case rel => exact ⟨(wrap64 (x31_2 + 1)), (t239), (.slice Ao28 t239.length co28), (by first | rfl | (simp; done) | (simp [*]; done) | (simp [i64_w]; done) | (simp [*, i64_w]; done)), H', ⟨by have := HK1.out; have := HK2.out; omega⟩, ⟨by (with_reducible repeat (first | apply Kd.V_alloc | apply Kd.V_drewN | apply Kd.V_drew)); exact Kd.V_mono (Kd.V_far (p := ⟨gb234, 0, none⟩) (Kd.V_mono HO241.out (fun k_ hk => (⟨hk, hk.2.2⟩ : _ ∧ k_ ≠ gb234))) (fun _ hk => hk.2) (.slice Ao28 t239.length co28)) (fun _ hk => ⟨hk.1.1, ⟨hk.1.2.1, hk.1.2.2⟩⟩)⟩, ⟨by (with_reducible repeat (first | refine blk_drewN ?_ _ | refine blk_drew ?_ | refine blk_alloc ?_ _)); refine blk_far ?_ NB229_234.out _; (with_reducible repeat (first | refine blk_drewN ?_ _ | refine blk_drew ?_ | refine blk_alloc ?_ _)); exact BK229.out⟩, ⟨by (with_reducible repeat (first | refine blk_drewN ?_ _ | refine blk_drew ?_ | refine blk_alloc ?_ _)); refine blk_put (cs := #[.slice Ao25 x235000_2.length co25]) ?_ 0 _ rfl; (with_reducible repeat (first | refine blk_drewN ?_ _ | refine blk_drew ?_ | refine blk_alloc ?_ _)); exact BK234.out⟩, ⟨by repeat (first | (with_reducible first | exact HB.out | apply below_alloc | apply pw_below_drewN | apply below_drew1 | refine below_set ?_ GE229.out | refine below_set ?_ GE234.out) | exact HB.out)⟩⟩
                    · rw [if_neg c22] at H
                      have c22b0 : (t242 == 0) = false := beq_eq_false_iff_ne.mpr c22
                      have c22b1 : (t242 != 0) = true := bne_iff_ne.mpr c22
                      simp only [Option.some.injEq, Prod.mk.injEq] at H
                      obtain ⟨rfl, rfl⟩ := H
                      have p235 : 0 ≤ (x31_2 : Int) := of_decide_eq_true (by first | (with_reducible assumption) | assumption)
                      have q235 : x31_2 < (l0.length : Int) := of_decide_eq_true (by first | (with_reducible assumption) | assumption)
                      obtain ⟨ad235, e235, hx235_0⟩ := Kd.at_int HR0.out x31_2 p235 q235
                      cases e235
                      replace hx235_0 := (HB.out.cell (World.block_lt_of_cell? w _ hx235_0)).trans hx235_0
                      replace p235 := eq_true p235
                      replace q235 := eq_true q235
                      try go_wp2
                      have n0_ := Aside0.mk (Kd.V_drew HO_235000.out)
                      have n1_ := Aside0.mk (blk_drew BK229.out)
                      have n2_ := Aside0.mk (blk_drew BK234.out)
                      have n3_ := Aside0.mk (below_drew1 HB.out)
                      clear HO_235000
                      clear BK229
                      clear BK234
                      clear HB
                      have HO_235000 := n0_
                      have BK229 := n1_
                      have BK234 := n2_
                      have HB := n3_
                      clear n0_ n1_ n2_ n3_
                      refine start_ (n := 10) (S := fun w' => w'.cell? ⟨gb234, 0, none⟩ = some (u235000)) (ds := [8]) #[false, false, false, false, false, false, false, false, false, false] (by kernel_rfl) rfl rfl ((blk_cell BK234.out 0).trans rfl) (fun hHeld => ?_); refine with_tabW nat_Product.tab16 nat_Product.bits16 (fun HT_ HW_ => ?_)
                      generalize wr.drew = w30 at HO_235000 BK229 BK234 HB hHeld ⊢
                      refine pure_ (i := 1) (N := some 37) (v := ?_) (a' := ?_) #[false, true, false, false, false, false, false, false, false, false] rfl rfl (any_of HT_.out (by kernel_rfl)) (fun _ _ _ h => h) (Or.inl ⟨by rfl, ?_⟩) ?_ ?_
                      rotate_left
                      · intro w'
                        go_simp
                        with_reducible rfl
                      rotate_left
                      · simp only [Act.put, List.setIfInBounds_toArray, List.set_cons_zero, List.set_cons_succ, i64_w, i32_w]
                        rfl
                      refine pure_ (i := 2) (N := some 38) (v := ?_) (a' := ?_) #[false, true, true, false, false, false, false, false, false, false] rfl rfl (any_of HT_.out (by kernel_rfl)) (fun _ _ _ h => h) (Or.inl ⟨by rfl, ?_⟩) ?_ ?_
                      rotate_left
                      · intro w'
                        go_simp
                        with_reducible rfl
                      rotate_left
                      · simp only [Act.put, List.setIfInBounds_toArray, List.set_cons_zero, List.set_cons_succ, i64_w, i32_w]
                        rfl
                      refine take_ (i := 0) (N := some 36) (v := ?_) (a' := ?_) #[true, true, true, false, false, false, false, false, false, false] rfl rfl (take_ofW HT_.out HW_.out (by kernel_rfl)) (fun _ _ _ h => h) (Or.inl ⟨by rfl, ?_⟩) hHeld ?_ ?_
                      rotate_left
                      · intro w' s0
                        go_simp
                        with_reducible rfl
                      rotate_left
                      · simp only [Act.put, List.setIfInBounds_toArray, List.set_cons_zero, List.set_cons_succ, i64_w, i32_w]
                        rfl
                      refine one_ (i := 3) (N := some 39) #[true, true, true, true, false, false, false, false, false, false] rfl rfl (one_of HT_.out (by kernel_rfl)) (by decide) (fun K hK => ?_)
                      refine goes_ Tryd.func48 (by kernel_rfl) rfl #[.int .u64 (IntKind.u64.wrap (rd l0 x31_2))] (by rfl) rfl rfl (by (try simp only [List.map_toArray, List.map_cons, List.map_nil]); first | done | rfl | (simp only [List.length_drop, List.length_take]; rfl)) ?_
                      with_reducible refine (nat_of.calls k2 (IntKind.u64.wrap (rd l0 x31_2)) t236 _ A20.out).mono ?_
                      rintro e w31 ⟨v237, rfl, ho0, hb⟩
                      refine ⟨_, rfl, ?_⟩
                      have n0_ := Aside0.mk (Kd.V_below (by (with_reducible repeat (first | apply Kd.V_alloc | apply Kd.V_drewN | apply Kd.V_drew)); exact HO_235000.out) hb)
                      have n1_ := Aside0.mk (Kd.V_lower (Kd.V_mono (ok' := fun k_ => (w.heap.size ≤ k_) ∧ k_ ≠ gb229 ∧ k_ ≠ gb234) ho0 (fun k_ hk_ => ⟨(Nat.le_trans (below_size (by repeat (first | (with_reducible first | exact HB.out | apply below_alloc | apply pw_below_drewN | apply below_drew1 | refine below_set ?_ GE229.out | refine below_set ?_ GE234.out) | exact HB.out))) hk_), (Kd.freshB (g := gb229) (o := .cells #[.slice none 0 0] 26 (0, 0)) (by (with_reducible repeat (first | refine blk_drewN ?_ _ | refine blk_drew ?_ | refine blk_alloc ?_ _)); exact BK229.out) k_ hk_), (Kd.freshB (g := gb234) (o := .cells #[u235000] 26 (0, 0)) (by (with_reducible repeat (first | refine blk_drewN ?_ _ | refine blk_drew ?_ | refine blk_alloc ?_ _)); exact BK234.out) k_ hk_)⟩)) (below_size (by repeat (first | (with_reducible first | exact HB.out | apply below_alloc | apply pw_below_drewN | apply below_drew1 | refine below_set ?_ GE229.out | refine below_set ?_ GE234.out) | exact HB.out))))
                      have n2_ := Aside0.mk (blk_below (g := gb229) (o := .cells #[.slice none 0 0] 26 (0, 0)) (by (with_reducible repeat (first | refine blk_drewN ?_ _ | refine blk_drew ?_ | refine blk_alloc ?_ _)); exact BK229.out) hb)
                      have n3_ := Aside0.mk (blk_below (g := gb234) (o := .cells #[u235000] 26 (0, 0)) (by (with_reducible repeat (first | refine blk_drewN ?_ _ | refine blk_drew ?_ | refine blk_alloc ?_ _)); exact BK234.out) hb)
                      have n4_ := Aside0.mk (below_step (by repeat (first | (with_reducible first | exact HB.out | apply below_alloc | apply pw_below_drewN | apply below_drew1 | refine below_set ?_ GE229.out | refine below_set ?_ GE234.out) | exact HB.out)) hb)
                      clear HO_235000
                      clear BK229
                      clear BK234
                      clear HB
                      have HO_235000 := n0_
                      have HO238 := n1_
                      have BK229 := n2_
                      have BK234 := n3_
                      have HB := n4_
                      clear n0_ n1_ n2_ n3_ n4_
                      (try clear hb)
                      (try clear hb2)
                      (try clear hk)
                      (try clear hi)
                      (try clear ho0)
                      obtain ⟨Ao32, co32, eo32⟩ := Kd.V_slice HO_235000.out
                      (first | subst eo32 | (injection eo32 with f1_ f2_ f3_; have f4_ := f1_.symm; have f5_ := f3_.symm; clear f1_ f2_ f3_; subst f4_; subst f5_))
                      obtain ⟨Ao33, co33, eo33⟩ := Kd.V_slice HO238.out
                      (first | subst eo33 | (injection eo33 with f1_ f2_ f3_; have f4_ := f1_.symm; have f5_ := f3_.symm; clear f1_ f2_ f3_; subst f4_; subst f5_))
                      refine hK.out _ _ ((blk_cell BK234.out 0).trans rfl) (fun hHeld => ?_)
                      clear hK K
                      refine norm_ (a' := ?_) ?_ ?_
                      rotate_left
                      · show Act.put _ (some 39) _ = _
                        simp only [Act.put, List.setIfInBounds_toArray, List.set_cons_zero, List.set_cons_succ, i64_w, i32_w]
                        rfl
                      refine one_ (i := 4) (N := some 40) #[true, true, true, true, true, false, false, false, false, false] rfl rfl (one_of HT_.out (by kernel_rfl)) (by decide) (fun K hK => ?_)
                      refine goes_ Tryd.func44 (by kernel_rfl) rfl #[.agg #[.slice Ao32 x235000_2.length co32], .agg #[.slice Ao33 t236.length co33]] (by rfl) rfl rfl (by (try simp only [List.map_toArray, List.map_cons, List.map_nil]); first | done | rfl | (simp only [List.length_drop, List.length_take]; rfl)) ?_
                      with_reducible refine (nat_Nat_Mul.calls k2 _ _ x235000_2 _ _ t236 t239 t242 _ ?side1 ?side2 ?side3 ?side4 A21.out).mono ?_
                      (case side1 => repeat (first | exact (Kd.V_reads' HO_235000.out).2.2 | (with_reducible refine Kd.C_alloc ?_ _) | (with_reducible refine Kd.C_drewN ?_ _) | (with_reducible refine Kd.C_drew ?_)))
                      (case side2 => exact (Kd.V_reads' HO_235000.out).2.1)
                      (case side3 => repeat (first | exact (Kd.V_reads' HO238.out).2.2 | (with_reducible refine Kd.C_alloc ?_ _) | (with_reducible refine Kd.C_drewN ?_ _) | (with_reducible refine Kd.C_drew ?_)))
                      (case side4 => exact (Kd.V_reads' HO238.out).2.1)
                      rintro e w34 ⟨v240, rfl, ho0, hb⟩
                      refine ⟨_, rfl, ?_⟩
                      have n0_ := Aside0.mk (Kd.V_below (by (with_reducible repeat (first | apply Kd.V_alloc | apply Kd.V_drewN | apply Kd.V_drew)); exact HO_235000.out) hb)
                      have n1_ := Aside0.mk (Kd.V_below (by (with_reducible repeat (first | apply Kd.V_alloc | apply Kd.V_drewN | apply Kd.V_drew)); exact HO238.out) hb)
                      have n2_ := Aside0.mk (Kd.V_lower (Kd.V_mono (ok' := fun k_ => (w.heap.size ≤ k_) ∧ k_ ≠ gb229 ∧ k_ ≠ gb234) ho0 (fun k_ hk_ => ⟨(Nat.le_trans (below_size (by repeat (first | (with_reducible first | exact HB.out | apply below_alloc | apply pw_below_drewN | apply below_drew1 | refine below_set ?_ GE229.out | refine below_set ?_ GE234.out) | exact HB.out))) hk_), (Kd.freshB (g := gb229) (o := .cells #[.slice none 0 0] 26 (0, 0)) (by (with_reducible repeat (first | refine blk_drewN ?_ _ | refine blk_drew ?_ | refine blk_alloc ?_ _)); exact BK229.out) k_ hk_), (Kd.freshB (g := gb234) (o := .cells #[.slice Ao32 x235000_2.length co32] 26 (0, 0)) (by (with_reducible repeat (first | refine blk_drewN ?_ _ | refine blk_drew ?_ | refine blk_alloc ?_ _)); exact BK234.out) k_ hk_)⟩)) (below_size (by repeat (first | (with_reducible first | exact HB.out | apply below_alloc | apply pw_below_drewN | apply below_drew1 | refine below_set ?_ GE229.out | refine below_set ?_ GE234.out) | exact HB.out))))
                      have n3_ := Aside0.mk (blk_below (g := gb229) (o := .cells #[.slice none 0 0] 26 (0, 0)) (by (with_reducible repeat (first | refine blk_drewN ?_ _ | refine blk_drew ?_ | refine blk_alloc ?_ _)); exact BK229.out) hb)
                      have n4_ := Aside0.mk (blk_below (g := gb234) (o := .cells #[.slice Ao32 x235000_2.length co32] 26 (0, 0)) (by (with_reducible repeat (first | refine blk_drewN ?_ _ | refine blk_drew ?_ | refine blk_alloc ?_ _)); exact BK234.out) hb)
                      have n5_ := Aside0.mk (below_step (by repeat (first | (with_reducible first | exact HB.out | apply below_alloc | apply pw_below_drewN | apply below_drew1 | refine below_set ?_ GE229.out | refine below_set ?_ GE234.out) | exact HB.out)) hb)
                      clear HO_235000
                      clear HO238
                      clear BK229
                      clear BK234
                      clear HB
                      have HO_235000 := n0_
                      have HO238 := n1_
                      have HO241 := n2_
                      have BK229 := n3_
                      have BK234 := n4_
                      have HB := n5_
                      clear n0_ n1_ n2_ n3_ n4_ n5_
                      (try clear hb)
                      (try clear hb2)
                      (try clear hk)
                      (try clear hi)
                      (try clear ho0)
                      obtain ⟨Ao35, co35, eo35⟩ := Kd.V_slice HO241.out
                      (first | subst eo35 | (injection eo35 with f1_ f2_ f3_; have f4_ := f1_.symm; have f5_ := f3_.symm; clear f1_ f2_ f3_; subst f4_; subst f5_))
                      refine hK.out _ _ ((blk_cell BK234.out 0).trans rfl) (fun hHeld => ?_)
                      clear hK K
                      refine norm_ (a' := ?_) ?_ ?_
                      rotate_left
                      · show Act.put _ (some 40) _ = _
                        simp only [Act.put, List.setIfInBounds_toArray, List.set_cons_zero, List.set_cons_succ, i64_w, i32_w]
                        rfl
                      refine pure_ (i := 5) (N := some 35) (v := ?_) (a' := ?_) #[true, true, true, true, true, true, false, false, false, false] rfl rfl (any_of HT_.out (by kernel_rfl)) (fun _ _ _ h => h) (Or.inl ⟨by rfl, ?_⟩) ?_ ?_
                      rotate_left
                      · intro w'
                        go_simp
                        with_reducible rfl
                      rotate_left
                      · simp only [Act.put, List.setIfInBounds_toArray, List.set_cons_zero, List.set_cons_succ, i64_w, i32_w]
                        rfl
                      refine pure_ (i := 6) (N := some 41) (v := ?_) (a' := ?_) #[true, true, true, true, true, true, true, false, false, false] rfl rfl (any_of HT_.out (by kernel_rfl)) (fun _ _ _ h => h) (Or.inl ⟨by rfl, ?_⟩) ?_ ?_
                      rotate_left
                      · intro w'
                        go_simp
                        with_reducible rfl
                      rotate_left
                      · simp only [Act.put, List.setIfInBounds_toArray, List.set_cons_zero, List.set_cons_succ, i64_w, i32_w]
                        rfl
                      refine pure_ (i := 7) (N := some 42) (v := ?_) (a' := ?_) #[true, true, true, true, true, true, true, true, false, false] rfl rfl (any_of HT_.out (by kernel_rfl)) (fun _ _ _ h => h) (Or.inl ⟨by rfl, ?_⟩) ?_ ?_
                      rotate_left
                      · intro w'
                        go_simp
                        with_reducible rfl
                      rotate_left
                      · simp only [Act.put, List.setIfInBounds_toArray, List.set_cons_zero, List.set_cons_succ, i64_w, i32_w]
                        rfl
                      refine last_ (i := 8) (N := none) #[true, true, true, true, true, true, true, true, true, false] rfl rfl (one_of HT_.out (by kernel_rfl)) (by decide) (fun K hK => ?_)
                      have hs36 : w34.cell? ⟨gb234, 0, none⟩ = some (.slice Ao32 x235000_2.length co32) := (blk_cell BK234.out 0).trans rfl
                      have hfs36 := blk_frozen BK234.out 0
                      have hns36_0 := NB229_234.out
                      have hms36_0 := NB234_229.out
                      refine skip_ (w1 := ?_) (by rfl) rfl ?_ ?_
                      rotate_left
                      · go_simp
                        rfl
                      refine hK.out _ _ ?_
                      clear hK K
                      refine pure_ (i := 9) (N := some 10) (v := ?_) (a' := ?_) #[true, true, true, true, true, true, true, true, true, true] rfl rfl (any_of HT_.out (by kernel_rfl)) (fun _ _ _ h => h) (Or.inl ⟨by rfl, ?_⟩) ?_ ?_
                      rotate_left
                      · intro w'
                        go_simp
                        with_reducible rfl
                      rotate_left
                      · simp only [Act.put, List.setIfInBounds_toArray, List.set_cons_zero, List.set_cons_succ, i64_w, i32_w]
                        rfl
                      refine done_ (done_of HT_.out (by kernel_rfl)) ?_
                      have hnb37 := NB229_234.out
                      have hnc37 := NB234_229.out
                      have hcz38_0 : w34.cell? ⟨gb229, 0, none⟩ = some (.slice none 0 0) := (blk_cell BK229.out 0).trans rfl
                      have hfz38_0 := blk_frozen BK229.out 0
                      try go_wp2
                      refine bodyPost_ret (results_ct rfl _ _ gb229 26 #[.slice none 0 0] (0, 0) _ rfl (by (with_reducible repeat (first | refine blk_drewN ?_ _ | refine blk_drew ?_ | refine blk_alloc ?_ _)); refine blk_put (cs := #[.slice none 0 0]) ?_ 0 _ rfl; (with_reducible repeat (first | refine blk_drewN ?_ _ | refine blk_drew ?_ | refine blk_alloc ?_ _)); refine blk_far ?_ NB229_234.out _; (with_reducible repeat (first | refine blk_drewN ?_ _ | refine blk_drew ?_ | refine blk_alloc ?_ _)); exact BK229.out) Tryd.underlying26 rfl (by kernel_rfl)) rfl ?_
                      exact ⟨_, by first | rfl | (simp [errW_none, errW_some] <;> rfl) | (simp [*, errW_none, errW_some] <;> rfl), Kd.R_V (base := w.heap.size) (by first | exact Kd.R_nil _ _ _ _ (fun _ => False) | exact Kd.R_nil _ _ _ _ _ | exact Kd.N_nil _ _ _ _ _ | exact Kd.V_nil _ _ _ _ _ | exact Kd.Q_nil _ _ _ _ _ | exact Kd.S_nil _ _ _ _ _), by repeat (first | (with_reducible first | exact HB.out | apply below_alloc | apply pw_below_drewN | apply below_drew1 | refine below_set ?_ GE229.out | refine below_set ?_ GE234.out) | exact HB.out)⟩
                  · rw [if_neg c19] at H
                    exact absurd H (by simp)
                · rw [if_neg c18] at H
                  exact absurd H (by simp)
              · rw [if_neg c17] at H
                have c17b0 : decide (x31_2 < (l0.length : Int)) = false := decide_eq_false c17
                clear c17
                simp only [Option.some.injEq, Prod.mk.injEq] at H
                obtain ⟨rfl, rfl⟩ := H
                have hnb39 := NB234_229.out
                have hnc39 := NB229_234.out
                have hcz40_0 : wr.cell? ⟨gb234, 0, none⟩ = some (u235000) := (blk_cell BK234.out 0).trans rfl
                have hfz40_0 := blk_frozen BK234.out 0
                obtain ⟨Ao41, co41, eo41⟩ := Kd.V_slice HO_235000.out
                subst eo41
                have hcz42_0 : wr.cell? ⟨gb229, 0, none⟩ = some (.slice none 0 0) := (blk_cell BK229.out 0).trans rfl
                have hfz42_0 := blk_frozen BK229.out 0
                go_wp2
                refine bodyPost_ret (results_ct rfl _ _ gb229 26 #[.slice Ao41 x235000_2.length co41] (0, 0) _ rfl (by (with_reducible repeat (first | refine blk_drewN ?_ _ | refine blk_drew ?_ | refine blk_alloc ?_ _)); refine blk_put (cs := #[.slice none 0 0]) ?_ 0 _ rfl; (with_reducible repeat (first | refine blk_drewN ?_ _ | refine blk_drew ?_ | refine blk_alloc ?_ _)); exact BK229.out) Tryd.underlying26 rfl (by kernel_rfl)) rfl ?_
                exact ⟨_, by first | rfl | (simp [errW_none, errW_some] <;> rfl) | (simp [*, errW_none, errW_some] <;> rfl), by (with_reducible repeat (first | apply Kd.V_alloc | apply Kd.V_drewN | apply Kd.V_drew)); exact Kd.V_mono (Kd.V_far (p := ⟨gb229, 0, none⟩) (Kd.V_mono HO_235000.out (fun k_ hk => (⟨hk, hk.2.1⟩ : _ ∧ k_ ≠ gb229))) (fun _ hk => hk.2) (.slice Ao41 x235000_2.length co41)) (fun _ hk => hk.1.1), by repeat (first | (with_reducible first | exact HB.out | apply below_alloc | apply pw_below_drewN | apply below_drew1 | refine below_set ?_ GE229.out | refine below_set ?_ GE234.out) | exact HB.out)⟩
end Go.Proofs.YtgcngbmkgjphpaaDoor.PAll
end

section
namespace Go.Proofs.YtgcngbmkgjphpaaDoor.Nums
open Go.RowKit Go.Proofs.YtgcngbmkgjphpaaDoor.PAll Go.Proofs.YtgcngbmkgjphpaaDoorW.PrintWords Go.Proofs.YtgcngbmkgjphpaaDoorW.PrintLast Go.Proofs.YtgcngbmkgjphpaaDoorW.PrintMore
set_option linter.unusedVariables false
set_option linter.unusedSimpArgs false
theorem bl_pow {x : Nat} (hx : x ≠ 0) (n : Nat) : (bl x - 1) * n < bl (x ^ n) := by
  have h1 := bl_pos.mpr hx
  have a1 : 2 ^ (bl x - 1) ≤ x := lt_bl.mp (by omega)
  have a2 := Nat.pow_le_pow_left a1 n
  rw [← Nat.pow_mul] at a2
  exact lt_bl.mpr a2
theorem pow_mono {x i n : Nat} (hx : 0 < x) (h : i ≤ n) : x ^ i ≤ x ^ n := Nat.pow_le_pow_right hx h
theorem small_pow {x n : Nat} (hx : bl x ≤ 1) (hn : n ≠ 0) : x ^ n = x := by
  have h : x < 2 := by simpa using bl_le.mp hx
  have : x = 0 ∨ x = 1 := by omega
  rcases this with rfl | rfl
  · exact Nat.zero_pow (by omega)
  · exact Nat.one_pow n
/-- The loop of the program's power. -/
theorem pow_loop (x n : Nat) (hx : 2 ≤ bl x) (hxl : bl x ≤ 65536) (hn : n ≤ 65536) (R : List Int × Int) (hfit : bl (x ^ n) ≤ 65536 → R = (dgs 4294967296 (x ^ n), 0)) (hbig : ¬ bl (x ^ n) ≤ 65536 → R = ([], 41)) : ∀ (m i : Nat), m = n - i → i ≤ n → bl (x ^ i) ≤ 65536 →
    Ev (fun k => nat_Nat_Power.l0 k (n : Int) (i : Int) (dgs 4294967296 x) (dgs 4294967296 (x ^ i))) R := by
  have hx0 : 0 < x := by
    rcases Nat.eq_zero_or_pos x with h | h
    · subst h; rw [bl_zero] at hx; omega
    · exact h
  intro m
  induction m with
  | zero =>
    intro i hm hi hb
    obtain rfl : i = n := by omega
    rw [hfit hb]
    refine Ev.step (f := fun _ => some (dgs 4294967296 (x ^ i), 0)) (fun k => ?_) (Ev.now _)
    rw [nat_Nat_Power.l0, if_neg (by omega)]
  | succ m ih =>
    intro i hm hi hb
    by_cases g : bl (x ^ i * x) ≤ 65536
    · have h1 := ih (i + 1) (by omega) (by omega) (by rw [Nat.pow_succ]; exact g)
      rw [Nat.pow_succ] at h1
      have h2 := (mul_fits hb hxl g).bind (f := fun k bt180 => (if bt180.2 = 0 then (nat_Nat_Power.l0 k (n : Int) ((i + 1 : Nat) : Int) (dgs 4294967296 x) bt180.1) else (some (([] : List Int), bt180.2)))) (r := R) (Ev.congr (fun k => by rw [if_pos rfl]) h1)
      refine Ev.step (fun k => ?_) h2
      rw [nat_Nat_Power.l0, if_pos (by omega), wrap_in (by omega) (by omega)]
      rfl
    · have hnb : ¬ bl (x ^ n) ≤ 65536 := by
        have := bl_mono (pow_mono hx0 (show i + 1 ≤ n by omega))
        rw [Nat.pow_succ] at this
        omega
      rw [hbig hnb]
      have h2 := (mul_big hb hxl g).bind (f := fun k bt180 => (if bt180.2 = 0 then (nat_Nat_Power.l0 k (n : Int) ((i + 1 : Nat) : Int) (dgs 4294967296 x) bt180.1) else (some (([] : List Int), bt180.2)))) (r := ([], 41)) (Ev.congr (fun k => by rw [if_neg (by decide)]) (Ev.now _))
      refine Ev.step (fun k => ?_) h2
      rw [nat_Nat_Power.l0, if_pos (by omega), wrap_in (by omega) (by omega)]
      rfl
theorem pow_head (k : Nat) (l : List Int) (a n : Int) (hb : nat_Nat_Bits.f l = some a) (h0 : ¬ n < 0) (h1 : ¬ n = 0) (h2 : ¬ a < 2) (h3 : ¬ n > 2147483647) (A : Int) (hA : wrap64 (wrap64 (a - 1) * n) = A) (h4 : ¬ A ≥ 65536) : nat_Nat_Power.f k l n = (nat_of.f k 1).bind fun t176 => nat_Nat_Power.l0 k n 0 l t176 := by
  unfold nat_Nat_Power.f
  rw [if_neg h0, if_neg h1, hb, Option.bind_some, if_neg h2, if_neg h3, Option.bind_some, hA, if_neg h4]
theorem pow_head_big (k : Nat) (l : List Int) (a n : Int) (hb : nat_Nat_Bits.f l = some a) (h0 : ¬ n < 0) (h1 : ¬ n = 0) (h2 : ¬ a < 2) (h3 : n > 2147483647 ∨ wrap64 (wrap64 (a - 1) * n) ≥ 65536) : nat_Nat_Power.f k l n = some ([], 41) := by
  unfold nat_Nat_Power.f
  rw [if_neg h0, if_neg h1, hb, Option.bind_some, if_neg h2]
  by_cases c : n > 2147483647
  · rw [if_pos c]
  · rw [if_neg c, Option.bind_some, if_pos (h3.resolve_left c)]
/-- The program's power. -/
theorem pow_ev (x n : Nat) (hxl : bl x ≤ 65536) (hn : n < 9223372036854775808) (R : List Int × Int) (hfit : bl (x ^ n) ≤ 65536 → R = (dgs 4294967296 (x ^ n), 0)) (hbig : ¬ bl (x ^ n) ≤ 65536 → R = ([], 41)) : Ev (fun k => nat_Nat_Power.f k (dgs 4294967296 x) (n : Int)) R := by
  have lx := pd_len (n := x) (k := 2048) (by omega)
  have hb := bits_some (n := x) (by omega)
  by_cases h0 : n = 0
  · subst h0
    rw [Nat.pow_zero] at hfit
    rw [hfit (by rw [bl_one]; omega)]
    refine Ev.congr (fun k => ?_) ((of_ev 1 (by omega)).bind (f := fun _ t171 => some (t171, (0 : Int))) (Ev.now _))
    unfold nat_Nat_Power.f
    rw [if_neg (by omega), if_pos (by omega)]
    rfl
  · by_cases h1 : bl x < 2
    · have e := small_pow (x := x) (n := n) (by omega) h0
      rw [e] at hfit
      rw [hfit hxl]
      refine Ev.congr (fun k => ?_) (Ev.now _)
      unfold nat_Nat_Power.f
      rw [if_neg (by omega), if_neg (by omega), hb, Option.bind_some, if_pos (by omega)]
    · have hx0 : x ≠ 0 := by rintro rfl; rw [bl_zero] at h1; omega
      have hbp := bl_pow hx0 n
      have hge : n ≤ (bl x - 1) * n := Nat.le_mul_of_pos_left n (by omega)
      by_cases h2 : n > 2147483647
      · have hB : ¬ bl (x ^ n) ≤ 65536 := by omega
        rw [hbig hB]
        refine Ev.congr (fun k => ?_) (Ev.now _)
        exact pow_head_big k _ _ _ hb (by omega) (by omega) (by omega) (.inl (by omega))
      · have hprod : (bl x - 1) * n ≤ 65535 * 2147483647 := Nat.mul_le_mul (by omega) (by omega)
        have hw : wrap64 (wrap64 (((bl x : Nat) : Int) - 1) * (n : Int)) = (((bl x - 1) * n : Nat) : Int) := by
          rw [wrap_in (a := ((bl x : Nat) : Int) - 1) (by omega) (by omega), show ((bl x : Nat) : Int) - 1 = ((bl x - 1 : Nat) : Int) by omega, ← Int.natCast_mul]
          generalize (bl x - 1) * n = M at *
          rw [wrap_in (by omega) (by omega)]
        by_cases h3 : (bl x - 1) * n ≥ 65536
        · have hB : ¬ bl (x ^ n) ≤ 65536 := by omega
          rw [hbig hB]
          refine Ev.congr (fun k => ?_) (Ev.now _)
          exact pow_head_big k _ _ _ hb (by omega) (by omega) (by omega) (.inr (by rw [hw]; omega))
        · have hl := pow_loop x n (by omega) hxl (by omega) R hfit hbig n 0 (by omega) (by omega) (by rw [Nat.pow_zero, bl_one]; omega)
          rw [Nat.pow_zero] at hl
          have h4 := (of_ev 1 (by omega)).bind (f := fun k t176 => nat_Nat_Power.l0 k (n : Int) 0 (dgs 4294967296 x) t176) hl
          refine Ev.congr (fun k => ?_) h4
          exact pow_head k _ _ _ hb (by omega) (by omega) (by omega) (by omega) _ hw (by omega)
theorem rone : ([1] : List Int) = dgs 65536 1 := by rw [dgs_pos (by omega) (by omega), show 1 / 65536 = 0 from rfl, dgs_zero]; rfl
/-- awake: a small power. -/
theorem seven20 : (7 : Nat) ^ 20 = 79792266297612001 := by decide
theorem bl_seven : bl 79792266297612001 = 57 := by
  apply Nat.le_antisymm
  · rw [bl_le]; decide
  · have : 56 < bl 79792266297612001 := by rw [lt_bl]; decide
    omega
theorem dec_seven : (dec 79792266297612001).toList = ([55, 57, 55, 57, 50, 50, 54, 54, 50, 57, 55, 54, 49, 50, 48, 48, 49] : List UInt8) := by
  have h := dgs_split (b := 10) (by omega) 16 79792266297612001 (by decide)
  rw [show 79792266297612001 / 10 ^ 16 = 7 from by decide, dgs_pos (b := 10) (n := 7) (by omega) (by omega), show 7 / 10 = 0 from rfl, dgs_zero] at h
  unfold dec dd
  rw [if_neg (by omega), h, ByteArray.toList_eq, strOfNums_data]
  decide
theorem awake_ev : Ev (fun k => heraldlaw04_awake.f k) true := by
  have h1 := Of_ev 7 (by omega)
  have b7 : bl 7 ≤ 65536 := by
    have : bl 7 ≤ 3 := bl_le.mpr (by decide)
    omega
  have hs : bl (7 ^ 20) ≤ 65536 := by rw [seven20, bl_seven]; omega
  have h2 := pow_ev 7 20 b7 (by omega) (dgs 4294967296 79792266297612001, 0) (fun _ => by rw [seven20]) (fun h => absurd hs h)
  have l1 := pd_len (n := 79792266297612001) (k := 2) (by rw [bl_seven]; omega)
  have h3 := text_ev (n := 79792266297612001) (by omega)
  have h4 := bits_some (n := 79792266297612001) (by omega)
  rw [bl_seven] at h4
  have q1 : Ev (fun k => (nat_Nat_Text.f k (dgs 4294967296 79792266297612001)).bind fun t194 => (if t194.toList = ([55, 57, 55, 57, 50, 50, 54, 54, 50, 57, 55, 54, 49, 50, 48, 48, 49] : List UInt8) then ((nat_Nat_Bits.f (dgs 4294967296 79792266297612001)).bind fun t195 => (some (t195 == 57))) else (some false))) true := by
    refine h3.bind (f := fun k t194 => (if t194.toList = ([55, 57, 55, 57, 50, 50, 54, 54, 50, 57, 55, 54, 49, 50, 48, 48, 49] : List UInt8) then ((nat_Nat_Bits.f (dgs 4294967296 79792266297612001)).bind fun t195 => (some (t195 == 57))) else (some false))) (Ev.congr (fun k => ?_) (Ev.now _))
    rw [if_pos dec_seven, h4]
    rfl
  have q2 := h2.bind (f := fun k bt189 => (if (0 : Int) = 0 then (if bt189.2 = 0 then ((nat_Nat_Text.f k bt189.1).bind fun t194 => (if t194.toList = ([55, 57, 55, 57, 50, 50, 54, 54, 50, 57, 55, 54, 49, 50, 48, 48, 49] : List UInt8) then ((nat_Nat_Bits.f bt189.1).bind fun t195 => (some (t195 == 57))) else (some false))) else (some false)) else (some false))) (r := true) (Ev.congr (fun k => by rw [if_pos rfl, if_pos rfl]) q1)
  exact h1.bind q2
/-- Products of lists. -/
def prodL : List Int → Nat → Nat
  | [], v => v
  | a :: l, v => prodL l (v * a.toNat)
theorem prodL_le (l : List Int) (h : ∀ x ∈ l, 0 < x) : ∀ v, v ≤ prodL l v := by
  induction l with
  | nil => intro v; exact Nat.le_refl _
  | cons a l ih =>
    intro v
    have := ih (fun x hx => h x (by simp [hx])) (v * a.toNat)
    have ha := h a (by simp)
    have := Nat.le_mul_of_pos_right v (show 0 < a.toNat by omega)
    rw [prodL]; omega
theorem prod_l1 (l : List Int) (hl : l.length ≤ 17592186044416) (hp : ∀ x ∈ l, 0 < x ∧ x < 9223372036854775808) (w : Nat) (R : List Int × Int) (hfit : bl w ≤ 65536 → R = (dgs 4294967296 w, 0)) (hbig : ¬ bl w ≤ 65536 → R = ([], 41)) : ∀ (m i v : Nat), m = l.length - i → i ≤ l.length → bl v ≤ 65536 → prodL (l.drop i) v = w →
    Ev (fun k => nat_Product.l1 k l (l.length : Int) (i : Int) (dgs 4294967296 v)) R := by
  intro m
  induction m with
  | zero =>
    intro i v hm hi hb hw
    rw [List.drop_eq_nil_of_le (by omega)] at hw
    have hw2 : v = w := hw
    subst hw2
    rw [hfit hb]
    refine Ev.step (f := fun _ => some (dgs 4294967296 v, 0)) (fun k => ?_) (Ev.now _)
    rw [nat_Product.l1, if_neg (by omega)]
  | succ m ih =>
    intro i v hm hi hb hw
    have hlt : i < l.length := by omega
    have hx := hp l[i] (List.getElem_mem hlt)
    rw [List.drop_eq_getElem_cons hlt, prodL] at hw
    have hof := of_ev l[i].toNat (by omega)
    have hbx : bl l[i].toNat ≤ 65536 := by
      have : bl l[i].toNat ≤ 63 := bl_le.mpr (by rw [show (2 : Nat) ^ 63 = 9223372036854775808 from rfl]; omega)
      omega
    have hr : IntKind.u64.wrap (rd l (i : Int)) = ((l[i].toNat : Nat) : Int) := by rw [rd_at l i hlt, u64_in (by omega) (by omega)]; omega
    have lay : ∀ A : List Int × Int, Ev (fun k => (nat_Nat_Mul.f k (dgs 4294967296 v) (dgs 4294967296 l[i].toNat)).bind fun bt239 => (if bt239.2 = 0 then (nat_Product.l1 k l (l.length : Int) ((i + 1 : Nat) : Int) bt239.1) else (some (([] : List Int), bt239.2)))) A → Ev (fun k => nat_Product.l1 k l (l.length : Int) (i : Int) (dgs 4294967296 v)) A := by
      intro A hA
      have q := hof.bind (f := fun k t236 => ((nat_Nat_Mul.f k (dgs 4294967296 v) t236).bind fun bt239 => (if bt239.2 = 0 then (nat_Product.l1 k l (l.length : Int) ((i + 1 : Nat) : Int) bt239.1) else (some (([] : List Int), bt239.2))))) hA
      refine Ev.step (fun k => ?_) q
      rw [nat_Product.l1, if_pos (by omega), if_pos (by omega), if_pos (by omega), hr, wrap_in (by omega) (by omega)]
      rfl
    by_cases g : bl (v * l[i].toNat) ≤ 65536
    · have h1 := ih (i + 1) (v * l[i].toNat) (by omega) (by omega) g hw
      exact lay R ((mul_fits hb hbx g).bind (f := fun k bt239 => (if bt239.2 = 0 then (nat_Product.l1 k l (l.length : Int) ((i + 1 : Nat) : Int) bt239.1) else (some (([] : List Int), bt239.2)))) (Ev.congr (fun k => by rw [if_pos rfl]) h1))
    · have hwb : ¬ bl w ≤ 65536 := by
        have := bl_mono (prodL_le (l.drop (i + 1)) (fun x hx => (hp x (List.mem_of_mem_drop hx)).1) (v * l[i].toNat))
        rw [hw] at this
        omega
      rw [hbig hwb]
      exact lay _ ((mul_big hb hbx g).bind (f := fun k bt239 => (if bt239.2 = 0 then (nat_Product.l1 k l (l.length : Int) ((i + 1 : Nat) : Int) bt239.1) else (some (([] : List Int), bt239.2)))) (Ev.congr (fun k => by rw [if_neg (by decide)]) (Ev.now _)))
/-- The reference's list goes on without change, once it is too big. -/
theorem rprod_over (l : List Int) (hl : l.length ≤ 17592186044416) (v : List Int) : ∀ (m i : Nat), m = l.length - i → i ≤ l.length → Ev (fun k => heraldref04_Product.l1 k v true l (l.length : Int) (i : Int)) ([], 41) := by
  intro m
  induction m with
  | zero =>
    intro i hm hi
    refine Ev.step (f := fun _ => some ([], 41)) (fun k => ?_) (Ev.now _)
    rw [heraldref04_Product.l1, if_neg (by omega), if_pos rfl]
  | succ m ih =>
    intro i hm hi
    refine Ev.step (fun k => ?_) (ih (i + 1) (by omega) (by omega))
    rw [heraldref04_Product.l1, if_pos (by omega), if_pos (by omega), if_pos (by omega), if_pos rfl, wrap_in (by omega) (by omega)]
    rfl
theorem rprod_l1 (l : List Int) (hl : l.length ≤ 17592186044416) (hp : ∀ x ∈ l, 0 < x ∧ x < 9223372036854775808) (w : Nat) (R : List Int × Int) (hfit : bl w ≤ 65536 → R = (dgs 65536 w, 0)) (hbig : ¬ bl w ≤ 65536 → R = ([], 41)) : ∀ (m i v : Nat), m = l.length - i → i ≤ l.length → bl v ≤ 65536 → prodL (l.drop i) v = w →
    Ev (fun k => heraldref04_Product.l1 k (dgs 65536 v) false l (l.length : Int) (i : Int)) R := by
  intro m
  induction m with
  | zero =>
    intro i v hm hi hb hw
    rw [List.drop_eq_nil_of_le (by omega)] at hw
    have hw2 : v = w := hw
    subst hw2
    rw [hfit hb]
    refine Ev.step (f := fun _ => some (dgs 65536 v, 0)) (fun k => ?_) (Ev.now _)
    rw [heraldref04_Product.l1, if_neg (by omega), if_neg (by decide)]
  | succ m ih =>
    intro i v hm hi hb hw
    have hlt : i < l.length := by omega
    have hx := hp l[i] (List.getElem_mem hlt)
    rw [List.drop_eq_getElem_cons hlt, prodL] at hw
    have hof := rof_ev l[i].toNat (by omega)
    have lv := rg_len (n := v) (k := 4096) (by omega)
    have la : (dgs 65536 l[i].toNat).length ≤ 4 := (dgs_len_le (by omega)).mpr (by omega)
    have lm := mul_len 65536 v l[i].toNat (by omega)
    have hmul := rmul_ev (x := v) (y := l[i].toNat) (by omega)
    have hbits := rbits_ev (n := v * l[i].toNat) (by omega)
    have hr : rd l (i : Int) = ((l[i].toNat : Nat) : Int) := by rw [rd_at l i hlt]; omega
    have lay : ∀ A : List Int × Int, Ev (fun k => heraldref04_Product.l1 k (dgs 65536 (v * l[i].toNat)) (decide (((bl (v * l[i].toNat) : Nat) : Int) > 65536)) l (l.length : Int) ((i + 1 : Nat) : Int)) A → Ev (fun k => heraldref04_Product.l1 k (dgs 65536 v) false l (l.length : Int) (i : Int)) A := by
      intro A hA
      have q1 := hbits.bind (f := fun k t270 => (heraldref04_Product.l1 k (dgs 65536 (v * l[i].toNat)) (decide (t270 > 65536)) l (l.length : Int) ((i + 1 : Nat) : Int))) hA
      have q2 := hmul.bind (f := fun k t267 => ((heraldref04_Bits.f k t267).bind fun t270 => (heraldref04_Product.l1 k t267 (decide (t270 > 65536)) l (l.length : Int) ((i + 1 : Nat) : Int)))) q1
      have q3 := hof.bind (f := fun k t264 => ((heraldref04_Mul.f k (dgs 65536 v) t264).bind fun t267 => ((heraldref04_Bits.f k t267).bind fun t270 => (heraldref04_Product.l1 k t267 (decide (t270 > 65536)) l (l.length : Int) ((i + 1 : Nat) : Int))))) q2
      refine Ev.step (fun k => ?_) q3
      rw [heraldref04_Product.l1, if_pos (by omega), if_pos (by omega), if_pos (by omega), if_neg (by decide), hr, wrap_in (by omega) (by omega)]
      rfl
    by_cases g : bl (v * l[i].toNat) ≤ 65536
    · have h1 := ih (i + 1) (v * l[i].toNat) (by omega) (by omega) g hw
      exact lay R (Ev.congr (fun k => by rw [decide_eq_false (by omega)]) h1)
    · have hwb : ¬ bl w ≤ 65536 := by
        have := bl_mono (prodL_le (l.drop (i + 1)) (fun x hx => (hp x (List.mem_of_mem_drop hx)).1) (v * l[i].toNat))
        rw [hw] at this
        omega
      rw [hbig hwb]
      exact lay _ (Ev.congr (fun k => by rw [decide_eq_true (by omega)]) (rprod_over l hl (dgs 65536 (v * l[i].toNat)) m (i + 1) (by omega) (by omega)))
end Go.Proofs.YtgcngbmkgjphpaaDoor.Nums
end

section
namespace Go.Proofs.YtgcngbmkgjphpaaDoor.PAll
open Go.RowKit Go.Proofs.YtgcngbmkgjphpaaDoorW.PrintWords Go.Proofs.YtgcngbmkgjphpaaDoorW.PrintLast Go.Proofs.YtgcngbmkgjphpaaDoorW.PrintMore
attribute [local go_sem] max2_int min2_int max_two min_two max_three min_three max_four min_four   -- for this text's walks alone
set_option linter.unusedVariables false
set_option linter.unusedSimpArgs false
mutual
def heraldlaw04_NatMakes.j0 : Nat → Int → List Int → Int → Int → List Int → Option (Bool)
  | 0, _, _, _, _, _ => none
  | k + 1, x0, x1, x6, x7, x277000 => (heraldref04_Of.f k x0).bind fun t277 => ((heraldlaw04_is.f k x277000 x6 t277 x7).bind fun t280 => (if t280 = true then ((some (([] : List Int) : List Int)).bind fun y281 => (if y281.length + x1.length < 17592186044416 then ((some (y281 ++ x1 : List Int)).bind fun y284 => ((nat_Product.f k y284).bind fun bt287 => ((heraldref04_Product.f k x1).bind fun bt291 => (heraldlaw04_NatMakes.l0 k bt287.2 bt291.2 y284 bt291.1 x1 (x1.length : Int) 0 bt287.1)))) else (none))) else (some false)))
def heraldlaw04_NatMakes.l0 : Nat → Int → Int → List Int → List Int → List Int → Int → Int → List Int → Option (Bool)
  | 0, _, _, _, _, _, _, _, _ => none
  | k + 1, x6, x7, x8, x9, x41, x42, x43, x277000 => if x43 < x42 then (if 0 ≤ x43 then (if x43 < (x41.length : Int) then (if x43 < (x8.length : Int) then (if (rd x8 x43) = (rd x41 x43) then (heraldlaw04_NatMakes.l0 k x6 x7 x8 x9 x41 x42 (wrap64 (x43 + 1)) x277000) else (some false)) else (none)) else (none)) else (none)) else ((heraldlaw04_is.f k x277000 x6 x9 x7).bind fun t297 => (some t297))
end
def heraldlaw04_NatMakes.f (k : Nat) (a0 : Int) (l1 : List Int) : Option (Bool) := (heraldlaw04_awake.f k).bind fun t271 => (if t271 = true then ((nat_Of.f k a0).bind fun bt272 => (if a0 < 0 then (heraldlaw04_NatMakes.j0 k a0 l1 bt272.2 40 bt272.1) else (heraldlaw04_NatMakes.j0 k a0 l1 bt272.2 0 bt272.1))) else (some false))
set_option maxHeartbeats 8000000 in
set_option maxRecDepth 100000 in
theorem heraldlaw04_NatMakes.calls (k : Nat) (a0 : Int) (A1 : Option Addr) (c1 : Nat) (l1 : List Int) (r : Bool) (w : World) (hr1 : Kd.C (Kd.int .i64) w A1 l1.length l1) (hc1 : l1.length ≤ c1) (h : heraldlaw04_NatMakes.f k a0 l1 = some r) :
    Calls Tryd.prog 3 #[.int .i64 a0, .slice A1 l1.length c1] w fun e w' => e = .returned (.bool r) ∧ Below w.heap.size w w' := by
  have hu26 := Tryd.underlying26
  have HR1 := Aside0.mk hr1
  have HC1 := Aside0.mk hc1
  clear hr1 hc1
  have HB := Aside0.mk (Below.refl w.heap.size w)
  have H : ((heraldlaw04_awake.f k).bind fun t271 => (if t271 = true then ((nat_Of.f k a0).bind fun bt272 => (if a0 < 0 then (heraldlaw04_NatMakes.j0 k a0 l1 bt272.2 40 bt272.1) else (heraldlaw04_NatMakes.j0 k a0 l1 bt272.2 0 bt272.1))) else (some false))) = some r := h
  clear h
  replace H := Option.bind_eq_some_iff.mp H
  obtain ⟨t271, A30, H⟩ := H
  replace H : (if t271 = true then ((nat_Of.f k a0).bind fun bt272 => (if a0 < 0 then (heraldlaw04_NatMakes.j0 k a0 l1 bt272.2 40 bt272.1) else (heraldlaw04_NatMakes.j0 k a0 l1 bt272.2 0 bt272.1))) else (some false)) = some r := H
  have A3 := Aside0.mk A30
  clear A30
  by_cases c4 : t271 = true
  · subst c4
    have H1 : ((nat_Of.f k a0).bind fun bt272 => (if a0 < 0 then (heraldlaw04_NatMakes.j0 k a0 l1 bt272.2 40 bt272.1) else (heraldlaw04_NatMakes.j0 k a0 l1 bt272.2 0 bt272.1))) = some r := by rw [if_pos rfl] at H; exact H
    clear H
    have H := H1
    clear H1
    replace H := Option.bind_eq_some_iff.mp H
    obtain ⟨⟨t272, t275⟩, A50, H⟩ := H
    replace H : (if a0 < 0 then (heraldlaw04_NatMakes.j0 k a0 l1 t275 40 t272) else (heraldlaw04_NatMakes.j0 k a0 l1 t275 0 t272)) = some r := H
    have A5 := Aside0.mk A50
    clear A50
    have HC6 := Aside0.mk H
    clear H
    go_enter Tryd.func3, Tryd.ntmps3
    go_upto_if 20 with (first | ((with_reducible refine gate_callee (f := 12) rfl ?_); refine goesL_ (some 12) rfl rfl Tryd.func12 (by kernel_rfl) rfl #[] rfl (by (try simp only [List.map_toArray, List.map_cons, List.map_nil]); first | done | rfl | (simp only [List.length_drop, List.length_take]; rfl)) ?_; (with_reducible refine (heraldlaw04_awake.calls k  true _ A3.out).mono ?_); rintro e w7 ⟨rfl, hb⟩; refine ⟨_, rfl, ?_⟩; have n0_ := Aside0.mk (below_step (by repeat (first | (with_reducible first | exact HB.out | apply below_alloc | apply pw_below_drewN | apply below_drew1) | exact HB.out)) hb); clear HB; have HB := n0_; clear n0_; (try clear hb); (try clear hb2); (try clear hk); (try clear hi)) | ((with_reducible refine gate_callee (f := 13) rfl ?_); refine goesL_ (some 16) rfl rfl Tryd.func13 (by kernel_rfl) rfl #[.int .i64 a0] rfl (by (try simp only [List.map_toArray, List.map_cons, List.map_nil]); first | done | rfl | (simp only [List.length_drop, List.length_take]; rfl)) ?_; (with_reducible refine (nat_Of.calls k a0 t272 t275 _ A5.out).mono ?_); rintro e w8 ⟨v273, rfl, ho0, hb⟩; refine ⟨_, rfl, ?_⟩; have n0_ := Aside0.mk (Kd.V_lower (Kd.V_mono (ok' := fun k_ => True) ho0 (fun k_ hk_ => trivial)) (below_size (by repeat (first | (with_reducible first | exact HB.out | apply below_alloc | apply pw_below_drewN | apply below_drew1) | exact HB.out)))); have n1_ := Aside0.mk (below_step (by repeat (first | (with_reducible first | exact HB.out | apply below_alloc | apply pw_below_drewN | apply below_drew1) | exact HB.out)) hb); clear HB; have HO274 := n0_; have HB := n1_; clear n0_ n1_; (try clear hb); (try clear hb2); (try clear hk); (try clear hi); (try clear ho0)) | ((with_reducible refine gate_dst (N := 5) rfl ?_); refine box_event ?hg (N := 5) ?hd (cs := #[.slice none 0 0]) (t := 26) ?hr ?_; (case hd => rfl); (case hg => rfl); (case hr => first | (go_simp; done) | (go_simp; rfl)); intro gb276 hg w9 hbox hb; have n0_ := Aside0.mk (Kd.V_below (Kd.V_elderB (by (with_reducible repeat (first | apply Kd.V_alloc | apply Kd.V_drewN | apply Kd.V_drew)); exact HO274.out) gb276 (Nat.le_of_eq hg.symm)) hb); have n1_ := Aside0.mk (below_step (by repeat (first | (with_reducible first | exact HB.out | apply below_alloc | apply pw_below_drewN | apply below_drew1) | exact HB.out)) hb); have n2_ := Aside0.mk (hbox); have n3_ := Aside0.mk ((by rw [hg]; exact (below_size (by repeat (first | (with_reducible first | exact HB.out | apply below_alloc | apply pw_below_drewN | apply below_drew1) | exact HB.out))) : w.heap.size ≤ gb276)); have n4_ := Aside0.mk ((by rw [hg]; exact (below_size (by repeat (first | (with_reducible first | exact HB.out | apply below_alloc | apply pw_below_drewN | apply below_drew1) | exact HB.out))) : w.heap.size ≤ gb276)); clear HO274; clear HB; have HO274 := n0_; have HB := n1_; have BK276 := n2_; have GW276 := n3_; have GE276 := n4_; clear n0_ n1_ n2_ n3_ n4_; clear hb hbox hg; obtain ⟨Ao10, co10, eo10⟩ := Kd.V_slice HO274.out; subst eo10; have hcz11_0 : w9.cell? ⟨gb276, 0, none⟩ = some (.slice none 0 0) := (blk_cell BK276.out 0).trans rfl; have hfz11_0 := blk_frozen BK276.out 0))
    (try simp only [Act.put, List.setIfInBounds_toArray, List.set_cons_zero, List.set_cons_succ])
    go_cut [7] (fun v7 wc => ∃ (kq : Nat) (x7_5 : Int), v7 = .int .i64 x7_5 ∧ Aside0 (heraldlaw04_NatMakes.j0 kq a0 l1 t275 x7_5 t272 = some r) ∧ Aside0 (kq ≤ k) ∧ Aside0 (Kd.V (Kd.int .u32) 79 wc w.heap.size (fun k_ => k_ ≠ gb276) (.slice Ao10 t272.length co10) t272) ∧ Aside0 (wc.heap[gb276]? = some (.cells #[(.slice Ao10 t272.length co10)] 26 (0, 0))) ∧ Aside0 (Below w.heap.size w wc))
    case first =>
      have H := HC6.out
      clear HC6
      by_cases c12 : a0 < 0
      · rw [if_pos c12] at H
        have c12b0 : decide (a0 < 0) = true := decide_eq_true c12
        clear c12
        (first | rw [c12b0] | (simp only [i64_w, i32_w]; rw [c12b0]) | skip)
        have H' := Aside0.mk H
        clear H
        go_wp2
        go_meet
        case rel => exact ⟨_, (40), (by first | rfl | (simp; done) | (simp [*]; done) | (simp [i64_w]; done) | (simp [*, i64_w]; done)), H', ⟨by first | omega | exact Nat.le_refl _⟩, ⟨by (with_reducible repeat (first | apply Kd.V_alloc | apply Kd.V_drewN | apply Kd.V_drew)); exact Kd.V_mono (Kd.V_far (p := ⟨gb276, 0, none⟩) (Kd.V_mono HO274.out (fun k_ hk => (⟨hk, hk.2⟩ : _ ∧ k_ ≠ gb276))) (fun _ hk => hk.2) (.slice Ao10 t272.length co10)) (fun _ hk => hk.1.2)⟩, ⟨by (with_reducible repeat (first | refine blk_drewN ?_ _ | refine blk_drew ?_ | refine blk_alloc ?_ _)); refine blk_put (cs := #[.slice none 0 0]) ?_ 0 _ rfl; (with_reducible repeat (first | refine blk_drewN ?_ _ | refine blk_drew ?_ | refine blk_alloc ?_ _)); exact BK276.out⟩, ⟨by repeat (first | (with_reducible first | exact HB.out | apply below_alloc | apply pw_below_drewN | apply below_drew1 | refine below_set ?_ GE276.out) | exact HB.out)⟩⟩
      · rw [if_neg c12] at H
        have c12b0 : decide (a0 < 0) = false := decide_eq_false c12
        clear c12
        (first | rw [c12b0] | (simp only [i64_w, i32_w]; rw [c12b0]) | skip)
        have H' := Aside0.mk H
        clear H
        go_wp2
        go_meet
        case rel => exact ⟨_, (0), (by first | rfl | (simp; done) | (simp [*]; done) | (simp [i64_w]; done) | (simp [*, i64_w]; done)), H', ⟨by first | omega | exact Nat.le_refl _⟩, ⟨by (with_reducible repeat (first | apply Kd.V_alloc | apply Kd.V_drewN | apply Kd.V_drew)); exact Kd.V_mono (Kd.V_far (p := ⟨gb276, 0, none⟩) (Kd.V_mono HO274.out (fun k_ hk => (⟨hk, hk.2⟩ : _ ∧ k_ ≠ gb276))) (fun _ hk => hk.2) (.slice Ao10 t272.length co10)) (fun _ hk => hk.1.2)⟩, ⟨by (with_reducible repeat (first | refine blk_drewN ?_ _ | refine blk_drew ?_ | refine blk_alloc ?_ _)); refine blk_put (cs := #[.slice none 0 0]) ?_ 0 _ rfl; (with_reducible repeat (first | refine blk_drewN ?_ _ | refine blk_drew ?_ | refine blk_alloc ?_ _)); exact BK276.out⟩, ⟨by repeat (first | (with_reducible first | exact HB.out | apply below_alloc | apply pw_below_drewN | apply below_drew1 | refine below_set ?_ GE276.out) | exact HB.out)⟩⟩
    case rest =>
      clear HC6
      try clear c1
      try clear p2
      try clear c3
      try clear c4
      try clear c12
      try clear c12b0
      try clear hcz11_0
      try clear hfz11_0
      obtain ⟨kq, x7_5, rfl, HA, HJ5, HO_277000, BK276, HB⟩ := hcut
      cases kq with
      | zero => exact absurd HA.out (by simp [heraldlaw04_NatMakes.j0])
      | succ kj5 =>
        have H := HA.out
        clear HA
        simp only [heraldlaw04_NatMakes.j0] at H
        replace H := Option.bind_eq_some_iff.mp H
        obtain ⟨t277, A130, H⟩ := H
        replace H : ((heraldlaw04_is.f kj5 t272 t275 t277 x7_5).bind fun t280 => (if t280 = true then ((some (([] : List Int) : List Int)).bind fun y281 => (if y281.length + l1.length < 17592186044416 then ((some (y281 ++ l1 : List Int)).bind fun y284 => ((nat_Product.f kj5 y284).bind fun bt287 => ((heraldref04_Product.f kj5 l1).bind fun bt291 => (heraldlaw04_NatMakes.l0 kj5 bt287.2 bt291.2 y284 bt291.1 l1 (l1.length : Int) 0 bt287.1)))) else (none))) else (some false))) = some r := H
        have A13 := Aside0.mk A130
        clear A130
        replace H := Option.bind_eq_some_iff.mp H
        obtain ⟨t280, A140, H⟩ := H
        replace H : (if t280 = true then ((some (([] : List Int) : List Int)).bind fun y281 => (if y281.length + l1.length < 17592186044416 then ((some (y281 ++ l1 : List Int)).bind fun y284 => ((nat_Product.f kj5 y284).bind fun bt287 => ((heraldref04_Product.f kj5 l1).bind fun bt291 => (heraldlaw04_NatMakes.l0 kj5 bt287.2 bt291.2 y284 bt291.1 l1 (l1.length : Int) 0 bt287.1)))) else (none))) else (some false)) = some r := H
        have A14 := Aside0.mk A140
        clear A140
        by_cases c15 : t280 = true
        · subst c15
          have H1 : ((some (([] : List Int) : List Int)).bind fun y281 => (if y281.length + l1.length < 17592186044416 then ((some (y281 ++ l1 : List Int)).bind fun y284 => ((nat_Product.f kj5 y284).bind fun bt287 => ((heraldref04_Product.f kj5 l1).bind fun bt291 => (heraldlaw04_NatMakes.l0 kj5 bt287.2 bt291.2 y284 bt291.1 l1 (l1.length : Int) 0 bt287.1)))) else (none))) = some r := by rw [if_pos rfl] at H; exact H
          clear H
          have H := H1
          clear H1
          obtain ⟨y281, hy281⟩ : ∃ y_ : List Int, y_ = (([] : List Int)) := ⟨_, rfl⟩
          replace H : (if y281.length + l1.length < 17592186044416 then ((some (y281 ++ l1 : List Int)).bind fun y284 => ((nat_Product.f kj5 y284).bind fun bt287 => ((heraldref04_Product.f kj5 l1).bind fun bt291 => (heraldlaw04_NatMakes.l0 kj5 bt287.2 bt291.2 y284 bt291.1 l1 (l1.length : Int) 0 bt287.1)))) else (none)) = some r := by first | (rw [hy281]; with_reducible exact H) | (have H2_ := (Option.bind_some _ _).symm.trans H; rw [hy281]; with_reducible exact H2_) | (have H2_ := (Option.bind_some _ _).symm.trans H; with_reducible exact H2_) | with_reducible exact H | (rw [hy281]; exact H) | exact H
          have Ny281 := Aside0.mk hy281
          clear hy281
          by_cases c16 : y281.length + l1.length < 17592186044416
          · rw [if_pos c16] at H
            have LMc16 := Aside0.mk c16
            clear c16
            obtain ⟨y284, hy284⟩ : ∃ y_ : List Int, y_ = (y281 ++ l1) := ⟨_, rfl⟩
            replace H : ((nat_Product.f kj5 y284).bind fun bt287 => ((heraldref04_Product.f kj5 l1).bind fun bt291 => (heraldlaw04_NatMakes.l0 kj5 bt287.2 bt291.2 y284 bt291.1 l1 (l1.length : Int) 0 bt287.1))) = some r := by first | (rw [hy284]; with_reducible exact H) | (have H2_ := (Option.bind_some _ _).symm.trans H; rw [hy284]; with_reducible exact H2_) | (have H2_ := (Option.bind_some _ _).symm.trans H; with_reducible exact H2_) | with_reducible exact H | (rw [hy284]; exact H) | exact H
            have Ny284 := Aside0.mk hy284
            clear hy284
            replace H := Option.bind_eq_some_iff.mp H
            obtain ⟨⟨t287, t290⟩, A170, H⟩ := H
            replace H : ((heraldref04_Product.f kj5 l1).bind fun bt291 => (heraldlaw04_NatMakes.l0 kj5 t290 bt291.2 y284 bt291.1 l1 (l1.length : Int) 0 t287)) = some r := H
            have A17 := Aside0.mk A170
            clear A170
            replace H := Option.bind_eq_some_iff.mp H
            obtain ⟨⟨t291, t294⟩, A180, H⟩ := H
            replace H : (heraldlaw04_NatMakes.l0 kj5 t290 t294 y284 t291 l1 (l1.length : Int) 0 t287) = some r := H
            have A18 := Aside0.mk A180
            clear A180
            have H' := Aside0.mk H
            clear H
            try go_wp2
            have n0_ := Aside0.mk (Kd.V_drew HO_277000.out)
            have n1_ := Aside0.mk (blk_drew BK276.out)
            have n2_ := Aside0.mk (below_drew1 HB.out)
            clear HO_277000
            clear BK276
            clear HB
            have HO_277000 := n0_
            have BK276 := n1_
            have HB := n2_
            clear n0_ n1_ n2_
            refine start_ (n := 7) (S := fun w' => w'.cell? ⟨gb276, 0, none⟩ = some (.slice Ao10 t272.length co10)) (ds := []) #[false, false, false, false, false, false, false] (by kernel_rfl) rfl rfl ((blk_cell BK276.out 0).trans rfl) (fun hHeld => ?_)
            generalize wc.drew = w19 at HO_277000 BK276 HB hHeld ⊢
            refine pure_ (i := 1) (N := some 22) (v := ?_) (a' := ?_) #[false, true, false, false, false, false, false] rfl rfl (by kernel_rfl) (fun _ _ _ h => h) (Or.inl ⟨by rfl, ?_⟩) ?_ ?_
            rotate_left
            · intro w'
              go_simp
              with_reducible rfl
            rotate_left
            · simp only [Act.put, List.setIfInBounds_toArray, List.set_cons_zero, List.set_cons_succ, i64_w, i32_w]
              rfl
            refine pure_ (i := 2) (N := some 23) (v := ?_) (a' := ?_) #[false, true, true, false, false, false, false] rfl rfl (by kernel_rfl) (fun _ _ _ h => h) (Or.inl ⟨by rfl, ?_⟩) ?_ ?_
            rotate_left
            · intro w'
              go_simp
              with_reducible rfl
            rotate_left
            · simp only [Act.put, List.setIfInBounds_toArray, List.set_cons_zero, List.set_cons_succ, i64_w, i32_w]
              rfl
            refine pure_ (i := 4) (N := some 25) (v := ?_) (a' := ?_) #[false, true, true, false, true, false, false] rfl rfl (by kernel_rfl) (fun _ _ _ h => h) (Or.inl ⟨by rfl, ?_⟩) ?_ ?_
            rotate_left
            · intro w'
              go_simp
              with_reducible rfl
            rotate_left
            · simp only [Act.put, List.setIfInBounds_toArray, List.set_cons_zero, List.set_cons_succ, i64_w, i32_w]
              rfl
            refine take_ (i := 0) (N := some 21) (v := ?_) (a' := ?_) #[true, true, true, false, true, false, false] rfl rfl (by kernel_rfl) (fun _ _ _ h => h) (Or.inl ⟨by rfl, ?_⟩) hHeld ?_ ?_
            rotate_left
            · intro w' s0
              go_simp
              with_reducible rfl
            rotate_left
            · simp only [Act.put, List.setIfInBounds_toArray, List.set_cons_zero, List.set_cons_succ, i64_w, i32_w]
              rfl
            refine one_ (i := 3) (N := some 24) #[true, true, true, true, true, false, false] rfl rfl (by kernel_rfl) (by decide) (fun K hK => ?_)
            refine goes_ Tryd.func15 (by kernel_rfl) rfl #[.int .i64 a0] (by rfl) rfl rfl (by (try simp only [List.map_toArray, List.map_cons, List.map_nil]); first | done | rfl | (simp only [List.length_drop, List.length_take]; rfl)) ?_
            with_reducible refine (heraldref04_Of.calls kj5 a0 t277 _ A13.out).mono ?_
            rintro e w20 ⟨v278, rfl, ho0, hb⟩
            refine ⟨_, rfl, ?_⟩
            have n0_ := Aside0.mk (Kd.V_elder' (by (with_reducible repeat (first | apply Kd.V_alloc | apply Kd.V_drewN | apply Kd.V_drew)); exact HO_277000.out) (Kd.R_base ho0) hb)
            have n1_ := Aside0.mk (Kd.R_lower ho0 (below_size (by repeat (first | (with_reducible first | exact HB.out | apply below_alloc | apply pw_below_drewN | apply below_drew1 | refine below_set ?_ GE276.out) | exact HB.out))))
            have n2_ := Aside0.mk (blk_below (g := gb276) (o := .cells #[.slice Ao10 t272.length co10] 26 (0, 0)) (by (with_reducible repeat (first | refine blk_drewN ?_ _ | refine blk_drew ?_ | refine blk_alloc ?_ _)); exact BK276.out) hb)
            have n3_ := Aside0.mk (below_step (by repeat (first | (with_reducible first | exact HB.out | apply below_alloc | apply pw_below_drewN | apply below_drew1 | refine below_set ?_ GE276.out) | exact HB.out)) hb)
            clear HO_277000
            clear BK276
            clear HB
            have HO_277000 := n0_
            have HO279 := n1_
            have BK276 := n2_
            have HB := n3_
            clear n0_ n1_ n2_ n3_
            (try clear hb)
            (try clear hb2)
            (try clear hk)
            (try clear hi)
            (try clear ho0)
            obtain ⟨Ao21, co21, eo21⟩ := Kd.R_slice HO279.out
            (first | subst eo21 | (injection eo21 with f1_ f2_ f3_; have f4_ := f1_.symm; have f5_ := f3_.symm; clear f1_ f2_ f3_; subst f4_; subst f5_))
            refine hK.out _ _ ((blk_cell BK276.out 0).trans rfl) (fun hHeld => ?_)
            clear hK K
            refine norm_ (a' := ?_) ?_ ?_
            rotate_left
            · show Act.put _ (some 24) _ = _
              simp only [Act.put, List.setIfInBounds_toArray, List.set_cons_zero, List.set_cons_succ, i64_w, i32_w]
              rfl
            refine one_ (i := 5) (N := some 26) #[true, true, true, true, true, true, false] rfl rfl (by kernel_rfl) (by decide) (fun K hK => ?_)
            refine goes_ Tryd.func14 (by kernel_rfl) rfl #[.agg #[.slice Ao10 t272.length co10], .int .i64 t275, .slice Ao21 t277.length co21, .int .i64 x7_5] (by rfl) rfl rfl (by (try simp only [List.map_toArray, List.map_cons, List.map_nil]); first | done | rfl | (simp only [List.length_drop, List.length_take]; rfl)) ?_
            with_reducible refine (heraldlaw04_is.calls kj5 _ _ t272 t275 _ _ t277 x7_5 true _ ?side1 ?side2 ?side3 ?side4 A14.out).mono ?_
            (case side1 => repeat (first | exact (Kd.V_reads' HO_277000.out).2.2 | (with_reducible refine Kd.C_alloc ?_ _) | (with_reducible refine Kd.C_drewN ?_ _) | (with_reducible refine Kd.C_drew ?_)))
            (case side2 => exact (Kd.V_reads' HO_277000.out).2.1)
            (case side3 => repeat (first | exact (Kd.R_reads' HO279.out).2.2 | (with_reducible refine Kd.C_alloc ?_ _) | (with_reducible refine Kd.C_drewN ?_ _) | (with_reducible refine Kd.C_drew ?_)))
            (case side4 => exact (Kd.R_reads' HO279.out).2.1)
            rintro e w22 ⟨rfl, hb⟩
            refine ⟨_, rfl, ?_⟩
            have n0_ := Aside0.mk (Kd.V_below (by (with_reducible repeat (first | apply Kd.V_alloc | apply Kd.V_drewN | apply Kd.V_drew)); exact HO_277000.out) hb)
            have n1_ := Aside0.mk (Kd.R_below (by (with_reducible repeat (first | apply Kd.R_alloc | apply Kd.R_drewN | apply Kd.R_drew)); exact HO279.out) hb)
            have n2_ := Aside0.mk (blk_below (g := gb276) (o := .cells #[.slice Ao10 t272.length co10] 26 (0, 0)) (by (with_reducible repeat (first | refine blk_drewN ?_ _ | refine blk_drew ?_ | refine blk_alloc ?_ _)); exact BK276.out) hb)
            have n3_ := Aside0.mk (below_step (by repeat (first | (with_reducible first | exact HB.out | apply below_alloc | apply pw_below_drewN | apply below_drew1 | refine below_set ?_ GE276.out) | exact HB.out)) hb)
            clear HO_277000
            clear HO279
            clear BK276
            clear HB
            have HO_277000 := n0_
            have HO279 := n1_
            have BK276 := n2_
            have HB := n3_
            clear n0_ n1_ n2_ n3_
            (try clear hb)
            (try clear hb2)
            (try clear hk)
            (try clear hi)
            refine hK.out _ _ ((blk_cell BK276.out 0).trans rfl) (fun hHeld => ?_)
            clear hK K
            refine norm_ (a' := ?_) ?_ ?_
            rotate_left
            · show Act.put _ (some 26) _ = _
              simp only [Act.put, List.setIfInBounds_toArray, List.set_cons_zero, List.set_cons_succ, i64_w, i32_w]
              rfl
            refine pure_ (i := 6) (N := some 27) (v := ?_) (a' := ?_) #[true, true, true, true, true, true, true] rfl rfl (by kernel_rfl) (fun _ _ _ h => h) (Or.inl ⟨by rfl, ?_⟩) ?_ ?_
            rotate_left
            · intro w'
              go_simp
              with_reducible rfl
            rotate_left
            · simp only [Act.put, List.setIfInBounds_toArray, List.set_cons_zero, List.set_cons_succ, i64_w, i32_w]
              rfl
            refine done_ (by kernel_rfl) ?_
            try go_wp2_with (first | ((with_reducible refine gate_dst (N := 28) rfl ?_); refine Kd.R_lit (Kd.int .i64) _ 2 ?hg (N := 28) ?hd (xs := ([] : List Int)) (inner := []) (ok := fun _ => True) (okp := fun _ => True) ?hr ?hp (fun _ hk => hk) trivial (Below.refl _ _) (Nat.le_refl _) (by simp) ?_; (case hd => rfl); (case hg => rfl); (case hr => first | (go_simp; done) | (go_simp; rfl)); (case hp => exact (Reps.none _ _)); intro v282 w23 ho24 hb hg_ hnew_; clear hg_ hnew_; (first | rw [← Ny281.out] at ho24 | (simp only [Int.reduceToNat] at ho24; rw [← Ny281.out] at ho24)); have n0_ := Aside0.mk (Kd.V_elder' (by (with_reducible repeat (first | apply Kd.V_alloc | apply Kd.V_drewN | apply Kd.V_drew)); exact HO_277000.out) (Kd.R_base ho24) hb); have n1_ := Aside0.mk (Kd.R_below (by (with_reducible repeat (first | apply Kd.R_alloc | apply Kd.R_drewN | apply Kd.R_drew)); exact HO279.out) hb); have n2_ := Aside0.mk (Kd.R_lower ho24 (below_size (by repeat (first | (with_reducible first | exact HB.out | apply below_alloc | apply pw_below_drewN | apply below_drew1 | refine below_set ?_ GE276.out) | exact HB.out)))); have n3_ := Aside0.mk (blk_below (g := gb276) (o := .cells #[.slice Ao10 t272.length co10] 26 (0, 0)) (by (with_reducible repeat (first | refine blk_drewN ?_ _ | refine blk_drew ?_ | refine blk_alloc ?_ _)); exact BK276.out) hb); have n4_ := Aside0.mk (below_step (by repeat (first | (with_reducible first | exact HB.out | apply below_alloc | apply pw_below_drewN | apply below_drew1 | refine below_set ?_ GE276.out) | exact HB.out)) hb); clear HO_277000; clear HO279; clear BK276; clear HB; have HO_277000 := n0_; have HO279 := n1_; have HO283 := n2_; have BK276 := n3_; have HB := n4_; clear n0_ n1_ n2_ n3_ n4_; clear hb ho24) | ((with_reducible refine gate_builtin (b := .append) (xs := #[.tmp 28, .tmp 29]) rfl ?_); at_builtin; refine Kd.R_append_rows (Kd.int .i64) (w0 := w) w.heap.size rfl (.tmp 28) (.tmp 29) 22 2 (.int .i64 0) 8 rfl Tryd.underlying22 info2 rfl (by decide) (by omega) v282 y281 l1 _ _ _ (fun _ => True) (fun _ => False) rfl rfl ?aO ?aR (fun _ _ h => h) (fun _ h => h.elim) ?aF ?aB ?aS ?aL ?_; (case aR => repeat (first | exact (Kd.C_below HR1.out HB.out) | (with_reducible refine Kd.C_alloc ?_ _) | (with_reducible refine Kd.C_drewN ?_ _) | (with_reducible refine Kd.C_drew ?_))); (case aB => exact (by repeat (first | (with_reducible first | exact HB.out | apply below_alloc | apply pw_below_drewN | apply below_drew1 | refine below_set ?_ GE276.out) | exact HB.out))); (case aF => exact (fun _ _ => trivial)); (case aO => exact (by (with_reducible repeat (first | apply Kd.R_alloc | apply Kd.R_drewN | apply Kd.R_drew)); exact HO283.out)); (case aS => exact (below_size (by repeat (first | (with_reducible first | exact HB.out | apply below_alloc | apply pw_below_drewN | apply below_drew1 | refine below_set ?_ GE276.out) | exact HB.out)))); (case aL => have := LMc16.out; omega); intro v285 w25 ho hb hg hat; rw [← Ny284.out] at ho; have n0_ := Aside0.mk (Kd.V_afterv (ok := (fun k_ => some k_ ≠ (.slice Ao21 t277.length co21 : Value).ownBlock ∧ k_ ≠ gb276)) (by (with_reducible repeat (first | apply Kd.V_alloc | apply Kd.V_drewN | apply Kd.V_drew)); exact Kd.V_mono HO_277000.out (fun _ hk => ⟨⟨hk.1.2, hk.1.1⟩, hk.2⟩)) hg hat); have n1_ := Aside0.mk (blk_grown (g := gb276) (o := .cells #[.slice Ao10 t272.length co10] 26 (0, 0)) (by (with_reducible repeat (first | refine blk_drewN ?_ _ | refine blk_drew ?_ | refine blk_alloc ?_ _)); exact BK276.out) hg (Kd.R_ne HO283.out BK276.out (by decide))); have n2_ := Aside0.mk (Kd.R_over' (by (with_reducible repeat (first | apply Kd.R_alloc | apply Kd.R_drewN | apply Kd.R_drew)); exact HO279.out) (Kd.R_typed (by (with_reducible repeat (first | apply Kd.R_alloc | apply Kd.R_drewN | apply Kd.R_drew)); exact HO283.out)) (by decide) hg); have n3_ := Aside0.mk (hb); have n4_ := Aside0.mk (ho); clear HO_277000; clear BK276; clear HO279; clear HB; clear HO283; have HO_277000 := n0_; have BK276 := n1_; have HO279 := n2_; have HB := n3_; have HO286 := n4_; clear n0_ n1_ n2_ n3_ n4_; clear ho hb hg hat; obtain ⟨Ao26, co26, eo26⟩ := Kd.R_slice HO286.out; subst eo26) | ((with_reducible refine gate_callee (f := 16) rfl ?_); refine goesL_ (some 33) rfl rfl Tryd.func16 (by kernel_rfl) rfl #[.slice Ao26 y284.length co26] rfl (by (try simp only [List.map_toArray, List.map_cons, List.map_nil]); first | done | rfl | (simp only [List.length_drop, List.length_take]; rfl)) ?_; (with_reducible refine (nat_Product.calls kj5 _ _ y284 t287 t290 _ ?side1 ?side2 A17.out).mono ?_); (case side1 => repeat (first | exact (Kd.R_reads' HO286.out).2.2 | (with_reducible refine Kd.C_alloc ?_ _) | (with_reducible refine Kd.C_drewN ?_ _) | (with_reducible refine Kd.C_drew ?_))); (case side2 => exact (Kd.R_reads' HO286.out).2.1); rintro e w27 ⟨v288, rfl, ho0, hb⟩; refine ⟨_, rfl, ?_⟩; have n0_ := Aside0.mk (Kd.V_below (by (with_reducible repeat (first | apply Kd.V_alloc | apply Kd.V_drewN | apply Kd.V_drew)); exact HO_277000.out) hb); have n1_ := Aside0.mk (Kd.R_below (by (with_reducible repeat (first | apply Kd.R_alloc | apply Kd.R_drewN | apply Kd.R_drew)); exact HO279.out) hb); have n2_ := Aside0.mk (Kd.R_below (by (with_reducible repeat (first | apply Kd.R_alloc | apply Kd.R_drewN | apply Kd.R_drew)); exact HO286.out) hb); have n3_ := Aside0.mk (Kd.V_lower (Kd.V_mono (ok' := fun k_ => some k_ ≠ (.slice Ao21 t277.length co21 : Value).ownBlock ∧ some k_ ≠ (.slice Ao26 y284.length co26 : Value).ownBlock ∧ k_ ≠ gb276) ho0 (fun k_ hk_ => ⟨(Kd.fresh' (Kd.R_lt (by (with_reducible repeat (first | apply Kd.R_alloc | apply Kd.R_drewN | apply Kd.R_drew)); exact HO279.out)) k_ hk_), (Kd.fresh' (Kd.R_lt (by (with_reducible repeat (first | apply Kd.R_alloc | apply Kd.R_drewN | apply Kd.R_drew)); exact HO286.out)) k_ hk_), (Kd.freshB (g := gb276) (o := .cells #[.slice Ao10 t272.length co10] 26 (0, 0)) (by (with_reducible repeat (first | refine blk_drewN ?_ _ | refine blk_drew ?_ | refine blk_alloc ?_ _)); exact BK276.out) k_ hk_)⟩)) (below_size (by repeat (first | (with_reducible first | exact HB.out | apply below_alloc | apply pw_below_drewN | apply below_drew1 | refine below_set ?_ GE276.out) | exact HB.out)))); have n4_ := Aside0.mk (blk_below (g := gb276) (o := .cells #[.slice Ao10 t272.length co10] 26 (0, 0)) (by (with_reducible repeat (first | refine blk_drewN ?_ _ | refine blk_drew ?_ | refine blk_alloc ?_ _)); exact BK276.out) hb); have n5_ := Aside0.mk (below_step (by repeat (first | (with_reducible first | exact HB.out | apply below_alloc | apply pw_below_drewN | apply below_drew1 | refine below_set ?_ GE276.out) | exact HB.out)) hb); clear HO_277000; clear HO279; clear HO286; clear BK276; clear HB; have HO_277000 := n0_; have HO279 := n1_; have HO286 := n2_; have HO289 := n3_; have BK276 := n4_; have HB := n5_; clear n0_ n1_ n2_ n3_ n4_ n5_; (try clear hb); (try clear hb2); (try clear hk); (try clear hi); (try clear ho0); obtain ⟨Ao28, co28, eo28⟩ := Kd.V_slice HO289.out; subst eo28; have hcz29_0 : w27.cell? ⟨gb276, 0, none⟩ = some (.slice Ao10 t272.length co10) := (blk_cell BK276.out 0).trans rfl; have hfz29_0 := blk_frozen BK276.out 0) | ((with_reducible refine gate_callee (f := 17) rfl ?_); refine goesL_ (some 38) rfl rfl Tryd.func17 (by kernel_rfl) rfl #[.slice A1 l1.length c1] rfl (by (try simp only [List.map_toArray, List.map_cons, List.map_nil]); first | done | rfl | (simp only [List.length_drop, List.length_take]; rfl)) ?_; (with_reducible refine (heraldref04_Product.calls kj5 _ _ l1 t291 t294 _ ?side1 ?side2 A18.out).mono ?_); (case side1 => exact Kd.C_below HR1.out (by repeat (first | (with_reducible first | exact HB.out | apply below_alloc | apply pw_below_drewN | apply below_drew1 | refine below_set ?_ GE276.out) | exact HB.out))); (case side2 => exact HC1.out); rintro e w30 ⟨v292, rfl, ho0, hb⟩; refine ⟨_, rfl, ?_⟩; have n0_ := Aside0.mk (Kd.V_below (by (with_reducible repeat (first | apply Kd.V_alloc | apply Kd.V_drewN | apply Kd.V_drew)); exact (Kd.V_mono (Kd.V_far (p := ⟨gb276, 0, none⟩) (Kd.V_mono HO_277000.out (fun k_ hk => (⟨hk, hk.1.2⟩ : _ ∧ k_ ≠ gb276))) (fun _ hk => hk.2) (.slice Ao28 t287.length co28)) (fun _ h_ => h_.1))) hb); have n1_ := Aside0.mk (Kd.R_below (by (with_reducible repeat (first | apply Kd.R_alloc | apply Kd.R_drewN | apply Kd.R_drew)); exact (Kd.R_mono (Kd.R_far (p := ⟨gb276, 0, none⟩) (Kd.R_types HO279.out BK276.out (by decide)) (fun _ hk => hk.2) (.slice Ao28 t287.length co28)) (fun _ h_ => h_.1))) hb); have n2_ := Aside0.mk (Kd.R_below (by (with_reducible repeat (first | apply Kd.R_alloc | apply Kd.R_drewN | apply Kd.R_drew)); exact (Kd.R_mono (Kd.R_far (p := ⟨gb276, 0, none⟩) (Kd.R_types HO286.out BK276.out (by decide)) (fun _ hk => hk.2) (.slice Ao28 t287.length co28)) (fun _ h_ => h_.1))) hb); have n3_ := Aside0.mk (Kd.V_below (by (with_reducible repeat (first | apply Kd.V_alloc | apply Kd.V_drewN | apply Kd.V_drew)); exact (Kd.V_mono (Kd.V_far (p := ⟨gb276, 0, none⟩) (Kd.V_mono HO289.out (fun k_ hk => (⟨hk, hk.2.2⟩ : _ ∧ k_ ≠ gb276))) (fun _ hk => hk.2) (.slice Ao28 t287.length co28)) (fun _ h_ => h_.1))) hb); have n4_ := Aside0.mk (Kd.V_lower (Kd.V_mono (ok' := fun k_ => some k_ ≠ (.slice Ao21 t277.length co21 : Value).ownBlock ∧ some k_ ≠ (.slice Ao26 y284.length co26 : Value).ownBlock ∧ k_ ≠ gb276) ho0 (fun k_ hk_ => ⟨(Kd.fresh' (Kd.R_lt (by (with_reducible repeat (first | apply Kd.R_alloc | apply Kd.R_drewN | apply Kd.R_drew)); exact (Kd.R_mono (Kd.R_far (p := ⟨gb276, 0, none⟩) (Kd.R_types HO279.out BK276.out (by decide)) (fun _ hk => hk.2) (.slice Ao28 t287.length co28)) (fun _ h_ => h_.1)))) k_ hk_), (Kd.fresh' (Kd.R_lt (by (with_reducible repeat (first | apply Kd.R_alloc | apply Kd.R_drewN | apply Kd.R_drew)); exact (Kd.R_mono (Kd.R_far (p := ⟨gb276, 0, none⟩) (Kd.R_types HO286.out BK276.out (by decide)) (fun _ hk => hk.2) (.slice Ao28 t287.length co28)) (fun _ h_ => h_.1)))) k_ hk_), (Kd.freshB (g := gb276) (o := .cells #[.slice Ao28 t287.length co28] 26 (0, 0)) (by (with_reducible repeat (first | refine blk_drewN ?_ _ | refine blk_drew ?_ | refine blk_alloc ?_ _)); refine blk_put (cs := #[.slice Ao10 t272.length co10]) ?_ 0 _ rfl; (with_reducible repeat (first | refine blk_drewN ?_ _ | refine blk_drew ?_ | refine blk_alloc ?_ _)); exact BK276.out) k_ hk_)⟩)) (below_size (by repeat (first | (with_reducible first | exact HB.out | apply below_alloc | apply pw_below_drewN | apply below_drew1 | refine below_set ?_ GE276.out) | exact HB.out)))); have n5_ := Aside0.mk (blk_below (g := gb276) (o := .cells #[.slice Ao28 t287.length co28] 26 (0, 0)) (by (with_reducible repeat (first | refine blk_drewN ?_ _ | refine blk_drew ?_ | refine blk_alloc ?_ _)); refine blk_put (cs := #[.slice Ao10 t272.length co10]) ?_ 0 _ rfl; (with_reducible repeat (first | refine blk_drewN ?_ _ | refine blk_drew ?_ | refine blk_alloc ?_ _)); exact BK276.out) hb); have n6_ := Aside0.mk (below_step (by repeat (first | (with_reducible first | exact HB.out | apply below_alloc | apply pw_below_drewN | apply below_drew1 | refine below_set ?_ GE276.out) | exact HB.out)) hb); clear HO_277000; clear HO279; clear HO286; clear HO289; clear BK276; clear HB; have HO_277000 := n0_; have HO279 := n1_; have HO286 := n2_; have HO289 := n3_; have HO293 := n4_; have BK276 := n5_; have HB := n6_; clear n0_ n1_ n2_ n3_ n4_ n5_ n6_; (try clear hb); (try clear hb2); (try clear hk); (try clear hi); (try clear ho0)))
            go_loopg [43] kj5 (fun kq v43 w' => ∃ (x43_2 : Int), v43 = .int .i64 x43_2 ∧ Aside0 (heraldlaw04_NatMakes.l0 kq t290 t294 y284 t291 l1 (l1.length : Int) x43_2 t287 = some r) ∧ Aside0 (kq ≤ kj5) ∧ Aside0 (Kd.R (Kd.int .i64) 2 w' w.heap.size (fun _ => True) (.slice Ao26 y284.length co26) y284) ∧ Aside0 (Kd.V (Kd.int .i64) 3 w' w.heap.size (fun k_ => some k_ ≠ ((.slice Ao26 y284.length co26) : Value).ownBlock ∧ k_ ≠ gb276) v292 t291) ∧ Aside0 (Kd.V (Kd.int .u32) 79 w' w.heap.size (fun k_ => some k_ ≠ ((.slice Ao26 y284.length co26) : Value).ownBlock ∧ k_ ≠ gb276) (.slice Ao28 t287.length co28) t287) ∧ Aside0 (w'.heap[gb276]? = some (.cells #[(.slice Ao28 t287.length co28)] 26 (0, 0))) ∧ Aside0 (Below w.heap.size w w'))
            case atStart => exact ⟨(0), (by first | rfl | (simp; done) | (simp [*]; done) | (simp [i64_w]; done) | (simp [*, i64_w]; done)), H', ⟨Nat.le_refl _⟩, ⟨by (with_reducible repeat (first | apply Kd.R_alloc | apply Kd.R_drewN | apply Kd.R_drew)); exact HO286.out⟩, ⟨by (with_reducible repeat (first | apply Kd.V_alloc | apply Kd.V_drewN | apply Kd.V_drew)); exact Kd.V_mono HO293.out (fun _ hk => ⟨hk.2.1, hk.2.2⟩)⟩, ⟨by (with_reducible repeat (first | apply Kd.V_alloc | apply Kd.V_drewN | apply Kd.V_drew)); exact Kd.V_mono HO289.out (fun _ hk => ⟨hk.2.1, hk.2.2⟩)⟩, ⟨by (with_reducible repeat (first | refine blk_drewN ?_ _ | refine blk_drew ?_ | refine blk_alloc ?_ _)); exact BK276.out⟩, ⟨by repeat (first | (with_reducible first | exact HB.out | apply below_alloc | apply pw_below_drewN | apply below_drew1 | refine below_set ?_ GE276.out) | exact HB.out)⟩⟩
            case round =>
              clear H'
              try clear c1
              try clear p2
              try clear c3
              try clear c4
              try clear c12
              try clear c12b0
              try clear c13
              try clear c14
              try clear c15
              try clear c16
              try clear c17
              try clear hcz11_0
              try clear hcz29_0
              try clear hfz11_0
              try clear hfz29_0
              try clear p2
              obtain ⟨x43_2, rfl, HA, HK2, HO_8, HO_9, HO_277000, BK276, HB⟩ := hrel
              cases gk with
              | zero => exact absurd HA.out (by simp [heraldlaw04_NatMakes.l0])
              | succ k2 =>
                have H := HA.out
                clear HA
                simp only [heraldlaw04_NatMakes.l0] at H
                by_cases c31 : x43_2 < (l1.length : Int)
                · rw [if_pos c31] at H
                  have c31b0 : decide (x43_2 < (l1.length : Int)) = true := decide_eq_true c31
                  clear c31
                  by_cases c32 : 0 ≤ x43_2
                  · rw [if_pos c32] at H
                    have c32b0 : decide (0 ≤ x43_2) = true := decide_eq_true c32
                    clear c32
                    by_cases c33 : x43_2 < (l1.length : Int)
                    · rw [if_pos c33] at H
                      have c33b0 : decide (x43_2 < (l1.length : Int)) = true := decide_eq_true c33
                      clear c33
                      by_cases c34 : x43_2 < (y284.length : Int)
                      · rw [if_pos c34] at H
                        have c34b0 : decide (x43_2 < (y284.length : Int)) = true := decide_eq_true c34
                        clear c34
                        by_cases c35 : (rd y284 x43_2) = (rd l1 x43_2)
                        · rw [if_pos c35] at H
                          have c35b0 : ((rd y284 x43_2) == (rd l1 x43_2)) = true := beq_iff_eq.mpr c35
                          have c35b1 : ((rd y284 x43_2) != (rd l1 x43_2)) = false := bne_eq_false_iff_eq.mpr c35
                          clear c35
                          have H' := Aside0.mk H
                          clear H
                          have p295 : 0 ≤ (x43_2 : Int) := of_decide_eq_true (by first | (with_reducible assumption) | assumption)
                          have q295 : x43_2 < (l1.length : Int) := of_decide_eq_true (by first | (with_reducible assumption) | assumption)
                          obtain ⟨ad295, e295, hx295_0⟩ := Kd.at_int HR1.out x43_2 p295 q295
                          cases e295
                          replace hx295_0 := (HB.out.cell (World.block_lt_of_cell? w _ hx295_0)).trans hx295_0
                          replace p295 := eq_true p295
                          replace q295 := eq_true q295
                          have p296 : 0 ≤ (x43_2 : Int) := of_decide_eq_true (by first | (with_reducible assumption) | assumption)
                          have q296 : x43_2 < (y284.length : Int) := of_decide_eq_true (by first | (with_reducible assumption) | assumption)
                          obtain ⟨ad296, e296, hx296_0⟩ := Kd.at_int (Kd.R_reads' HO_8.out).2.2 x43_2 p296 q296
                          cases e296
                          replace p296 := eq_true p296
                          replace q296 := eq_true q296
                          go_wp2
                          go_roundg k2
                          case measure => have := HJ5.out; have := HK2.out; omega
                          case rel => exact ⟨(wrap64 (x43_2 + 1)), (by first | rfl | (simp; done) | (simp [*]; done) | (simp [i64_w]; done) | (simp [*, i64_w]; done)), H', ⟨by have := HJ5.out; have := HK2.out; omega⟩, ⟨by (with_reducible repeat (first | apply Kd.R_alloc | apply Kd.R_drewN | apply Kd.R_drew)); exact HO_8.out⟩, ⟨by (with_reducible repeat (first | apply Kd.V_alloc | apply Kd.V_drewN | apply Kd.V_drew)); exact HO_9.out⟩, ⟨by (with_reducible repeat (first | apply Kd.V_alloc | apply Kd.V_drewN | apply Kd.V_drew)); exact HO_277000.out⟩, ⟨by (with_reducible repeat (first | refine blk_drewN ?_ _ | refine blk_drew ?_ | refine blk_alloc ?_ _)); exact BK276.out⟩, ⟨by repeat (first | (with_reducible first | exact HB.out | apply below_alloc | apply pw_below_drewN | apply below_drew1 | refine below_set ?_ GE276.out) | exact HB.out)⟩⟩
                        · rw [if_neg c35] at H
                          have c35b0 : ((rd y284 x43_2) == (rd l1 x43_2)) = false := beq_eq_false_iff_ne.mpr c35
                          have c35b1 : ((rd y284 x43_2) != (rd l1 x43_2)) = true := bne_iff_ne.mpr c35
                          obtain rfl := Option.some.inj H
                          have p295 : 0 ≤ (x43_2 : Int) := of_decide_eq_true (by first | (with_reducible assumption) | assumption)
                          have q295 : x43_2 < (l1.length : Int) := of_decide_eq_true (by first | (with_reducible assumption) | assumption)
                          obtain ⟨ad295, e295, hx295_0⟩ := Kd.at_int HR1.out x43_2 p295 q295
                          cases e295
                          replace hx295_0 := (HB.out.cell (World.block_lt_of_cell? w _ hx295_0)).trans hx295_0
                          replace p295 := eq_true p295
                          replace q295 := eq_true q295
                          have p296 : 0 ≤ (x43_2 : Int) := of_decide_eq_true (by first | (with_reducible assumption) | assumption)
                          have q296 : x43_2 < (y284.length : Int) := of_decide_eq_true (by first | (with_reducible assumption) | assumption)
                          obtain ⟨ad296, e296, hx296_0⟩ := Kd.at_int (Kd.R_reads' HO_8.out).2.2 x43_2 p296 q296
                          cases e296
                          replace p296 := eq_true p296
                          replace q296 := eq_true q296
                          go_wp2
                          go_ret
                          exact ⟨by first | rfl | (simp [errW_none, errW_some] <;> rfl) | (simp [*, errW_none, errW_some] <;> rfl), by repeat (first | (with_reducible first | exact HB.out | apply below_alloc | apply pw_below_drewN | apply below_drew1 | refine below_set ?_ GE276.out) | exact HB.out)⟩
                      · rw [if_neg c34] at H
                        exact absurd H (by simp)
                    · rw [if_neg c33] at H
                      exact absurd H (by simp)
                  · rw [if_neg c32] at H
                    exact absurd H (by simp)
                · rw [if_neg c31] at H
                  have c31b0 : decide (x43_2 < (l1.length : Int)) = false := decide_eq_false c31
                  clear c31
                  replace H := Option.bind_eq_some_iff.mp H
                  obtain ⟨t297, A360, H⟩ := H
                  replace H : (some t297) = some r := H
                  have A36 := Aside0.mk A360
                  clear A360
                  obtain rfl := Option.some.inj H
                  have hcz37_0 : wr.cell? ⟨gb276, 0, none⟩ = some (.slice Ao28 t287.length co28) := (blk_cell BK276.out 0).trans rfl
                  have hfz37_0 := blk_frozen BK276.out 0
                  obtain ⟨Ao38, co38, eo38⟩ := Kd.V_slice HO_9.out
                  subst eo38
                  go_wp2_with (first | ((with_reducible refine gate_callee (f := 14) rfl ?_); refine goesL_ (some 59) rfl rfl Tryd.func14 (by kernel_rfl) rfl #[.agg #[.slice Ao28 t287.length co28], .int .i64 t290, .slice Ao38 t291.length co38, .int .i64 t294] rfl (by (try simp only [List.map_toArray, List.map_cons, List.map_nil]); first | done | rfl | (simp only [List.length_drop, List.length_take]; rfl)) ?_; (with_reducible refine (heraldlaw04_is.calls k2 _ _ t287 t290 _ _ t291 t294 t297 _ ?side1 ?side2 ?side3 ?side4 A36.out).mono ?_); (case side1 => repeat (first | exact (Kd.V_reads' HO_277000.out).2.2 | (with_reducible refine Kd.C_alloc ?_ _) | (with_reducible refine Kd.C_drewN ?_ _) | (with_reducible refine Kd.C_drew ?_))); (case side2 => exact (Kd.V_reads' HO_277000.out).2.1); (case side3 => repeat (first | exact (Kd.V_reads' HO_9.out).2.2 | (with_reducible refine Kd.C_alloc ?_ _) | (with_reducible refine Kd.C_drewN ?_ _) | (with_reducible refine Kd.C_drew ?_))); (case side4 => exact (Kd.V_reads' HO_9.out).2.1); rintro e w39 ⟨rfl, hb⟩; refine ⟨_, rfl, ?_⟩; have n0_ := Aside0.mk (Kd.R_below (by (with_reducible repeat (first | apply Kd.R_alloc | apply Kd.R_drewN | apply Kd.R_drew)); exact HO_8.out) hb); have n1_ := Aside0.mk (Kd.V_below (by (with_reducible repeat (first | apply Kd.V_alloc | apply Kd.V_drewN | apply Kd.V_drew)); exact HO_9.out) hb); have n2_ := Aside0.mk (Kd.V_below (by (with_reducible repeat (first | apply Kd.V_alloc | apply Kd.V_drewN | apply Kd.V_drew)); exact HO_277000.out) hb); have n3_ := Aside0.mk (blk_below (g := gb276) (o := .cells #[.slice Ao28 t287.length co28] 26 (0, 0)) (by (with_reducible repeat (first | refine blk_drewN ?_ _ | refine blk_drew ?_ | refine blk_alloc ?_ _)); exact BK276.out) hb); have n4_ := Aside0.mk (below_step (by repeat (first | (with_reducible first | exact HB.out | apply below_alloc | apply pw_below_drewN | apply below_drew1 | refine below_set ?_ GE276.out) | exact HB.out)) hb); clear HO_8; clear HO_9; clear HO_277000; clear BK276; clear HB; have HO_8 := n0_; have HO_9 := n1_; have HO_277000 := n2_; have BK276 := n3_; have HB := n4_; clear n0_ n1_ n2_ n3_ n4_; (try clear hb); (try clear hb2); (try clear hk); (try clear hi)))
                  go_ret
                  exact ⟨by first | rfl | (simp [errW_none, errW_some] <;> rfl) | (simp [*, errW_none, errW_some] <;> rfl), by repeat (first | (with_reducible first | exact HB.out | apply below_alloc | apply pw_below_drewN | apply below_drew1 | refine below_set ?_ GE276.out) | exact HB.out)⟩
          · rw [if_neg c16] at H
            exact absurd H (by simp)
        · replace c15 := Bool.eq_false_iff.mpr c15
          subst c15
          have H1 : (some false) = some r := by rw [if_neg (show ¬ (false = true) by decide)] at H; exact H
          clear H
          have H := H1
          clear H1
          obtain rfl := Option.some.inj H
          try go_wp2
          have n0_ := Aside0.mk (Kd.V_drew HO_277000.out)
          have n1_ := Aside0.mk (blk_drew BK276.out)
          have n2_ := Aside0.mk (below_drew1 HB.out)
          clear HO_277000
          clear BK276
          clear HB
          have HO_277000 := n0_
          have BK276 := n1_
          have HB := n2_
          clear n0_ n1_ n2_
          refine start_ (n := 7) (S := fun w' => w'.cell? ⟨gb276, 0, none⟩ = some (.slice Ao10 t272.length co10)) (ds := []) #[false, false, false, false, false, false, false] (by kernel_rfl) rfl rfl ((blk_cell BK276.out 0).trans rfl) (fun hHeld => ?_)
          generalize wc.drew = w40 at HO_277000 BK276 HB hHeld ⊢
          refine pure_ (i := 1) (N := some 22) (v := ?_) (a' := ?_) #[false, true, false, false, false, false, false] rfl rfl (by kernel_rfl) (fun _ _ _ h => h) (Or.inl ⟨by rfl, ?_⟩) ?_ ?_
          rotate_left
          · intro w'
            go_simp
            with_reducible rfl
          rotate_left
          · simp only [Act.put, List.setIfInBounds_toArray, List.set_cons_zero, List.set_cons_succ, i64_w, i32_w]
            rfl
          refine pure_ (i := 2) (N := some 23) (v := ?_) (a' := ?_) #[false, true, true, false, false, false, false] rfl rfl (by kernel_rfl) (fun _ _ _ h => h) (Or.inl ⟨by rfl, ?_⟩) ?_ ?_
          rotate_left
          · intro w'
            go_simp
            with_reducible rfl
          rotate_left
          · simp only [Act.put, List.setIfInBounds_toArray, List.set_cons_zero, List.set_cons_succ, i64_w, i32_w]
            rfl
          refine pure_ (i := 4) (N := some 25) (v := ?_) (a' := ?_) #[false, true, true, false, true, false, false] rfl rfl (by kernel_rfl) (fun _ _ _ h => h) (Or.inl ⟨by rfl, ?_⟩) ?_ ?_
          rotate_left
          · intro w'
            go_simp
            with_reducible rfl
          rotate_left
          · simp only [Act.put, List.setIfInBounds_toArray, List.set_cons_zero, List.set_cons_succ, i64_w, i32_w]
            rfl
          refine take_ (i := 0) (N := some 21) (v := ?_) (a' := ?_) #[true, true, true, false, true, false, false] rfl rfl (by kernel_rfl) (fun _ _ _ h => h) (Or.inl ⟨by rfl, ?_⟩) hHeld ?_ ?_
          rotate_left
          · intro w' s0
            go_simp
            with_reducible rfl
          rotate_left
          · simp only [Act.put, List.setIfInBounds_toArray, List.set_cons_zero, List.set_cons_succ, i64_w, i32_w]
            rfl
          refine one_ (i := 3) (N := some 24) #[true, true, true, true, true, false, false] rfl rfl (by kernel_rfl) (by decide) (fun K hK => ?_)
          refine goes_ Tryd.func15 (by kernel_rfl) rfl #[.int .i64 a0] (by rfl) rfl rfl (by (try simp only [List.map_toArray, List.map_cons, List.map_nil]); first | done | rfl | (simp only [List.length_drop, List.length_take]; rfl)) ?_
          with_reducible refine (heraldref04_Of.calls kj5 a0 t277 _ A13.out).mono ?_
          rintro e w41 ⟨v278, rfl, ho0, hb⟩
          refine ⟨_, rfl, ?_⟩
          have n0_ := Aside0.mk (Kd.V_elder' (by (with_reducible repeat (first | apply Kd.V_alloc | apply Kd.V_drewN | apply Kd.V_drew)); exact HO_277000.out) (Kd.R_base ho0) hb)
          have n1_ := Aside0.mk (Kd.R_lower ho0 (below_size (by repeat (first | (with_reducible first | exact HB.out | apply below_alloc | apply pw_below_drewN | apply below_drew1 | refine below_set ?_ GE276.out) | exact HB.out))))
          have n2_ := Aside0.mk (blk_below (g := gb276) (o := .cells #[.slice Ao10 t272.length co10] 26 (0, 0)) (by (with_reducible repeat (first | refine blk_drewN ?_ _ | refine blk_drew ?_ | refine blk_alloc ?_ _)); exact BK276.out) hb)
          have n3_ := Aside0.mk (below_step (by repeat (first | (with_reducible first | exact HB.out | apply below_alloc | apply pw_below_drewN | apply below_drew1 | refine below_set ?_ GE276.out) | exact HB.out)) hb)
          clear HO_277000
          clear BK276
          clear HB
          have HO_277000 := n0_
          have HO279 := n1_
          have BK276 := n2_
          have HB := n3_
          clear n0_ n1_ n2_ n3_
          (try clear hb)
          (try clear hb2)
          (try clear hk)
          (try clear hi)
          (try clear ho0)
          obtain ⟨Ao42, co42, eo42⟩ := Kd.R_slice HO279.out
          (first | subst eo42 | (injection eo42 with f1_ f2_ f3_; have f4_ := f1_.symm; have f5_ := f3_.symm; clear f1_ f2_ f3_; subst f4_; subst f5_))
          refine hK.out _ _ ((blk_cell BK276.out 0).trans rfl) (fun hHeld => ?_)
          clear hK K
          refine norm_ (a' := ?_) ?_ ?_
          rotate_left
          · show Act.put _ (some 24) _ = _
            simp only [Act.put, List.setIfInBounds_toArray, List.set_cons_zero, List.set_cons_succ, i64_w, i32_w]
            rfl
          refine one_ (i := 5) (N := some 26) #[true, true, true, true, true, true, false] rfl rfl (by kernel_rfl) (by decide) (fun K hK => ?_)
          refine goes_ Tryd.func14 (by kernel_rfl) rfl #[.agg #[.slice Ao10 t272.length co10], .int .i64 t275, .slice Ao42 t277.length co42, .int .i64 x7_5] (by rfl) rfl rfl (by (try simp only [List.map_toArray, List.map_cons, List.map_nil]); first | done | rfl | (simp only [List.length_drop, List.length_take]; rfl)) ?_
          with_reducible refine (heraldlaw04_is.calls kj5 _ _ t272 t275 _ _ t277 x7_5 false _ ?side1 ?side2 ?side3 ?side4 A14.out).mono ?_
          (case side1 => repeat (first | exact (Kd.V_reads' HO_277000.out).2.2 | (with_reducible refine Kd.C_alloc ?_ _) | (with_reducible refine Kd.C_drewN ?_ _) | (with_reducible refine Kd.C_drew ?_)))
          (case side2 => exact (Kd.V_reads' HO_277000.out).2.1)
          (case side3 => repeat (first | exact (Kd.R_reads' HO279.out).2.2 | (with_reducible refine Kd.C_alloc ?_ _) | (with_reducible refine Kd.C_drewN ?_ _) | (with_reducible refine Kd.C_drew ?_)))
          (case side4 => exact (Kd.R_reads' HO279.out).2.1)
          rintro e w43 ⟨rfl, hb⟩
          refine ⟨_, rfl, ?_⟩
          have n0_ := Aside0.mk (Kd.V_below (by (with_reducible repeat (first | apply Kd.V_alloc | apply Kd.V_drewN | apply Kd.V_drew)); exact HO_277000.out) hb)
          have n1_ := Aside0.mk (Kd.R_below (by (with_reducible repeat (first | apply Kd.R_alloc | apply Kd.R_drewN | apply Kd.R_drew)); exact HO279.out) hb)
          have n2_ := Aside0.mk (blk_below (g := gb276) (o := .cells #[.slice Ao10 t272.length co10] 26 (0, 0)) (by (with_reducible repeat (first | refine blk_drewN ?_ _ | refine blk_drew ?_ | refine blk_alloc ?_ _)); exact BK276.out) hb)
          have n3_ := Aside0.mk (below_step (by repeat (first | (with_reducible first | exact HB.out | apply below_alloc | apply pw_below_drewN | apply below_drew1 | refine below_set ?_ GE276.out) | exact HB.out)) hb)
          clear HO_277000
          clear HO279
          clear BK276
          clear HB
          have HO_277000 := n0_
          have HO279 := n1_
          have BK276 := n2_
          have HB := n3_
          clear n0_ n1_ n2_ n3_
          (try clear hb)
          (try clear hb2)
          (try clear hk)
          (try clear hi)
          refine hK.out _ _ ((blk_cell BK276.out 0).trans rfl) (fun hHeld => ?_)
          clear hK K
          refine norm_ (a' := ?_) ?_ ?_
          rotate_left
          · show Act.put _ (some 26) _ = _
            simp only [Act.put, List.setIfInBounds_toArray, List.set_cons_zero, List.set_cons_succ, i64_w, i32_w]
            rfl
          refine pure_ (i := 6) (N := some 27) (v := ?_) (a' := ?_) #[true, true, true, true, true, true, true] rfl rfl (by kernel_rfl) (fun _ _ _ h => h) (Or.inl ⟨by rfl, ?_⟩) ?_ ?_
          rotate_left
          · intro w'
            go_simp
            with_reducible rfl
          rotate_left
          · simp only [Act.put, List.setIfInBounds_toArray, List.set_cons_zero, List.set_cons_succ, i64_w, i32_w]
            rfl
          refine done_ (by kernel_rfl) ?_
          try go_wp2
          go_ret
          exact ⟨by first | rfl | (simp [errW_none, errW_some] <;> rfl) | (simp [*, errW_none, errW_some] <;> rfl), by repeat (first | (with_reducible first | exact HB.out | apply below_alloc | apply pw_below_drewN | apply below_drew1 | refine below_set ?_ GE276.out) | exact HB.out)⟩
  · replace c4 := Bool.eq_false_iff.mpr c4
    subst c4
    have H1 : (some false) = some r := by rw [if_neg (show ¬ (false = true) by decide)] at H; exact H
    clear H
    have H := H1
    clear H1
    obtain rfl := Option.some.inj H
    go_enter Tryd.func3, Tryd.ntmps3
    go_wp2_with (first | ((with_reducible refine gate_callee (f := 12) rfl ?_); refine goesL_ (some 12) rfl rfl Tryd.func12 (by kernel_rfl) rfl #[] rfl (by (try simp only [List.map_toArray, List.map_cons, List.map_nil]); first | done | rfl | (simp only [List.length_drop, List.length_take]; rfl)) ?_; (with_reducible refine (heraldlaw04_awake.calls k  false _ A3.out).mono ?_); rintro e w44 ⟨rfl, hb⟩; refine ⟨_, rfl, ?_⟩; have n0_ := Aside0.mk (below_step (by repeat (first | (with_reducible first | exact HB.out | apply below_alloc | apply pw_below_drewN | apply below_drew1) | exact HB.out)) hb); clear HB; have HB := n0_; clear n0_; (try clear hb); (try clear hb2); (try clear hk); (try clear hi)))
    go_ret
    exact ⟨by first | rfl | (simp [errW_none, errW_some] <;> rfl) | (simp [*, errW_none, errW_some] <;> rfl), by repeat (first | (with_reducible first | exact HB.out | apply below_alloc | apply pw_below_drewN | apply below_drew1) | exact HB.out)⟩
end Go.Proofs.YtgcngbmkgjphpaaDoor.PAll
end

section
namespace Go.Proofs.YtgcngbmkgjphpaaDoor.Nums
open Go.RowKit Go.Proofs.YtgcngbmkgjphpaaDoor.PAll Go.Proofs.YtgcngbmkgjphpaaDoorW.PrintWords Go.Proofs.YtgcngbmkgjphpaaDoorW.PrintLast Go.Proofs.YtgcngbmkgjphpaaDoorW.PrintMore
set_option linter.unusedVariables false
set_option linter.unusedSimpArgs false
theorem prod_neg (l : List Int) (hl : l.length ≤ 17592186044416) : ∀ (m i : Nat) (fl big : Bool) (o : List Int), m = l.length - i → i ≤ l.length → (∃ x ∈ l.drop i, x < 0) →
    Ev (fun k => nat_Product.l0 k l fl l (l.length : Int) (i : Int)) ([], 40) ∧ Ev (fun k => heraldref04_Product.l0 k l o big l (l.length : Int) (i : Int)) ([], 40) := by
  intro m
  induction m with
  | zero =>
    intro i fl big o hm hi h
    rw [List.drop_eq_nil_of_le (by omega)] at h
    obtain ⟨x, hx, _⟩ := h
    simp at hx
  | succ m ih =>
    intro i fl big o hm hi h
    have hlt : i < l.length := by omega
    have hr := rd_at l i hlt
    by_cases c : l[i] < 0
    · refine ⟨Ev.step (f := fun _ => some ([], 40)) (fun k => ?_) (Ev.now _), Ev.step (f := fun _ => some ([], 40)) (fun k => ?_) (Ev.now _)⟩
      · rw [nat_Product.l0, if_pos (by omega), if_pos (by omega), if_pos (by omega), hr, if_pos c]
      · rw [heraldref04_Product.l0, if_pos (by omega), if_pos (by omega), if_pos (by omega), hr, if_pos c]
    · have h2 : ∃ x ∈ l.drop (i + 1), x < 0 := by
        obtain ⟨x, hx, hn⟩ := h
        rw [List.drop_eq_getElem_cons hlt] at hx
        rcases List.mem_cons.mp hx with e | e
        · subst e; exact absurd hn c
        · exact ⟨x, e, hn⟩
      constructor
      · by_cases hf : fl = true
        · refine Ev.step (fun k => ?_) (ih (i + 1) true big o (by omega) (by omega) h2).1
          rw [nat_Product.l0, if_pos (by omega), if_pos (by omega), if_pos (by omega), hr, if_neg c, if_pos hf, wrap_in (by omega) (by omega)]
          rfl
        · refine Ev.step (fun k => ?_) (ih (i + 1) (l[i] == 0) big o (by omega) (by omega) h2).1
          rw [nat_Product.l0, if_pos (by omega), if_pos (by omega), if_pos (by omega), hr, if_neg c, if_neg hf, wrap_in (by omega) (by omega)]
          rfl
      · by_cases hz : l[i] = 0
        · refine Ev.step (fun k => ?_) (ih (i + 1) fl false [] (by omega) (by omega) h2).2
          rw [heraldref04_Product.l0, if_pos (by omega), if_pos (by omega), if_pos (by omega), hr, if_neg c, if_pos hz, wrap_in (by omega) (by omega)]
          rfl
        · refine Ev.step (fun k => ?_) (ih (i + 1) fl big o (by omega) (by omega) h2).2
          rw [heraldref04_Product.l0, if_pos (by omega), if_pos (by omega), if_pos (by omega), hr, if_neg c, if_neg hz, wrap_in (by omega) (by omega)]
          rfl
theorem prod_zero (l : List Int) (hl : l.length ≤ 17592186044416) (hn : ∀ x ∈ l, 0 ≤ x) : ∀ (m i : Nat) (fl big : Bool) (o : List Int), m = l.length - i → i ≤ l.length → (fl = true ∧ o = [] ∨ (0 : Int) ∈ l.drop i) →
    Ev (fun k => nat_Product.l0 k l fl l (l.length : Int) (i : Int)) ([], 0) ∧ Ev (fun k => heraldref04_Product.l0 k l o big l (l.length : Int) (i : Int)) ([], 0) := by
  intro m
  induction m with
  | zero =>
    intro i fl big o hm hi h
    rw [List.drop_eq_nil_of_le (by omega)] at h
    obtain ⟨rfl, rfl⟩ : fl = true ∧ o = [] := h.resolve_right (by simp)
    refine ⟨Ev.step (f := fun _ => some ([], 0)) (fun k => ?_) (Ev.now _), Ev.step (f := fun _ => some ([], 0)) (fun k => ?_) (Ev.now _)⟩
    · rw [nat_Product.l0, if_neg (by omega), if_pos rfl]
    · rw [heraldref04_Product.l0, if_neg (by omega), if_pos (by simp)]
  | succ m ih =>
    intro i fl big o hm hi h
    have hlt : i < l.length := by omega
    have hr := rd_at l i hlt
    have hx := hn l[i] (List.getElem_mem hlt)
    have c : ¬ l[i] < 0 := by omega
    rw [List.drop_eq_getElem_cons hlt] at h
    by_cases hz : l[i] = 0
    · have i1 := ih (i + 1) true false [] (by omega) (by omega) (.inl ⟨rfl, rfl⟩)
      constructor
      · refine Ev.step (fun k => ?_) i1.1
        have e : (if fl = true then (nat_Product.l0 k l true l (l.length : Int) (wrap64 ((i : Int) + 1))) else (nat_Product.l0 k l ((l[i]) == 0) l (l.length : Int) (wrap64 ((i : Int) + 1)))) = nat_Product.l0 k l true l (l.length : Int) (wrap64 ((i : Int) + 1)) := by
          by_cases hf : fl = true
          · rw [if_pos hf]
          · rw [if_neg hf, hz]; rfl
        rw [nat_Product.l0, if_pos (by omega), if_pos (by omega), if_pos (by omega), hr, if_neg c, e, wrap_in (by omega) (by omega)]
        rfl
      · refine Ev.step (fun k => ?_) i1.2
        rw [heraldref04_Product.l0, if_pos (by omega), if_pos (by omega), if_pos (by omega), hr, if_neg c, if_pos hz, wrap_in (by omega) (by omega)]
        rfl
    · have h2 : fl = true ∧ o = [] ∨ (0 : Int) ∈ l.drop (i + 1) := by
        rcases h with h | h
        · exact .inl h
        · rcases List.mem_cons.mp h with e | e
          · exact absurd e.symm hz
          · exact .inr e
      have hb : (l[i] == 0) = false := beq_eq_false_iff_ne.mpr hz
      have i1 := ih (i + 1) fl big o (by omega) (by omega) h2
      constructor
      · refine Ev.step (fun k => ?_) i1.1
        have e : (if fl = true then (nat_Product.l0 k l true l (l.length : Int) (wrap64 ((i : Int) + 1))) else (nat_Product.l0 k l ((l[i]) == 0) l (l.length : Int) (wrap64 ((i : Int) + 1)))) = nat_Product.l0 k l fl l (l.length : Int) (wrap64 ((i : Int) + 1)) := by
          cases fl
          · rw [if_neg (by decide), hb]
          · rw [if_pos rfl]
        rw [nat_Product.l0, if_pos (by omega), if_pos (by omega), if_pos (by omega), hr, if_neg c, e, wrap_in (by omega) (by omega)]
        rfl
      · refine Ev.step (fun k => ?_) i1.2
        rw [heraldref04_Product.l0, if_pos (by omega), if_pos (by omega), if_pos (by omega), hr, if_neg c, if_neg hz, wrap_in (by omega) (by omega)]
        rfl
theorem prod_pos (l : List Int) (hl : l.length ≤ 17592186044416) (hp : ∀ x ∈ l, 0 < x) (R R' : List Int × Int) (h1 : Ev (fun k => nat_Product.l1 k l (l.length : Int) 0 (dgs 4294967296 1)) R) (h2 : Ev (fun k => heraldref04_Product.l1 k (dgs 65536 1) false l (l.length : Int) 0) R') : ∀ (m i : Nat), m = l.length - i → i ≤ l.length →
    Ev (fun k => nat_Product.l0 k l false l (l.length : Int) (i : Int)) R ∧ Ev (fun k => heraldref04_Product.l0 k l (dgs 65536 1) false l (l.length : Int) (i : Int)) R' := by
  intro m
  induction m with
  | zero =>
    intro i hm hi
    constructor
    · refine Ev.step (fun k => ?_) ((of_ev 1 (by omega)).bind (f := fun k t231 => nat_Product.l1 k l (l.length : Int) 0 t231) h1)
      rw [nat_Product.l0, if_neg (by omega), if_neg (by decide)]
      rfl
    · refine Ev.step (fun k => ?_) h2
      rw [heraldref04_Product.l0, if_neg (by omega), if_neg (by rw [← rone]; simp)]
  | succ m ih =>
    intro i hm hi
    have hlt : i < l.length := by omega
    have hr := rd_at l i hlt
    have hx := hp l[i] (List.getElem_mem hlt)
    have hb : (l[i] == 0) = false := beq_eq_false_iff_ne.mpr (by omega)
    constructor
    · refine Ev.step (fun k => ?_) (ih (i + 1) (by omega) (by omega)).1
      rw [nat_Product.l0, if_pos (by omega), if_pos (by omega), if_pos (by omega), hr, if_neg (by omega), if_neg (by decide), hb, wrap_in (by omega) (by omega)]
      rfl
    · refine Ev.step (fun k => ?_) (ih (i + 1) (by omega) (by omega)).2
      rw [heraldref04_Product.l0, if_pos (by omega), if_pos (by omega), if_pos (by omega), hr, if_neg (by omega), if_neg (by omega), wrap_in (by omega) (by omega)]
      rfl
theorem product_both (l : List Int) (hl : l.length ≤ 17592186044416) (hw : ∀ x ∈ l, -9223372036854775808 ≤ x ∧ x < 9223372036854775808) : ∃ (v : Nat) (e : Int), bl v ≤ 65536 ∧ Ev (fun k => nat_Product.f k l) (dgs 4294967296 v, e) ∧ Ev (fun k => heraldref04_Product.f k l) (dgs 65536 v, e) := by
  have r0 : dgs 65536 0 = [] := dgs_zero _
  have p0 : dgs 4294967296 0 = [] := dgs_zero _
  by_cases c1 : ∃ x ∈ l, x < 0
  · have := prod_neg l hl l.length 0 false false (dgs 65536 1) (by omega) (by omega) (by rw [List.drop_zero]; exact c1)
    refine ⟨0, 40, by rw [bl_zero]; omega, ?_, ?_⟩
    · rw [p0]; exact this.1
    · rw [r0, show (fun k => heraldref04_Product.f k l) = fun k => heraldref04_Product.l0 k l (dgs 65536 1) false l (l.length : Int) 0 from by funext k; unfold heraldref04_Product.f; rw [rone]]; exact this.2
  · have hn : ∀ x ∈ l, 0 ≤ x := fun x hx => by
      rcases Int.lt_or_le x 0 with g | g
      · exact absurd ⟨x, hx, g⟩ c1
      · exact g
    by_cases c2 : (0 : Int) ∈ l
    · have := prod_zero l hl hn l.length 0 false false (dgs 65536 1) (by omega) (by omega) (.inr (by rw [List.drop_zero]; exact c2))
      refine ⟨0, 0, by rw [bl_zero]; omega, ?_, ?_⟩
      · rw [p0]; exact this.1
      · rw [r0, show (fun k => heraldref04_Product.f k l) = fun k => heraldref04_Product.l0 k l (dgs 65536 1) false l (l.length : Int) 0 from by funext k; unfold heraldref04_Product.f; rw [rone]]; exact this.2
    · have hp : ∀ x ∈ l, 0 < x := fun x hx => by
        have := hn x hx
        have : x ≠ 0 := by rintro rfl; exact c2 hx
        omega
      have hp2 : ∀ x ∈ l, 0 < x ∧ x < 9223372036854775808 := fun x hx => ⟨hp x hx, (hw x hx).2⟩
      have b1 : bl 1 ≤ 65536 := by rw [bl_one]; omega
      by_cases g : bl (prodL l 1) ≤ 65536
      · have h1 := prod_l1 l hl hp2 (prodL l 1) (dgs 4294967296 (prodL l 1), 0) (fun _ => rfl) (fun h => absurd g h) l.length 0 1 (by omega) (by omega) b1 (by rw [List.drop_zero])
        have h2 := rprod_l1 l hl hp2 (prodL l 1) (dgs 65536 (prodL l 1), 0) (fun _ => rfl) (fun h => absurd g h) l.length 0 1 (by omega) (by omega) b1 (by rw [List.drop_zero])
        have := prod_pos l hl hp _ _ h1 h2 l.length 0 (by omega) (by omega)
        refine ⟨prodL l 1, 0, g, this.1, ?_⟩
        rw [show (fun k => heraldref04_Product.f k l) = fun k => heraldref04_Product.l0 k l (dgs 65536 1) false l (l.length : Int) 0 from by funext k; unfold heraldref04_Product.f; rw [rone]]; exact this.2
      · have h1 := prod_l1 l hl hp2 (prodL l 1) ([], 41) (fun h => absurd h g) (fun _ => rfl) l.length 0 1 (by omega) (by omega) b1 (by rw [List.drop_zero])
        have h2 := rprod_l1 l hl hp2 (prodL l 1) ([], 41) (fun h => absurd h g) (fun _ => rfl) l.length 0 1 (by omega) (by omega) b1 (by rw [List.drop_zero])
        have := prod_pos l hl hp _ _ h1 h2 l.length 0 (by omega) (by omega)
        refine ⟨0, 41, by rw [bl_zero]; omega, ?_, ?_⟩
        · rw [p0]; exact this.1
        · rw [r0, show (fun k => heraldref04_Product.f k l) = fun k => heraldref04_Product.l0 k l (dgs 65536 1) false l (l.length : Int) 0 from by funext k; unfold heraldref04_Product.f; rw [rone]]; exact this.2
theorem wf_i64 {a : Int} (h : (Lit.int .i64 a).wf = true) : -9223372036854775808 ≤ a ∧ a < 9223372036854775808 := by
  simp [Lit.wf, IntKind.min, IntKind.max, IntKind.signed, IntKind.bits] at h
  omega
/-- The law's own last loop: what was handed in stays. -/
theorem makes_l0 (x6 x7 : Int) (x9 l : List Int) (x277 : List Int) (hl : l.length ≤ 17592186044416) (h : Ev (fun k => heraldlaw04_is.f k x277 x6 x9 x7) true) : ∀ (m i : Nat), m = l.length - i → i ≤ l.length →
    Ev (fun k => heraldlaw04_NatMakes.l0 k x6 x7 l x9 l (l.length : Int) (i : Int) x277) true := by
  intro m
  induction m with
  | zero =>
    intro i hm hi
    refine Ev.step (fun k => ?_) (h.bind (f := fun _ t => some t) (Ev.now _))
    rw [heraldlaw04_NatMakes.l0, if_neg (by omega)]
  | succ m ih =>
    intro i hm hi
    refine Ev.step (fun k => ?_) (ih (i + 1) (by omega) (by omega))
    rw [heraldlaw04_NatMakes.l0, if_pos (by omega), if_pos (by omega), if_pos (by omega), if_pos (by omega), if_pos rfl, wrap_in (by omega) (by omega)]
    rfl
theorem makes_j0 (a0 : Int) (l : List Int) (v : Nat) (e : Int) (hl : l.length < 17592186044416) (hw : ∀ x ∈ l, -9223372036854775808 ≤ x ∧ x < 9223372036854775808) (hof : Ev (fun k => heraldref04_Of.f k a0) (dgs 65536 v)) (hv : bl v ≤ 65536) : Ev (fun k => heraldlaw04_NatMakes.j0 k a0 l e e (dgs 4294967296 v)) true := by
  have lp := pd_len (n := v) (k := 2048) (by omega)
  have lr := rg_len (n := v) (k := 4096) (by omega)
  obtain ⟨u, f, hu, p1, p2⟩ := product_both l (by omega) hw
  have lp2 := pd_len (n := u) (k := 2048) (by omega)
  have lr2 := rg_len (n := u) (k := 4096) (by omega)
  have h1 := makes_l0 f f (dgs 65536 u) l (dgs 4294967296 u) (by omega) (is_ev u f (by omega) (by omega)) l.length 0 (by omega) (by omega)
  have q1 := p2.bind (f := fun k bt291 => heraldlaw04_NatMakes.l0 k f bt291.2 l bt291.1 l (l.length : Int) 0 (dgs 4294967296 u)) h1
  have q2 := p1.bind (f := fun k bt287 => ((heraldref04_Product.f k l).bind fun bt291 => (heraldlaw04_NatMakes.l0 k bt287.2 bt291.2 l bt291.1 l (l.length : Int) 0 bt287.1))) q1
  have q3 := (is_ev v e (by omega) (by omega)).bind (f := fun k t280 => (if t280 = true then ((nat_Product.f k l).bind fun bt287 => ((heraldref04_Product.f k l).bind fun bt291 => (heraldlaw04_NatMakes.l0 k bt287.2 bt291.2 l bt291.1 l (l.length : Int) 0 bt287.1))) else (some false))) (r := true) (Ev.congr (fun k => by rw [if_pos rfl]) q2)
  have q4 := hof.bind (f := fun k t277 => (heraldlaw04_is.f k (dgs 4294967296 v) e t277 e).bind fun t280 => (if t280 = true then ((nat_Product.f k l).bind fun bt287 => ((heraldref04_Product.f k l).bind fun bt291 => (heraldlaw04_NatMakes.l0 k bt287.2 bt291.2 l bt291.1 l (l.length : Int) 0 bt287.1))) else (some false))) q3
  have hlen : ([] : List Int).length + l.length < 17592186044416 := by simp only [List.length_nil]; omega
  refine Ev.step (fun k => ?_) q4
  rw [heraldlaw04_NatMakes.j0]
  congr 1
  funext t277
  congr 1
  funext t280
  rw [Option.bind_some, if_pos hlen, Option.bind_some, List.nil_append]
theorem NatMakes_ev (a0 : Int) (l : List Int) (ha : -9223372036854775808 ≤ a0 ∧ a0 < 9223372036854775808) (hl : l.length < 17592186044416) (hw : ∀ x ∈ l, -9223372036854775808 ≤ x ∧ x < 9223372036854775808) : Ev (fun k => heraldlaw04_NatMakes.f k a0 l) true := by
  by_cases c : a0 < 0
  · have h := makes_j0 a0 l 0 40 hl hw (by rw [dgs_zero]; exact rof_neg a0 (by omega)) (by rw [bl_zero]; omega)
    rw [dgs_zero] at h
    have q := awake_ev.bind (f := fun k t271 => (if t271 = true then ((nat_Of.f k a0).bind fun bt272 => (if a0 < 0 then (heraldlaw04_NatMakes.j0 k a0 l bt272.2 40 bt272.1) else (heraldlaw04_NatMakes.j0 k a0 l bt272.2 0 bt272.1))) else (some false))) (r := true) (Ev.congr (fun k => by rw [if_pos rfl, Of_neg a0 c, Option.bind_some, if_pos c]) h)
    exact q
  · obtain ⟨n, rfl⟩ := Int.eq_ofNat_of_zero_le (show 0 ≤ a0 by omega)
    have hb : bl n ≤ 65536 := by
      have : bl n ≤ 63 := bl_le.mpr (by rw [show (2 : Nat) ^ 63 = 9223372036854775808 from rfl]; omega)
      omega
    have h := makes_j0 (n : Int) l n 0 hl hw (rof_ev n (by omega)) hb
    have q0 := (Of_ev n (by omega)).bind (f := fun k bt272 => (if (n : Int) < 0 then (heraldlaw04_NatMakes.j0 k (n : Int) l bt272.2 40 bt272.1) else (heraldlaw04_NatMakes.j0 k (n : Int) l bt272.2 0 bt272.1))) (r := true) (Ev.congr (fun k => by rw [if_neg c]) h)
    have q := awake_ev.bind (f := fun k t271 => (if t271 = true then ((nat_Of.f k (n : Int)).bind fun bt272 => (if (n : Int) < 0 then (heraldlaw04_NatMakes.j0 k (n : Int) l bt272.2 40 bt272.1) else (heraldlaw04_NatMakes.j0 k (n : Int) l bt272.2 0 bt272.1))) else (some false))) (r := true) (Ev.congr (fun k => by rw [if_pos rfl]) q0)
    exact q
end Go.Proofs.YtgcngbmkgjphpaaDoor.Nums
end

section
namespace Go.Proofs.YtgcngbmkgjphpaaDoor.Pure
open Go.RowKit Go.Proofs.YtgcngbmkgjphpaaDoor.PAll Go.Proofs.YtgcngbmkgjphpaaDoor.Nums Go.Proofs.YtgcngbmkgjphpaaDoorW.PrintWords
theorem NatMakes (a0 : Int) (l1 : List Int) (h0 : (Lit.int .i64 a0).wf = true) (hl : l1.length * 8 ≤ 140737488351232) (hw : ∀ x ∈ l1, (Lit.int .i64 x).wf = true) : ∃ k, heraldlaw04_NatMakes.f k a0 l1 = some true :=
  (NatMakes_ev a0 l1 (wf_i64 h0) (by omega) (fun x hx => wf_i64 (hw x hx))).rounds
end Go.Proofs.YtgcngbmkgjphpaaDoor.Pure
end
