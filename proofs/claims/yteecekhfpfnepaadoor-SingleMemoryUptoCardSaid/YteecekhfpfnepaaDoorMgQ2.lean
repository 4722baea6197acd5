/- Texts of this session, merged: PAllx6, PAllx8, PAllx9, PAllx12, PAllx14, PAllx11, PAllx13, PAllx15, SgFmts, SgWhole, PAllx19, SgAt, SgQuant, PureSingleQuantises. -/
import Derived.Test.YteecekhfpfnepaaDoorMgQ0
import Derived.Test.YteecekhfpfnepaaDoorMgQ1
import Derived.DataShut
section
-- Written by a program of this session out of the translation. Lean checks it.
namespace Go.Proofs.YteecekhfpfnepaaDoor.PAll
open Go.RowKit Go.Proofs.YteecekhfpfnepaaDoorW.PrintWords Go.Proofs.YteecekhfpfnepaaDoorW.PrintLast Go.Proofs.YteecekhfpfnepaaDoorW.PrintMore
attribute [local go_sem] max2_int min2_int max_two min_two max_three min_three max_four min_four   -- for this text's walks alone
set_option linter.unusedVariables false
set_option linter.unusedSimpArgs false

/-! ### single_Half: function 23 -/
mutual
def single_Half.j0 : Nat → Int → Int → Bool → Int → Int → Option (Int)
  | 0, _, _, _, _, _ => none
  | k + 1, x4, x139000, x139001, x139002, x139003 => if x139000 = 2 then (some 32256) else (if x139000 = 1 then (some (Go.bits .or .u16 x4 31744)) else ((bits_Len64.f (IntKind.u64.wrap (x139002))).bind fun t139 => ((single_down.f (IntKind.u64.wrap (x139002)) (wrap64 ((mx (-24) (wrap64 ((wrap64 (x139003 + t139)) - 11))) - x139003))).bind fun t140 => (if t140 = 2048 then (single_Half.j1 k x4 (IntKind.u64.wrap (x139002)) (wrap64 ((mx (-24) (wrap64 ((wrap64 (x139003 + t139)) - 11))) + 1)) 1024) else (single_Half.j1 k x4 (IntKind.u64.wrap (x139002)) (mx (-24) (wrap64 ((wrap64 (x139003 + t139)) - 11))) t140)))))
def single_Half.j1 : Nat → Int → Int → Int → Int → Option (Int)
  | 0, _, _, _, _ => none
  | k + 1, x4, x5, x6, x7 => if x5 = 0 then (some x4) else (if x7 < 1024 then (some (Go.bits .or .u16 x4 (IntKind.u16.wrap (x7)))) else (if (wrap64 (x6 + 25)) ≥ 31 then (some (Go.bits .or .u16 x4 31744)) else (some (Go.bits .or .u16 (Go.bits .or .u16 x4 (IntKind.u16.wrap ((IntKind.u16.wrap (wrap64 (x6 + 25))) * 1024))) (IntKind.u16.wrap (IntKind.u64.wrap (x7 - 1024)))))))
end
def single_Half.f (k : Nat) (a0 : Int) : Option (Int) := (single_Parts.f a0).bind fun bt134 => (if bt134.2.1 = true then (single_Half.j0 k 32768 bt134.1 bt134.2.1 bt134.2.2.1 bt134.2.2.2) else (single_Half.j0 k 0 bt134.1 bt134.2.1 bt134.2.2.1 bt134.2.2.2))
theorem single_Half.mono_l : ∀ k, (∀ y0 y1 y2 y3 y4, LeO (single_Half.j0 k y0 y1 y2 y3 y4) (single_Half.j0 (k + 1) y0 y1 y2 y3 y4)) ∧ (∀ y0 y1 y2 y3, LeO (single_Half.j1 k y0 y1 y2 y3) (single_Half.j1 (k + 1) y0 y1 y2 y3))
  | 0 => ⟨fun _ _ _ _ _ r h => by simp [single_Half.j0] at h, fun _ _ _ _ r h => by simp [single_Half.j1] at h⟩
  | k + 1 => by
    obtain ⟨ih0, ih1⟩ := single_Half.mono_l k
    refine ⟨?_, ?_⟩
    · intro y0 y1 y2 y3 y4
      unfold single_Half.j0
      repeat' first
      | (with_reducible exact ih0 _ _ _ _ _)
      | (with_reducible exact ih1 _ _ _ _)
      | (with_reducible exact LeO.refl _)
      | (with_reducible exact LeO.none _)
      | (with_reducible refine LeO.ite ?_ ?_)
      | (with_reducible refine LeO.bind ?_ (fun _ => ?_))
      | exact ih0 _ _ _ _ _
      | exact ih1 _ _ _ _
      | exact LeO.none _
      | refine LeO.ite ?_ ?_
      | refine LeO.bind ?_ (fun _ => ?_)
    · intro y0 y1 y2 y3
      unfold single_Half.j1
      repeat' first
      | (with_reducible exact ih0 _ _ _ _ _)
      | (with_reducible exact ih1 _ _ _ _)
      | (with_reducible exact LeO.refl _)
      | (with_reducible exact LeO.none _)
      | (with_reducible refine LeO.ite ?_ ?_)
      | (with_reducible refine LeO.bind ?_ (fun _ => ?_))
      | exact ih0 _ _ _ _ _
      | exact ih1 _ _ _ _
      | exact LeO.none _
      | refine LeO.ite ?_ ?_
      | refine LeO.bind ?_ (fun _ => ?_)
theorem single_Half.mono : ∀ a0 k, LeO (single_Half.f k a0) (single_Half.f (k + 1) a0) := by
  intro a0 k
  obtain ⟨ih0, ih1⟩ := single_Half.mono_l k
  unfold single_Half.f
  repeat' first
      | (with_reducible exact ih0 _ _ _ _ _)
      | (with_reducible exact ih1 _ _ _ _)
      | (with_reducible exact LeO.refl _)
      | (with_reducible exact LeO.none _)
      | (with_reducible refine LeO.ite ?_ ?_)
      | (with_reducible refine LeO.bind ?_ (fun _ => ?_))
      | exact ih0 _ _ _ _ _
      | exact ih1 _ _ _ _
      | exact LeO.none _
      | refine LeO.ite ?_ ?_
      | refine LeO.bind ?_ (fun _ => ?_)
set_option maxHeartbeats 8000000 in
set_option maxRecDepth 100000 in
theorem single_Half.calls (k : Nat) (a0 : Int) (r : Int) (w : World) (h : single_Half.f k a0 = some r) (hTab : Tab w) :
    Calls Tryd.prog 23 #[.int .u32 a0] w fun e w' => e = .returned (.int .u16 r) ∧ Below w.heap.size w w' := by
  have HTab := Aside0.mk hTab
  clear hTab
  have hu24 := Tryd.underlying24
  have HB := Aside0.mk (Below.refl w.heap.size w)
  have H : ((single_Parts.f a0).bind fun bt134 => (if bt134.2.1 = true then (single_Half.j0 k 32768 bt134.1 bt134.2.1 bt134.2.2.1 bt134.2.2.2) else (single_Half.j0 k 0 bt134.1 bt134.2.1 bt134.2.2.1 bt134.2.2.2))) = some r := h
  clear h
  replace H := Option.bind_eq_some_iff.mp H
  obtain ⟨⟨t134, t135, t136, t137⟩, A20, H⟩ := H
  replace H : (if t135 = true then (single_Half.j0 k 32768 t134 t135 t136 t137) else (single_Half.j0 k 0 t134 t135 t136 t137)) = some r := H
  have A2 := Aside0.mk A20
  clear A20
  have HC3 := Aside0.mk H
  clear H
  go_enter Tryd.func23, Tryd.ntmps23
  go_upto_if 11 with (first | (go_at_call 13; (with_reducible refine (single_Parts.calls a0 t134 t135 t136 t137 _ A2.out (by first | exact HTab.out | exact tab_below HTab.out (by repeat (first | (with_reducible first | exact HB.out | apply below_alloc | apply pw_below_drewN | apply below_drew1) | exact HB.out)))).mono ?_); rintro e w4 ⟨rfl, hb⟩; have n0_ := Aside0.mk (below_step (by repeat (first | (with_reducible first | exact HB.out | apply below_alloc | apply pw_below_drewN | apply below_drew1) | exact HB.out)) hb); clear HB; have HB := n0_; clear n0_; (try clear hb); (try clear hb2); (try clear hk); (try clear hi)) | ((with_reducible refine gate_dst (N := 3) rfl ?_); refine box_event ?hg (N := 3) ?hd (cs := #[.int .i64 0, .bool false, .int .i64 0, .int .i64 0]) (t := 24) ?hr ?_; (case hd => rfl); (case hg => rfl); (case hr => first | (go_simp; done) | (go_simp; rfl)); intro gb138 hg w5 hbox hb; have n0_ := Aside0.mk (below_step (by repeat (first | (with_reducible first | exact HB.out | apply below_alloc | apply pw_below_drewN | apply below_drew1) | exact HB.out)) hb); have n1_ := Aside0.mk (hbox); have n2_ := Aside0.mk ((by rw [hg]; exact (below_size (by repeat (first | (with_reducible first | exact HB.out | apply below_alloc | apply pw_below_drewN | apply below_drew1) | exact HB.out))) : w.heap.size ≤ gb138)); have n3_ := Aside0.mk ((by rw [hg]; exact (below_size (by repeat (first | (with_reducible first | exact HB.out | apply below_alloc | apply pw_below_drewN | apply below_drew1) | exact HB.out))) : w.heap.size ≤ gb138)); clear HB; have HB := n0_; have BK138 := n1_; have GW138 := n2_; have GE138 := n3_; clear n0_ n1_ n2_ n3_; clear hb hbox hg; have hcz6_0 : w5.cell? ⟨gb138, 0, none⟩ = some (.int .i64 0) := (blk_cell BK138.out 0).trans rfl; have hcz6_1 : w5.cell? ⟨gb138, 1, none⟩ = some (.bool false) := (blk_cell BK138.out 1).trans rfl; have hcz6_2 : w5.cell? ⟨gb138, 2, none⟩ = some (.int .i64 0) := (blk_cell BK138.out 2).trans rfl; have hcz6_3 : w5.cell? ⟨gb138, 3, none⟩ = some (.int .i64 0) := (blk_cell BK138.out 3).trans rfl; have hfz6_0 := blk_frozen BK138.out 0; have hfz6_1 := blk_frozen BK138.out 1; have hfz6_2 := blk_frozen BK138.out 2; have hfz6_3 := blk_frozen BK138.out 3))
  repeat (go_quiet (first | (go_at_call 13; (with_reducible refine (single_Parts.calls a0 t134 t135 t136 t137 _ A2.out (by first | exact HTab.out | exact tab_below HTab.out (by repeat (first | (with_reducible first | exact HB.out | apply below_alloc | apply pw_below_drewN | apply below_drew1) | exact HB.out)))).mono ?_); rintro e w4 ⟨rfl, hb⟩; have n0_ := Aside0.mk (below_step (by repeat (first | (with_reducible first | exact HB.out | apply below_alloc | apply pw_below_drewN | apply below_drew1) | exact HB.out)) hb); clear HB; have HB := n0_; clear n0_; (try clear hb); (try clear hb2); (try clear hk); (try clear hi)) | ((with_reducible refine gate_dst (N := 3) rfl ?_); refine box_event ?hg (N := 3) ?hd (cs := #[.int .i64 0, .bool false, .int .i64 0, .int .i64 0]) (t := 24) ?hr ?_; (case hd => rfl); (case hg => rfl); (case hr => first | (go_simp; done) | (go_simp; rfl)); intro gb138 hg w5 hbox hb; have n0_ := Aside0.mk (below_step (by repeat (first | (with_reducible first | exact HB.out | apply below_alloc | apply pw_below_drewN | apply below_drew1) | exact HB.out)) hb); have n1_ := Aside0.mk (hbox); have n2_ := Aside0.mk ((by rw [hg]; exact (below_size (by repeat (first | (with_reducible first | exact HB.out | apply below_alloc | apply pw_below_drewN | apply below_drew1) | exact HB.out))) : w.heap.size ≤ gb138)); have n3_ := Aside0.mk ((by rw [hg]; exact (below_size (by repeat (first | (with_reducible first | exact HB.out | apply below_alloc | apply pw_below_drewN | apply below_drew1) | exact HB.out))) : w.heap.size ≤ gb138)); clear HB; have HB := n0_; have BK138 := n1_; have GW138 := n2_; have GE138 := n3_; clear n0_ n1_ n2_ n3_; clear hb hbox hg; have hcz6_0 : w5.cell? ⟨gb138, 0, none⟩ = some (.int .i64 0) := (blk_cell BK138.out 0).trans rfl; have hcz6_1 : w5.cell? ⟨gb138, 1, none⟩ = some (.bool false) := (blk_cell BK138.out 1).trans rfl; have hcz6_2 : w5.cell? ⟨gb138, 2, none⟩ = some (.int .i64 0) := (blk_cell BK138.out 2).trans rfl; have hcz6_3 : w5.cell? ⟨gb138, 3, none⟩ = some (.int .i64 0) := (blk_cell BK138.out 3).trans rfl; have hfz6_0 := blk_frozen BK138.out 0; have hfz6_1 := blk_frozen BK138.out 1; have hfz6_2 := blk_frozen BK138.out 2; have hfz6_3 := blk_frozen BK138.out 3)); go_upto_if 11 with (first | (go_at_call 13; (with_reducible refine (single_Parts.calls a0 t134 t135 t136 t137 _ A2.out (by first | exact HTab.out | exact tab_below HTab.out (by repeat (first | (with_reducible first | exact HB.out | apply below_alloc | apply pw_below_drewN | apply below_drew1) | exact HB.out)))).mono ?_); rintro e w4 ⟨rfl, hb⟩; have n0_ := Aside0.mk (below_step (by repeat (first | (with_reducible first | exact HB.out | apply below_alloc | apply pw_below_drewN | apply below_drew1) | exact HB.out)) hb); clear HB; have HB := n0_; clear n0_; (try clear hb); (try clear hb2); (try clear hk); (try clear hi)) | ((with_reducible refine gate_dst (N := 3) rfl ?_); refine box_event ?hg (N := 3) ?hd (cs := #[.int .i64 0, .bool false, .int .i64 0, .int .i64 0]) (t := 24) ?hr ?_; (case hd => rfl); (case hg => rfl); (case hr => first | (go_simp; done) | (go_simp; rfl)); intro gb138 hg w5 hbox hb; have n0_ := Aside0.mk (below_step (by repeat (first | (with_reducible first | exact HB.out | apply below_alloc | apply pw_below_drewN | apply below_drew1) | exact HB.out)) hb); have n1_ := Aside0.mk (hbox); have n2_ := Aside0.mk ((by rw [hg]; exact (below_size (by repeat (first | (with_reducible first | exact HB.out | apply below_alloc | apply pw_below_drewN | apply below_drew1) | exact HB.out))) : w.heap.size ≤ gb138)); have n3_ := Aside0.mk ((by rw [hg]; exact (below_size (by repeat (first | (with_reducible first | exact HB.out | apply below_alloc | apply pw_below_drewN | apply below_drew1) | exact HB.out))) : w.heap.size ≤ gb138)); clear HB; have HB := n0_; have BK138 := n1_; have GW138 := n2_; have GE138 := n3_; clear n0_ n1_ n2_ n3_; clear hb hbox hg; have hcz6_0 : w5.cell? ⟨gb138, 0, none⟩ = some (.int .i64 0) := (blk_cell BK138.out 0).trans rfl; have hcz6_1 : w5.cell? ⟨gb138, 1, none⟩ = some (.bool false) := (blk_cell BK138.out 1).trans rfl; have hcz6_2 : w5.cell? ⟨gb138, 2, none⟩ = some (.int .i64 0) := (blk_cell BK138.out 2).trans rfl; have hcz6_3 : w5.cell? ⟨gb138, 3, none⟩ = some (.int .i64 0) := (blk_cell BK138.out 3).trans rfl; have hfz6_0 := blk_frozen BK138.out 0; have hfz6_1 := blk_frozen BK138.out 1; have hfz6_2 := blk_frozen BK138.out 2; have hfz6_3 := blk_frozen BK138.out 3)))
  (try simp only [Act.put, List.setIfInBounds_toArray, List.set_cons_zero, List.set_cons_succ])
  go_cut [4] (fun v4 wc => ∃ (kq : Nat) (x4_2 : Int), v4 = .int .u16 x4_2 ∧ Aside0 (single_Half.j0 kq x4_2 t134 t135 t136 t137 = some r) ∧ Aside0 (kq ≤ k) ∧ Aside0 (wc.heap[gb138]? = some (.cells #[.int .i64 t134, .bool t135, .int .i64 t136, .int .i64 t137] 24 (0, 0))) ∧ Aside0 (Below w.heap.size w wc))
  case first =>
    have H := HC3.out
    clear HC3
    by_cases c7 : t135 = true
    · subst c7
      have H1 : (single_Half.j0 k 32768 t134 true t136 t137) = some r := by rw [if_pos rfl] at H; exact H
      clear H
      have H := H1
      clear H1
      have H' := Aside0.mk H
      clear H
      go_wp2
      repeat (go_quiet (fail); try go_wp2)
      go_meet
      case rel => exact ⟨_, (32768), (by first | rfl | (simp; done) | (simp [*]; done) | (simp [i64_w]; done) | (simp [*, i64_w]; done)), H', ⟨by first | omega | exact Nat.le_refl _⟩, ⟨by (with_reducible repeat (first | refine blk_drewN ?_ _ | refine blk_drew ?_ | refine blk_alloc ?_ _)); refine blk_put (cs := #[.int .i64 t134, .bool true, .int .i64 t136, .int .i64 0]) ?_ 3 _ rfl; (with_reducible repeat (first | refine blk_drewN ?_ _ | refine blk_drew ?_ | refine blk_alloc ?_ _)); refine blk_put (cs := #[.int .i64 t134, .bool true, .int .i64 0, .int .i64 0]) ?_ 2 _ rfl; (with_reducible repeat (first | refine blk_drewN ?_ _ | refine blk_drew ?_ | refine blk_alloc ?_ _)); refine blk_put (cs := #[.int .i64 t134, .bool false, .int .i64 0, .int .i64 0]) ?_ 1 _ rfl; (with_reducible repeat (first | refine blk_drewN ?_ _ | refine blk_drew ?_ | refine blk_alloc ?_ _)); refine blk_put (cs := #[.int .i64 0, .bool false, .int .i64 0, .int .i64 0]) ?_ 0 _ rfl; (with_reducible repeat (first | refine blk_drewN ?_ _ | refine blk_drew ?_ | refine blk_alloc ?_ _)); exact BK138.out⟩, ⟨by repeat (first | (with_reducible first | exact HB.out | apply below_alloc | apply pw_below_drewN | apply below_drew1 | refine below_set ?_ GE138.out) | exact HB.out)⟩⟩
    · replace c7 := Bool.eq_false_iff.mpr c7
      subst c7
      have H1 : (single_Half.j0 k 0 t134 false t136 t137) = some r := by rw [if_neg (show ¬ (false = true) by decide)] at H; exact H
      clear H
      have H := H1
      clear H1
      have H' := Aside0.mk H
      clear H
      go_wp2
      repeat (go_quiet (fail); try go_wp2)
      go_meet
      case rel => exact ⟨_, (0), (by first | rfl | (simp; done) | (simp [*]; done) | (simp [i64_w]; done) | (simp [*, i64_w]; done)), H', ⟨by first | omega | exact Nat.le_refl _⟩, ⟨by (with_reducible repeat (first | refine blk_drewN ?_ _ | refine blk_drew ?_ | refine blk_alloc ?_ _)); refine blk_put (cs := #[.int .i64 t134, .bool false, .int .i64 t136, .int .i64 0]) ?_ 3 _ rfl; (with_reducible repeat (first | refine blk_drewN ?_ _ | refine blk_drew ?_ | refine blk_alloc ?_ _)); refine blk_put (cs := #[.int .i64 t134, .bool false, .int .i64 0, .int .i64 0]) ?_ 2 _ rfl; (with_reducible repeat (first | refine blk_drewN ?_ _ | refine blk_drew ?_ | refine blk_alloc ?_ _)); refine blk_put (cs := #[.int .i64 t134, .bool false, .int .i64 0, .int .i64 0]) ?_ 1 _ rfl; (with_reducible repeat (first | refine blk_drewN ?_ _ | refine blk_drew ?_ | refine blk_alloc ?_ _)); refine blk_put (cs := #[.int .i64 0, .bool false, .int .i64 0, .int .i64 0]) ?_ 0 _ rfl; (with_reducible repeat (first | refine blk_drewN ?_ _ | refine blk_drew ?_ | refine blk_alloc ?_ _)); exact BK138.out⟩, ⟨by repeat (first | (with_reducible first | exact HB.out | apply below_alloc | apply pw_below_drewN | apply below_drew1 | refine below_set ?_ GE138.out) | exact HB.out)⟩⟩
  case rest =>
    clear HC3
    try clear c2
    try clear p2
    try clear c7
    try clear hcz6_0
    try clear hcz6_1
    try clear hcz6_2
    try clear hcz6_3
    try clear hfz6_0
    try clear hfz6_1
    try clear hfz6_2
    try clear hfz6_3
    obtain ⟨kq, x4_2, rfl, HA, HJ2, BK138, HB⟩ := hcut
    cases kq with
    | zero => exact absurd HA.out (by simp [single_Half.j0])
    | succ kj2 =>
      have H := HA.out
      clear HA
      simp only [single_Half.j0] at H
      by_cases c8 : t134 = 2
      · rw [if_pos c8] at H
        have c8b0 : (t134 == 2) = true := beq_iff_eq.mpr c8
        have c8b1 : (t134 != 2) = false := bne_eq_false_iff_eq.mpr c8
        clear c8
        obtain rfl := Option.some.inj H
        have hcz9_0 : wc.cell? ⟨gb138, 0, none⟩ = some (.int .i64 t134) := (blk_cell BK138.out 0).trans rfl
        have hcz9_1 : wc.cell? ⟨gb138, 1, none⟩ = some (.bool t135) := (blk_cell BK138.out 1).trans rfl
        have hcz9_2 : wc.cell? ⟨gb138, 2, none⟩ = some (.int .i64 t136) := (blk_cell BK138.out 2).trans rfl
        have hcz9_3 : wc.cell? ⟨gb138, 3, none⟩ = some (.int .i64 t137) := (blk_cell BK138.out 3).trans rfl
        have hfz9_0 := blk_frozen BK138.out 0
        have hfz9_1 := blk_frozen BK138.out 1
        have hfz9_2 := blk_frozen BK138.out 2
        have hfz9_3 := blk_frozen BK138.out 3
        go_wp2
        repeat (go_quiet (fail); try go_wp2)
        go_ret
        exact ⟨by first | rfl | (simp [errW_none, errW_some] <;> rfl) | (simp [*, errW_none, errW_some] <;> rfl), by repeat (first | (with_reducible first | exact HB.out | apply below_alloc | apply pw_below_drewN | apply below_drew1 | refine below_set ?_ GE138.out) | exact HB.out)⟩
      · rw [if_neg c8] at H
        have c8b0 : (t134 == 2) = false := beq_eq_false_iff_ne.mpr c8
        have c8b1 : (t134 != 2) = true := bne_iff_ne.mpr c8
        by_cases c10 : t134 = 1
        · rw [if_pos c10] at H
          have c10b0 : (t134 == 1) = true := beq_iff_eq.mpr c10
          have c10b1 : (t134 != 1) = false := bne_eq_false_iff_eq.mpr c10
          clear c10
          obtain rfl := Option.some.inj H
          have hcz11_0 : wc.cell? ⟨gb138, 0, none⟩ = some (.int .i64 t134) := (blk_cell BK138.out 0).trans rfl
          have hcz11_1 : wc.cell? ⟨gb138, 1, none⟩ = some (.bool t135) := (blk_cell BK138.out 1).trans rfl
          have hcz11_2 : wc.cell? ⟨gb138, 2, none⟩ = some (.int .i64 t136) := (blk_cell BK138.out 2).trans rfl
          have hcz11_3 : wc.cell? ⟨gb138, 3, none⟩ = some (.int .i64 t137) := (blk_cell BK138.out 3).trans rfl
          have hfz11_0 := blk_frozen BK138.out 0
          have hfz11_1 := blk_frozen BK138.out 1
          have hfz11_2 := blk_frozen BK138.out 2
          have hfz11_3 := blk_frozen BK138.out 3
          go_wp2
          repeat (go_quiet (fail); try go_wp2)
          go_ret
          exact ⟨by first | rfl | (simp [errW_none, errW_some] <;> rfl) | (simp [*, errW_none, errW_some] <;> rfl), by repeat (first | (with_reducible first | exact HB.out | apply below_alloc | apply pw_below_drewN | apply below_drew1 | refine below_set ?_ GE138.out) | exact HB.out)⟩
        · rw [if_neg c10] at H
          have c10b0 : (t134 == 1) = false := beq_eq_false_iff_ne.mpr c10
          have c10b1 : (t134 != 1) = true := bne_iff_ne.mpr c10
          replace H := Option.bind_eq_some_iff.mp H
          obtain ⟨t139, A120, H⟩ := H
          replace H : ((single_down.f (IntKind.u64.wrap (t136)) (wrap64 ((mx (-24) (wrap64 ((wrap64 (t137 + t139)) - 11))) - t137))).bind fun t140 => (if t140 = 2048 then (single_Half.j1 kj2 x4_2 (IntKind.u64.wrap (t136)) (wrap64 ((mx (-24) (wrap64 ((wrap64 (t137 + t139)) - 11))) + 1)) 1024) else (single_Half.j1 kj2 x4_2 (IntKind.u64.wrap (t136)) (mx (-24) (wrap64 ((wrap64 (t137 + t139)) - 11))) t140))) = some r := H
          have A12 := Aside0.mk A120
          clear A120
          obtain ⟨ji13, hji13⟩ : ∃ j_ : Int, (mx (-24) (wrap64 ((wrap64 (t137 + t139)) - 11))) = j_ := ⟨_, rfl⟩
          replace H : ((single_down.f (IntKind.u64.wrap (t136)) (wrap64 ((ji13) - t137))).bind fun t140 => (if t140 = 2048 then (single_Half.j1 kj2 x4_2 (IntKind.u64.wrap (t136)) (wrap64 ((ji13) + 1)) 1024) else (single_Half.j1 kj2 x4_2 (IntKind.u64.wrap (t136)) ji13 t140))) = some r := by first | (rw [hji13] at H; exact H) | (simp only [hji13] at H ⊢; exact H)
          (try rw [hji13] at A12)
          have hji13_ : (if (-24) < (wrap64 ((wrap64 (t137 + t139)) - 11)) then (wrap64 ((wrap64 (t137 + t139)) - 11)) else (-24)) = ji13 := hji13
          replace H := Option.bind_eq_some_iff.mp H
          obtain ⟨t140, A140, H⟩ := H
          replace H : (if t140 = 2048 then (single_Half.j1 kj2 x4_2 (IntKind.u64.wrap (t136)) (wrap64 ((ji13) + 1)) 1024) else (single_Half.j1 kj2 x4_2 (IntKind.u64.wrap (t136)) ji13 t140)) = some r := H
          have A14 := Aside0.mk A140
          clear A140
          have HC15 := Aside0.mk H
          clear H
          have hcz16_0 : wc.cell? ⟨gb138, 0, none⟩ = some (.int .i64 t134) := (blk_cell BK138.out 0).trans rfl
          have hcz16_1 : wc.cell? ⟨gb138, 1, none⟩ = some (.bool t135) := (blk_cell BK138.out 1).trans rfl
          have hcz16_2 : wc.cell? ⟨gb138, 2, none⟩ = some (.int .i64 t136) := (blk_cell BK138.out 2).trans rfl
          have hcz16_3 : wc.cell? ⟨gb138, 3, none⟩ = some (.int .i64 t137) := (blk_cell BK138.out 3).trans rfl
          have hfz16_0 := blk_frozen BK138.out 0
          have hfz16_1 := blk_frozen BK138.out 1
          have hfz16_2 := blk_frozen BK138.out 2
          have hfz16_3 := blk_frozen BK138.out 3
          go_upto_if 37 with (first | (go_at_call 39; (with_reducible refine (bits_Len64.calls (IntKind.u64.wrap (t136)) t139 _ A12.out).mono ?_); rintro e w' ⟨rfl, ⟨nd, rfl⟩⟩; (try first | exact ⟨rfl, _, World.drewN_drewN _ _ _⟩ | exact ⟨rfl, _, Eq.trans (World.drewN_drewN _ _ _) (congrArg (World.drewN _) (Nat.add_assoc _ _ _))⟩)) | (go_at_call 40; (with_reducible refine (single_down.calls (IntKind.u64.wrap (t136)) (wrap64 ((ji13) - t137)) t140 _ A14.out).mono ?_); rintro e w' ⟨rfl, ⟨nd, rfl⟩⟩; (try first | exact ⟨rfl, _, World.drewN_drewN _ _ _⟩ | exact ⟨rfl, _, Eq.trans (World.drewN_drewN _ _ _) (congrArg (World.drewN _) (Nat.add_assoc _ _ _))⟩)))
          repeat (go_quiet (first | (go_at_call 39; (with_reducible refine (bits_Len64.calls (IntKind.u64.wrap (t136)) t139 _ A12.out).mono ?_); rintro e w' ⟨rfl, ⟨nd, rfl⟩⟩; (try first | exact ⟨rfl, _, World.drewN_drewN _ _ _⟩ | exact ⟨rfl, _, Eq.trans (World.drewN_drewN _ _ _) (congrArg (World.drewN _) (Nat.add_assoc _ _ _))⟩)) | (go_at_call 40; (with_reducible refine (single_down.calls (IntKind.u64.wrap (t136)) (wrap64 ((ji13) - t137)) t140 _ A14.out).mono ?_); rintro e w' ⟨rfl, ⟨nd, rfl⟩⟩; (try first | exact ⟨rfl, _, World.drewN_drewN _ _ _⟩ | exact ⟨rfl, _, Eq.trans (World.drewN_drewN _ _ _) (congrArg (World.drewN _) (Nat.add_assoc _ _ _))⟩))); go_upto_if 37 with (first | (go_at_call 39; (with_reducible refine (bits_Len64.calls (IntKind.u64.wrap (t136)) t139 _ A12.out).mono ?_); rintro e w' ⟨rfl, ⟨nd, rfl⟩⟩; (try first | exact ⟨rfl, _, World.drewN_drewN _ _ _⟩ | exact ⟨rfl, _, Eq.trans (World.drewN_drewN _ _ _) (congrArg (World.drewN _) (Nat.add_assoc _ _ _))⟩)) | (go_at_call 40; (with_reducible refine (single_down.calls (IntKind.u64.wrap (t136)) (wrap64 ((ji13) - t137)) t140 _ A14.out).mono ?_); rintro e w' ⟨rfl, ⟨nd, rfl⟩⟩; (try first | exact ⟨rfl, _, World.drewN_drewN _ _ _⟩ | exact ⟨rfl, _, Eq.trans (World.drewN_drewN _ _ _) (congrArg (World.drewN _) (Nat.add_assoc _ _ _))⟩))))
          (try simp only [Act.put, List.setIfInBounds_toArray, List.set_cons_zero, List.set_cons_succ])
          go_cut [6, 7] (fun v6 v7 wc => ∃ (kq : Nat) (x6_14 : Int) (x7_14 : Int), v6 = .int .i64 x6_14 ∧ v7 = .int .u64 x7_14 ∧ Aside0 (single_Half.j1 kq x4_2 (IntKind.u64.wrap (t136)) x6_14 x7_14 = some r) ∧ Aside0 (kq ≤ kj2) ∧ Aside0 (wc.heap[gb138]? = some (.cells #[.int .i64 t134, .bool t135, .int .i64 t136, .int .i64 t137] 24 (0, 0))) ∧ Aside0 (Below w.heap.size w wc))
          case first =>
            have H := HC15.out
            clear HC15
            by_cases c17 : t140 = 2048
            · rw [if_pos c17] at H
              have c17b0 : (t140 == 2048) = true := beq_iff_eq.mpr c17
              have c17b1 : (t140 != 2048) = false := bne_eq_false_iff_eq.mpr c17
              clear c17
              (first | rw [c17b0] | (simp only [i64_w, i32_w]; rw [c17b0]) | skip)
              have H' := Aside0.mk H
              clear H
              go_wp2
              repeat (go_quiet (fail); try go_wp2)
              go_meet
              case rel => exact ⟨_, (wrap64 ((ji13) + 1)), (1024), (by first | rfl | (simp; done) | (simp only [← hji13] <;> (first | rfl | simp)) | (simp [*]; done)), (by first | rfl | (simp; done) | (simp [*]; done) | (simp [i64_w]; done) | (simp [*, i64_w]; done)), H', ⟨by have := HJ2.out; first | omega | exact Nat.le_refl _⟩, ⟨by (with_reducible repeat (first | refine blk_drewN ?_ _ | refine blk_drew ?_ | refine blk_alloc ?_ _)); exact BK138.out⟩, ⟨by repeat (first | (with_reducible first | exact HB.out | apply below_alloc | apply pw_below_drewN | apply below_drew1 | refine below_set ?_ GE138.out) | exact HB.out)⟩⟩
            · rw [if_neg c17] at H
              have c17b0 : (t140 == 2048) = false := beq_eq_false_iff_ne.mpr c17
              have c17b1 : (t140 != 2048) = true := bne_iff_ne.mpr c17
              (first | rw [c17b0] | (simp only [i64_w, i32_w]; rw [c17b0]) | skip)
              have H' := Aside0.mk H
              clear H
              go_wp2
              repeat (go_quiet (fail); try go_wp2)
              go_meet
              case rel => exact ⟨_, (ji13), (t140), (by first | rfl | (simp; done) | (simp only [← hji13] <;> (first | rfl | simp)) | (simp [*]; done)), (by first | rfl | (simp; done) | (simp [*]; done) | (simp [i64_w]; done) | (simp [*, i64_w]; done)), H', ⟨by have := HJ2.out; first | omega | exact Nat.le_refl _⟩, ⟨by (with_reducible repeat (first | refine blk_drewN ?_ _ | refine blk_drew ?_ | refine blk_alloc ?_ _)); exact BK138.out⟩, ⟨by repeat (first | (with_reducible first | exact HB.out | apply below_alloc | apply pw_below_drewN | apply below_drew1 | refine below_set ?_ GE138.out) | exact HB.out)⟩⟩
          case rest =>
            clear HC15
            try clear c1
            try clear c2
            try clear p2
            try clear p6
            try clear c7
            try clear c8
            try clear c8b0
            try clear c8b1
            try clear c10
            try clear c10b0
            try clear c10b1
            try clear c17
            try clear c17b0
            try clear c17b1
            try clear hcz11_0
            try clear hcz11_1
            try clear hcz11_2
            try clear hcz11_3
            try clear hcz16_0
            try clear hcz16_1
            try clear hcz16_2
            try clear hcz16_3
            try clear hcz6_0
            try clear hcz6_1
            try clear hcz6_2
            try clear hcz6_3
            try clear hcz9_0
            try clear hcz9_1
            try clear hcz9_2
            try clear hcz9_3
            try clear hfz11_0
            try clear hfz11_1
            try clear hfz11_2
            try clear hfz11_3
            try clear hfz16_0
            try clear hfz16_1
            try clear hfz16_2
            try clear hfz16_3
            try clear hfz6_0
            try clear hfz6_1
            try clear hfz6_2
            try clear hfz6_3
            try clear hfz9_0
            try clear hfz9_1
            try clear hfz9_2
            try clear hfz9_3
            try clear p2
            obtain ⟨kq, x6_14, x7_14, rfl, rfl, HA, HJ14, BK138, HB⟩ := hcut
            cases kq with
            | zero => exact absurd HA.out (by simp [single_Half.j1])
            | succ kj14 =>
              have H := HA.out
              clear HA
              simp only [single_Half.j1] at H
              by_cases c18 : (IntKind.u64.wrap (t136)) = 0
              · rw [if_pos c18] at H
                have c18b0 : ((IntKind.u64.wrap (t136)) == 0) = true := beq_iff_eq.mpr c18
                have c18b1 : ((IntKind.u64.wrap (t136)) != 0) = false := bne_eq_false_iff_eq.mpr c18
                clear c18
                obtain rfl := Option.some.inj H
                go_wp2
                repeat (go_quiet (fail); try go_wp2)
                go_ret
                exact ⟨by first | rfl | (simp [errW_none, errW_some] <;> rfl) | (simp only [← hji13]; first | rfl | (simp [errW_none, errW_some] <;> rfl)) | (simp [*, errW_none, errW_some] <;> rfl), by repeat (first | (with_reducible first | exact HB.out | apply below_alloc | apply pw_below_drewN | apply below_drew1 | refine below_set ?_ GE138.out) | exact HB.out)⟩
              · rw [if_neg c18] at H
                have c18b0 : ((IntKind.u64.wrap (t136)) == 0) = false := beq_eq_false_iff_ne.mpr c18
                have c18b1 : ((IntKind.u64.wrap (t136)) != 0) = true := bne_iff_ne.mpr c18
                by_cases c19 : x7_14 < 1024
                · rw [if_pos c19] at H
                  have c19b0 : decide (x7_14 < 1024) = true := decide_eq_true c19
                  clear c19
                  obtain rfl := Option.some.inj H
                  go_wp2
                  repeat (go_quiet (fail); try go_wp2)
                  go_ret
                  exact ⟨by first | rfl | (simp [errW_none, errW_some] <;> rfl) | (simp only [← hji13]; first | rfl | (simp [errW_none, errW_some] <;> rfl)) | (simp [*, errW_none, errW_some] <;> rfl), by repeat (first | (with_reducible first | exact HB.out | apply below_alloc | apply pw_below_drewN | apply below_drew1 | refine below_set ?_ GE138.out) | exact HB.out)⟩
                · rw [if_neg c19] at H
                  have c19b0 : decide (x7_14 < 1024) = false := decide_eq_false c19
                  clear c19
                  by_cases c20 : (wrap64 (x6_14 + 25)) ≥ 31
                  · rw [if_pos c20] at H
                    have c20b0 : decide (31 ≤ (wrap64 (x6_14 + 25))) = true := decide_eq_true c20
                    clear c20
                    obtain rfl := Option.some.inj H
                    go_wp2
                    repeat (go_quiet (fail); try go_wp2)
                    go_ret
                    exact ⟨by first | rfl | (simp [errW_none, errW_some] <;> rfl) | (simp only [← hji13]; first | rfl | (simp [errW_none, errW_some] <;> rfl)) | (simp [*, errW_none, errW_some] <;> rfl), by repeat (first | (with_reducible first | exact HB.out | apply below_alloc | apply pw_below_drewN | apply below_drew1 | refine below_set ?_ GE138.out) | exact HB.out)⟩
                  · rw [if_neg c20] at H
                    have c20b0 : decide (31 ≤ (wrap64 (x6_14 + 25))) = false := decide_eq_false c20
                    clear c20
                    obtain rfl := Option.some.inj H
                    go_wp2
                    repeat (go_quiet (fail); try go_wp2)
                    go_ret
                    exact ⟨by first | rfl | (simp [errW_none, errW_some] <;> rfl) | (simp only [← hji13]; first | rfl | (simp [errW_none, errW_some] <;> rfl)) | (simp [*, errW_none, errW_some] <;> rfl), by repeat (first | (with_reducible first | exact HB.out | apply below_alloc | apply pw_below_drewN | apply below_drew1 | refine below_set ?_ GE138.out) | exact HB.out)⟩

end Go.Proofs.YteecekhfpfnepaaDoor.PAll
end

section
-- Written by a program of this session out of the translation. Lean checks it.
namespace Go.Proofs.YteecekhfpfnepaaDoor.PAll
open Go.RowKit Go.Proofs.YteecekhfpfnepaaDoorW.PrintWords Go.Proofs.YteecekhfpfnepaaDoorW.PrintLast Go.Proofs.YteecekhfpfnepaaDoorW.PrintMore
attribute [local go_sem] max2_int min2_int max_two min_two max_three min_three max_four min_four   -- for this text's walks alone
set_option linter.unusedVariables false
set_option linter.unusedSimpArgs false

/-! ### heraldref03_Half: function 24 -/
mutual
def heraldref03_Half.j0 : Nat → Int → Int → Int → Int → Option (Int)
  | 0, _, _, _, _ => none
  | k + 1, x3, x5, x6, x7 => if x3 = 2 then (some 32256) else (if x3 = 1 then (some (IntKind.u16.wrap (x7 + 31744))) else ((heraldref03_cut.f k x5 x6 11 (-24)).bind fun bt146 => (if bt146.1 = 2048 then (heraldref03_Half.j1 k x7 1024 (wrap64 (bt146.2 + 1))) else (heraldref03_Half.j1 k x7 bt146.1 bt146.2))))
def heraldref03_Half.j1 : Nat → Int → Int → Int → Option (Int)
  | 0, _, _, _ => none
  | k + 1, x7, x8, x9 => if x8 < 1024 then (some (IntKind.u16.wrap (x7 + (IntKind.u16.wrap (x8))))) else (if x9 > 5 then (some (IntKind.u16.wrap (x7 + 31744))) else (some (IntKind.u16.wrap ((IntKind.u16.wrap (x7 + (IntKind.u16.wrap ((IntKind.u16.wrap (wrap64 (x9 + 25))) * 1024)))) + (IntKind.u16.wrap (wrap64 (x8 - 1024)))))))
end
def heraldref03_Half.f (k : Nat) (a0 : Int) : Option (Int) := (heraldref03_raw.f a0).bind fun bt142 => (if bt142.2.1 = true then (heraldref03_Half.j0 k bt142.1 bt142.2.2.1 bt142.2.2.2 32768) else (heraldref03_Half.j0 k bt142.1 bt142.2.2.1 bt142.2.2.2 0))
theorem heraldref03_Half.mono_l : ∀ k, (∀ y0 y1 y2 y3, LeO (heraldref03_Half.j0 k y0 y1 y2 y3) (heraldref03_Half.j0 (k + 1) y0 y1 y2 y3)) ∧ (∀ y0 y1 y2, LeO (heraldref03_Half.j1 k y0 y1 y2) (heraldref03_Half.j1 (k + 1) y0 y1 y2))
  | 0 => ⟨fun _ _ _ _ r h => by simp [heraldref03_Half.j0] at h, fun _ _ _ r h => by simp [heraldref03_Half.j1] at h⟩
  | k + 1 => by
    obtain ⟨ih0, ih1⟩ := heraldref03_Half.mono_l k
    refine ⟨?_, ?_⟩
    · intro y0 y1 y2 y3
      unfold heraldref03_Half.j0
      repeat' first
      | (with_reducible exact ih0 _ _ _ _)
      | (with_reducible exact ih1 _ _ _)
      | (with_reducible exact heraldref03_cut.mono _ _ _ _ _)
      | (with_reducible exact LeO.refl _)
      | (with_reducible exact LeO.none _)
      | (with_reducible refine LeO.ite ?_ ?_)
      | (with_reducible refine LeO.bind ?_ (fun _ => ?_))
      | exact ih0 _ _ _ _
      | exact ih1 _ _ _
      | exact heraldref03_cut.mono _ _ _ _ _
      | exact LeO.none _
      | refine LeO.ite ?_ ?_
      | refine LeO.bind ?_ (fun _ => ?_)
    · intro y0 y1 y2
      unfold heraldref03_Half.j1
      repeat' first
      | (with_reducible exact ih0 _ _ _ _)
      | (with_reducible exact ih1 _ _ _)
      | (with_reducible exact heraldref03_cut.mono _ _ _ _ _)
      | (with_reducible exact LeO.refl _)
      | (with_reducible exact LeO.none _)
      | (with_reducible refine LeO.ite ?_ ?_)
      | (with_reducible refine LeO.bind ?_ (fun _ => ?_))
      | exact ih0 _ _ _ _
      | exact ih1 _ _ _
      | exact heraldref03_cut.mono _ _ _ _ _
      | exact LeO.none _
      | refine LeO.ite ?_ ?_
      | refine LeO.bind ?_ (fun _ => ?_)
theorem heraldref03_Half.mono : ∀ a0 k, LeO (heraldref03_Half.f k a0) (heraldref03_Half.f (k + 1) a0) := by
  intro a0 k
  obtain ⟨ih0, ih1⟩ := heraldref03_Half.mono_l k
  unfold heraldref03_Half.f
  repeat' first
      | (with_reducible exact ih0 _ _ _ _)
      | (with_reducible exact ih1 _ _ _)
      | (with_reducible exact heraldref03_cut.mono _ _ _ _ _)
      | (with_reducible exact LeO.refl _)
      | (with_reducible exact LeO.none _)
      | (with_reducible refine LeO.ite ?_ ?_)
      | (with_reducible refine LeO.bind ?_ (fun _ => ?_))
      | exact ih0 _ _ _ _
      | exact ih1 _ _ _
      | exact heraldref03_cut.mono _ _ _ _ _
      | exact LeO.none _
      | refine LeO.ite ?_ ?_
      | refine LeO.bind ?_ (fun _ => ?_)
set_option maxHeartbeats 8000000 in
set_option maxRecDepth 100000 in
theorem heraldref03_Half.calls (k : Nat) (a0 : Int) (r : Int) (w : World) (h : heraldref03_Half.f k a0 = some r) :
    Calls Tryd.prog 24 #[.int .u32 a0] w fun e w' => e = .returned (.int .u16 r) ∧ Drawn0 w w' := by
  have H : ((heraldref03_raw.f a0).bind fun bt142 => (if bt142.2.1 = true then (heraldref03_Half.j0 k bt142.1 bt142.2.2.1 bt142.2.2.2 32768) else (heraldref03_Half.j0 k bt142.1 bt142.2.2.1 bt142.2.2.2 0))) = some r := h
  clear h
  replace H := Option.bind_eq_some_iff.mp H
  obtain ⟨⟨t142, t143, t144, t145⟩, A20, H⟩ := H
  replace H : (if t143 = true then (heraldref03_Half.j0 k t142 t144 t145 32768) else (heraldref03_Half.j0 k t142 t144 t145 0)) = some r := H
  have A2 := Aside0.mk A20
  clear A20
  have HC3 := Aside0.mk H
  clear H
  go_enter Tryd.func24, Tryd.ntmps24
  go_upto_if 17 with (first | ((with_reducible refine gate_callee (f := 37) rfl ?_); refine goesL_ (some 12) rfl rfl Tryd.func37 (by kernel_rfl) rfl #[.int .u32 a0] rfl (by (try simp only [List.map_toArray, List.map_cons, List.map_nil]); first | done | rfl | (simp only [List.length_drop, List.length_take]; rfl)) ?_; (with_reducible refine (heraldref03_raw.calls a0 t142 t143 t144 t145 _ A2.out).mono ?_); rintro e w' ⟨rfl, ⟨nd, rfl⟩⟩; refine ⟨_, rfl, ?_⟩))
  (try simp only [Act.put, List.setIfInBounds_toArray, List.set_cons_zero, List.set_cons_succ])
  go_cut [7] (fun v7 wc => ∃ (kq : Nat) (x7_2 : Int), v7 = .int .u16 x7_2 ∧ Aside0 (heraldref03_Half.j0 kq t142 t144 t145 x7_2 = some r) ∧ Aside0 (kq ≤ k) ∧ Drawn0 w wc)
  case first =>
    have H := HC3.out
    clear HC3
    by_cases c4 : t143 = true
    · subst c4
      have H1 : (heraldref03_Half.j0 k t142 t144 t145 32768) = some r := by rw [if_pos rfl] at H; exact H
      clear H
      have H := H1
      clear H1
      have H' := Aside0.mk H
      clear H
      go_wp2
      go_meet
      case rel => exact ⟨_, (32768), (by first | rfl | (simp; done) | (simp [*]; done) | (simp [i64_w]; done) | (simp [*, i64_w]; done)), H', ⟨by first | omega | exact Nat.le_refl _⟩, by repeat (first | exact Drawn0.refl _ | apply Drawn0.step)⟩
    · replace c4 := Bool.eq_false_iff.mpr c4
      subst c4
      have H1 : (heraldref03_Half.j0 k t142 t144 t145 0) = some r := by rw [if_neg (show ¬ (false = true) by decide)] at H; exact H
      clear H
      have H := H1
      clear H1
      have H' := Aside0.mk H
      clear H
      go_wp2
      go_meet
      case rel => exact ⟨_, (0), (by first | rfl | (simp; done) | (simp [*]; done) | (simp [i64_w]; done) | (simp [*, i64_w]; done)), H', ⟨by first | omega | exact Nat.le_refl _⟩, by repeat (first | exact Drawn0.refl _ | apply Drawn0.step)⟩
  case rest =>
    clear HC3
    try clear c2
    try clear p2
    try clear c3
    try clear c4
    obtain ⟨kq, x7_2, rfl, HA, HJ2, ⟨mc2, rfl⟩⟩ := hcut
    cases kq with
    | zero => exact absurd HA.out (by simp [heraldref03_Half.j0])
    | succ kj2 =>
      have H := HA.out
      clear HA
      simp only [heraldref03_Half.j0] at H
      by_cases c5 : t142 = 2
      · rw [if_pos c5] at H
        have c5b0 : (t142 == 2) = true := beq_iff_eq.mpr c5
        have c5b1 : (t142 != 2) = false := bne_eq_false_iff_eq.mpr c5
        clear c5
        obtain rfl := Option.some.inj H
        go_wp2
        go_ret
        exact ⟨by first | rfl | (simp; done) | (simp [*]; done), by repeat (first | exact Drawn0.refl _ | apply Drawn0.step)⟩
      · rw [if_neg c5] at H
        have c5b0 : (t142 == 2) = false := beq_eq_false_iff_ne.mpr c5
        have c5b1 : (t142 != 2) = true := bne_iff_ne.mpr c5
        by_cases c6 : t142 = 1
        · rw [if_pos c6] at H
          have c6b0 : (t142 == 1) = true := beq_iff_eq.mpr c6
          have c6b1 : (t142 != 1) = false := bne_eq_false_iff_eq.mpr c6
          clear c6
          obtain rfl := Option.some.inj H
          go_wp2
          go_ret
          exact ⟨by first | rfl | (simp; done) | (simp [*]; done), by repeat (first | exact Drawn0.refl _ | apply Drawn0.step)⟩
        · rw [if_neg c6] at H
          have c6b0 : (t142 == 1) = false := beq_eq_false_iff_ne.mpr c6
          have c6b1 : (t142 != 1) = true := bne_iff_ne.mpr c6
          replace H := Option.bind_eq_some_iff.mp H
          obtain ⟨⟨t146, t147⟩, A70, H⟩ := H
          replace H : (if t146 = 2048 then (heraldref03_Half.j1 kj2 x7_2 1024 (wrap64 (t147 + 1))) else (heraldref03_Half.j1 kj2 x7_2 t146 t147)) = some r := H
          have A7 := Aside0.mk A70
          clear A70
          have HC8 := Aside0.mk H
          clear H
          go_upto_if 31 with (first | ((with_reducible refine gate_callee (f := 43) rfl ?_); refine goesL_ (some 27) rfl rfl Tryd.func43 (by kernel_rfl) rfl #[.int .i64 t144, .int .i64 t145, .int .i64 11, .int .i64 (-24)] rfl (by (try simp only [List.map_toArray, List.map_cons, List.map_nil]); first | done | rfl | (simp only [List.length_drop, List.length_take]; rfl)) ?_; (with_reducible refine (heraldref03_cut.calls kj2 t144 t145 11 (-24) t146 t147 _ A7.out).mono ?_); rintro e w' ⟨rfl, ⟨nd, rfl⟩⟩; refine ⟨_, rfl, ?_⟩))
          (try simp only [Act.put, List.setIfInBounds_toArray, List.set_cons_zero, List.set_cons_succ])
          go_cut [8, 9] (fun v8 v9 wc => ∃ (kq : Nat) (x8_7 : Int) (x9_7 : Int), v8 = .int .i64 x8_7 ∧ v9 = .int .i64 x9_7 ∧ Aside0 (heraldref03_Half.j1 kq x7_2 x8_7 x9_7 = some r) ∧ Aside0 (kq ≤ kj2) ∧ Drawn0 w wc)
          case first =>
            have H := HC8.out
            clear HC8
            by_cases c9 : t146 = 2048
            · rw [if_pos c9] at H
              have c9b0 : (t146 == 2048) = true := beq_iff_eq.mpr c9
              have c9b1 : (t146 != 2048) = false := bne_eq_false_iff_eq.mpr c9
              clear c9
              (first | rw [c9b0] | (simp only [i64_w, i32_w]; rw [c9b0]) | skip)
              have H' := Aside0.mk H
              clear H
              go_wp2
              go_meet
              case rel => exact ⟨_, (1024), (wrap64 (t147 + 1)), (by first | rfl | (simp; done) | (simp [*]; done) | (simp [i64_w]; done) | (simp [*, i64_w]; done)), (by first | rfl | (simp; done) | (simp [*]; done) | (simp [i64_w]; done) | (simp [*, i64_w]; done)), H', ⟨by have := HJ2.out; first | omega | exact Nat.le_refl _⟩, by repeat (first | exact Drawn0.refl _ | apply Drawn0.step)⟩
            · rw [if_neg c9] at H
              have c9b0 : (t146 == 2048) = false := beq_eq_false_iff_ne.mpr c9
              have c9b1 : (t146 != 2048) = true := bne_iff_ne.mpr c9
              (first | rw [c9b0] | (simp only [i64_w, i32_w]; rw [c9b0]) | skip)
              have H' := Aside0.mk H
              clear H
              go_wp2
              go_meet
              case rel => exact ⟨_, (t146), (t147), (by first | rfl | (simp; done) | (simp [*]; done) | (simp [i64_w]; done) | (simp [*, i64_w]; done)), (by first | rfl | (simp; done) | (simp [*]; done) | (simp [i64_w]; done) | (simp [*, i64_w]; done)), H', ⟨by have := HJ2.out; first | omega | exact Nat.le_refl _⟩, by repeat (first | exact Drawn0.refl _ | apply Drawn0.step)⟩
          case rest =>
            clear HC8
            try clear c2
            try clear p2
            try clear c3
            try clear c4
            try clear c5
            try clear c5b0
            try clear c5b1
            try clear c6
            try clear c6b0
            try clear c6b1
            try clear p6
            try clear c9
            try clear c9b0
            try clear c9b1
            try clear p2
            obtain ⟨kq, x8_7, x9_7, rfl, rfl, HA, HJ7, ⟨mc7, rfl⟩⟩ := hcut
            cases kq with
            | zero => exact absurd HA.out (by simp [heraldref03_Half.j1])
            | succ kj7 =>
              have H := HA.out
              clear HA
              simp only [heraldref03_Half.j1] at H
              by_cases c10 : x8_7 < 1024
              · rw [if_pos c10] at H
                have c10b0 : decide (x8_7 < 1024) = true := decide_eq_true c10
                clear c10
                obtain rfl := Option.some.inj H
                go_wp2
                go_ret
                exact ⟨by first | rfl | (simp; done) | (simp [*]; done), by repeat (first | exact Drawn0.refl _ | apply Drawn0.step)⟩
              · rw [if_neg c10] at H
                have c10b0 : decide (x8_7 < 1024) = false := decide_eq_false c10
                clear c10
                by_cases c11 : x9_7 > 5
                · rw [if_pos c11] at H
                  have c11b0 : decide (5 < x9_7) = true := decide_eq_true c11
                  clear c11
                  obtain rfl := Option.some.inj H
                  go_wp2
                  go_ret
                  exact ⟨by first | rfl | (simp; done) | (simp [*]; done), by repeat (first | exact Drawn0.refl _ | apply Drawn0.step)⟩
                · rw [if_neg c11] at H
                  have c11b0 : decide (5 < x9_7) = false := decide_eq_false c11
                  clear c11
                  obtain rfl := Option.some.inj H
                  go_wp2
                  go_ret
                  exact ⟨by first | rfl | (simp; done) | (simp [*]; done), by repeat (first | exact Drawn0.refl _ | apply Drawn0.step)⟩

end Go.Proofs.YteecekhfpfnepaaDoor.PAll
end

section
-- Written by a program of this session out of the translation. Lean checks it.
namespace Go.Proofs.YteecekhfpfnepaaDoor.PAll
open Go.RowKit Go.Proofs.YteecekhfpfnepaaDoorW.PrintWords Go.Proofs.YteecekhfpfnepaaDoorW.PrintLast Go.Proofs.YteecekhfpfnepaaDoorW.PrintMore
attribute [local go_sem] max2_int min2_int max_two min_two max_three min_three max_four min_four   -- for this text's walks alone
set_option linter.unusedVariables false
set_option linter.unusedSimpArgs false

/-! ### single_FromHalf: function 25 -/
def single_FromHalf.j0 : Nat → Int → Int → Int → Bool → Option (Int)
  | 0, _, _, _, _ => none
  | k + 1, x3, x4, x5, x17 => if x17 = true then (some 2143289344) else (if x4 = 31 then (some (Go.bits .or .u32 x3 2139095040)) else (if x4 = 0 then ((single_Near.f k x5 (-24)).bind fun t148 => (some (Go.bits .or .u32 x3 t148))) else ((single_Near.f k (wrap64 (1024 + x5)) (wrap64 (x4 - 25))).bind fun t149 => (some (Go.bits .or .u32 x3 t149)))))
def single_FromHalf.f (k : Nat) (a0 : Int) : Option (Int) := if (wrap64 (Go.bits .and .u16 (a0 / 1024) 31)) = 31 then (single_FromHalf.j0 k ((((a0 / 32768) % 4294967296) * 2147483648) % 4294967296) (wrap64 (Go.bits .and .u16 (a0 / 1024) 31)) (wrap64 (Go.bits .and .u16 a0 1023)) ((wrap64 (Go.bits .and .u16 a0 1023)) != 0)) else (single_FromHalf.j0 k ((((a0 / 32768) % 4294967296) * 2147483648) % 4294967296) (wrap64 (Go.bits .and .u16 (a0 / 1024) 31)) (wrap64 (Go.bits .and .u16 a0 1023)) false)
theorem single_FromHalf.mono_l : ∀ k, (∀ y0 y1 y2 y3, LeO (single_FromHalf.j0 k y0 y1 y2 y3) (single_FromHalf.j0 (k + 1) y0 y1 y2 y3))
  | 0 => fun _ _ _ _ r h => by simp [single_FromHalf.j0] at h
  | k + 1 => by
    have ih0 := single_FromHalf.mono_l k
    · intro y0 y1 y2 y3
      unfold single_FromHalf.j0
      repeat' first
      | (with_reducible exact ih0 _ _ _ _)
      | (with_reducible exact single_Near.mono _ _ _)
      | (with_reducible exact LeO.refl _)
      | (with_reducible exact LeO.none _)
      | (with_reducible refine LeO.ite ?_ ?_)
      | (with_reducible refine LeO.bind ?_ (fun _ => ?_))
      | exact ih0 _ _ _ _
      | exact single_Near.mono _ _ _
      | exact LeO.none _
      | refine LeO.ite ?_ ?_
      | refine LeO.bind ?_ (fun _ => ?_)
theorem single_FromHalf.mono : ∀ a0 k, LeO (single_FromHalf.f k a0) (single_FromHalf.f (k + 1) a0) := by
  intro a0 k
  have ih0 := single_FromHalf.mono_l k
  unfold single_FromHalf.f
  repeat' first
      | (with_reducible exact ih0 _ _ _ _)
      | (with_reducible exact single_Near.mono _ _ _)
      | (with_reducible exact LeO.refl _)
      | (with_reducible exact LeO.none _)
      | (with_reducible refine LeO.ite ?_ ?_)
      | (with_reducible refine LeO.bind ?_ (fun _ => ?_))
      | exact ih0 _ _ _ _
      | exact single_Near.mono _ _ _
      | exact LeO.none _
      | refine LeO.ite ?_ ?_
      | refine LeO.bind ?_ (fun _ => ?_)
set_option maxHeartbeats 8000000 in
set_option maxRecDepth 100000 in
theorem single_FromHalf.calls (k : Nat) (a0 : Int) (r : Int) (w : World) (h : single_FromHalf.f k a0 = some r) :
    Calls Tryd.prog 25 #[.int .u16 a0] w fun e w' => e = .returned (.int .u32 r) ∧ Below w.heap.size w w' := by
  have HB := Aside0.mk (Below.refl w.heap.size w)
  have H : (if (wrap64 (Go.bits .and .u16 (a0 / 1024) 31)) = 31 then (single_FromHalf.j0 k ((((a0 / 32768) % 4294967296) * 2147483648) % 4294967296) (wrap64 (Go.bits .and .u16 (a0 / 1024) 31)) (wrap64 (Go.bits .and .u16 a0 1023)) ((wrap64 (Go.bits .and .u16 a0 1023)) != 0)) else (single_FromHalf.j0 k ((((a0 / 32768) % 4294967296) * 2147483648) % 4294967296) (wrap64 (Go.bits .and .u16 (a0 / 1024) 31)) (wrap64 (Go.bits .and .u16 a0 1023)) false)) = some r := h
  clear h
  have HC2 := Aside0.mk H
  clear H
  go_enter Tryd.func25, Tryd.ntmps25
  go_upto_region 3 with (fail)
  go_cut [17] (fun v17 wc => ∃ (kq : Nat) (x17_1 : Bool), v17 = .bool x17_1 ∧ Aside0 (single_FromHalf.j0 kq ((((a0 / 32768) % 4294967296) * 2147483648) % 4294967296) (wrap64 (Go.bits .and .u16 (a0 / 1024) 31)) (wrap64 (Go.bits .and .u16 a0 1023)) x17_1 = some r) ∧ Aside0 (kq ≤ k) ∧ Aside0 (Below w.heap.size w wc))
  case first =>
    have H := HC2.out
    clear HC2
    by_cases c3 : (wrap64 (Go.bits .and .u16 (a0 / 1024) 31)) = 31
    · rw [if_pos c3] at H
      have c3b0 : ((wrap64 (Go.bits .and .u16 (a0 / 1024) 31)) == 31) = true := beq_iff_eq.mpr c3
      have c3b1 : ((wrap64 (Go.bits .and .u16 (a0 / 1024) 31)) != 31) = false := bne_eq_false_iff_eq.mpr c3
      clear c3
      (first | rw [c3b0] | (simp only [i64_w, i32_w]; rw [c3b0]) | skip)
      have H' := Aside0.mk H
      clear H
      go_wp2
      go_meet
      case rel => exact ⟨_, (((wrap64 (Go.bits .and .u16 a0 1023)) != 0)), (by first | rfl | (simp; done) | (simp [*]; done) | (simp [i64_w]; done) | (simp [*, i64_w]; done)), H', ⟨by first | omega | exact Nat.le_refl _⟩, ⟨by repeat (first | (with_reducible first | exact HB.out | apply below_alloc | apply pw_below_drewN | apply below_drew1) | exact HB.out)⟩⟩
    · rw [if_neg c3] at H
      have c3b0 : ((wrap64 (Go.bits .and .u16 (a0 / 1024) 31)) == 31) = false := beq_eq_false_iff_ne.mpr c3
      have c3b1 : ((wrap64 (Go.bits .and .u16 (a0 / 1024) 31)) != 31) = true := bne_iff_ne.mpr c3
      (first | rw [c3b0] | (simp only [i64_w, i32_w]; rw [c3b0]) | skip)
      have H' := Aside0.mk H
      clear H
      go_wp2
      go_meet
      case rel => exact ⟨_, (false), (by first | rfl | (simp; done) | (simp [*]; done) | (simp [i64_w]; done) | (simp [*, i64_w]; done)), H', ⟨by first | omega | exact Nat.le_refl _⟩, ⟨by repeat (first | (with_reducible first | exact HB.out | apply below_alloc | apply pw_below_drewN | apply below_drew1) | exact HB.out)⟩⟩
  case rest =>
    clear HC2
    try clear c2
    try clear p2
    try clear c3
    try clear c3b0
    try clear c3b1
    obtain ⟨kq, x17_1, rfl, HA, HJ1, HB⟩ := hcut
    cases kq with
    | zero => exact absurd HA.out (by simp [single_FromHalf.j0])
    | succ kj1 =>
      have H := HA.out
      clear HA
      simp only [single_FromHalf.j0] at H
      by_cases c4 : x17_1 = true
      · subst c4
        have H1 : (some 2143289344) = some r := by rw [if_pos rfl] at H; exact H
        clear H
        have H := H1
        clear H1
        obtain rfl := Option.some.inj H
        go_wp2
        go_ret
        exact ⟨by first | rfl | (simp [errW_none, errW_some] <;> rfl) | (simp [*, errW_none, errW_some] <;> rfl), by repeat (first | (with_reducible first | exact HB.out | apply below_alloc | apply pw_below_drewN | apply below_drew1) | exact HB.out)⟩
      · replace c4 := Bool.eq_false_iff.mpr c4
        subst c4
        have H1 : (if (wrap64 (Go.bits .and .u16 (a0 / 1024) 31)) = 31 then (some (Go.bits .or .u32 ((((a0 / 32768) % 4294967296) * 2147483648) % 4294967296) 2139095040)) else (if (wrap64 (Go.bits .and .u16 (a0 / 1024) 31)) = 0 then ((single_Near.f kj1 (wrap64 (Go.bits .and .u16 a0 1023)) (-24)).bind fun t148 => (some (Go.bits .or .u32 ((((a0 / 32768) % 4294967296) * 2147483648) % 4294967296) t148))) else ((single_Near.f kj1 (wrap64 (1024 + (wrap64 (Go.bits .and .u16 a0 1023)))) (wrap64 ((wrap64 (Go.bits .and .u16 (a0 / 1024) 31)) - 25))).bind fun t149 => (some (Go.bits .or .u32 ((((a0 / 32768) % 4294967296) * 2147483648) % 4294967296) t149))))) = some r := by rw [if_neg (show ¬ (false = true) by decide)] at H; exact H
        clear H
        have H := H1
        clear H1
        by_cases c5 : (wrap64 (Go.bits .and .u16 (a0 / 1024) 31)) = 31
        · rw [if_pos c5] at H
          have c5b0 : ((wrap64 (Go.bits .and .u16 (a0 / 1024) 31)) == 31) = true := beq_iff_eq.mpr c5
          have c5b1 : ((wrap64 (Go.bits .and .u16 (a0 / 1024) 31)) != 31) = false := bne_eq_false_iff_eq.mpr c5
          clear c5
          obtain rfl := Option.some.inj H
          go_wp2
          go_ret
          exact ⟨by first | rfl | (simp [errW_none, errW_some] <;> rfl) | (simp [*, errW_none, errW_some] <;> rfl), by repeat (first | (with_reducible first | exact HB.out | apply below_alloc | apply pw_below_drewN | apply below_drew1) | exact HB.out)⟩
        · rw [if_neg c5] at H
          have c5b0 : ((wrap64 (Go.bits .and .u16 (a0 / 1024) 31)) == 31) = false := beq_eq_false_iff_ne.mpr c5
          have c5b1 : ((wrap64 (Go.bits .and .u16 (a0 / 1024) 31)) != 31) = true := bne_iff_ne.mpr c5
          by_cases c6 : (wrap64 (Go.bits .and .u16 (a0 / 1024) 31)) = 0
          · rw [if_pos c6] at H
            have c6b0 : ((wrap64 (Go.bits .and .u16 (a0 / 1024) 31)) == 0) = true := beq_iff_eq.mpr c6
            have c6b1 : ((wrap64 (Go.bits .and .u16 (a0 / 1024) 31)) != 0) = false := bne_eq_false_iff_eq.mpr c6
            clear c6
            replace H := Option.bind_eq_some_iff.mp H
            obtain ⟨t148, A70, H⟩ := H
            replace H : (some (Go.bits .or .u32 ((((a0 / 32768) % 4294967296) * 2147483648) % 4294967296) t148)) = some r := H
            have A7 := Aside0.mk A70
            clear A70
            obtain rfl := Option.some.inj H
            go_wp2_with (first | ((with_reducible refine gate_callee (f := 16) rfl ?_); refine goesL_ (some 34) rfl rfl Tryd.func16 (by kernel_rfl) rfl #[.int .i64 (wrap64 (Go.bits .and .u16 a0 1023)), .int .i64 (-24)] rfl (by (try simp only [List.map_toArray, List.map_cons, List.map_nil]); first | done | rfl | (simp only [List.length_drop, List.length_take]; rfl)) ?_; (with_reducible refine (single_Near.calls kj1 (wrap64 (Go.bits .and .u16 a0 1023)) (-24) t148 _ A7.out).mono ?_); rintro e w8 ⟨rfl, hb⟩; refine ⟨_, rfl, ?_⟩; have n0_ := Aside0.mk (below_step (by repeat (first | (with_reducible first | exact HB.out | apply below_alloc | apply pw_below_drewN | apply below_drew1) | exact HB.out)) hb); clear HB; have HB := n0_; clear n0_; (try clear hb); (try clear hb2); (try clear hk); (try clear hi)))
            go_ret
            exact ⟨by first | rfl | (simp [errW_none, errW_some] <;> rfl) | (simp [*, errW_none, errW_some] <;> rfl), by repeat (first | (with_reducible first | exact HB.out | apply below_alloc | apply pw_below_drewN | apply below_drew1) | exact HB.out)⟩
          · rw [if_neg c6] at H
            have c6b0 : ((wrap64 (Go.bits .and .u16 (a0 / 1024) 31)) == 0) = false := beq_eq_false_iff_ne.mpr c6
            have c6b1 : ((wrap64 (Go.bits .and .u16 (a0 / 1024) 31)) != 0) = true := bne_iff_ne.mpr c6
            replace H := Option.bind_eq_some_iff.mp H
            obtain ⟨t149, A90, H⟩ := H
            replace H : (some (Go.bits .or .u32 ((((a0 / 32768) % 4294967296) * 2147483648) % 4294967296) t149)) = some r := H
            have A9 := Aside0.mk A90
            clear A90
            obtain rfl := Option.some.inj H
            go_wp2_with (first | ((with_reducible refine gate_callee (f := 16) rfl ?_); refine goesL_ (some 41) rfl rfl Tryd.func16 (by kernel_rfl) rfl #[.int .i64 (wrap64 (1024 + (wrap64 (Go.bits .and .u16 a0 1023)))), .int .i64 (wrap64 ((wrap64 (Go.bits .and .u16 (a0 / 1024) 31)) - 25))] rfl (by (try simp only [List.map_toArray, List.map_cons, List.map_nil]); first | done | rfl | (simp only [List.length_drop, List.length_take]; rfl)) ?_; (with_reducible refine (single_Near.calls kj1 (wrap64 (1024 + (wrap64 (Go.bits .and .u16 a0 1023)))) (wrap64 ((wrap64 (Go.bits .and .u16 (a0 / 1024) 31)) - 25)) t149 _ A9.out).mono ?_); rintro e w10 ⟨rfl, hb⟩; refine ⟨_, rfl, ?_⟩; have n0_ := Aside0.mk (below_step (by repeat (first | (with_reducible first | exact HB.out | apply below_alloc | apply pw_below_drewN | apply below_drew1) | exact HB.out)) hb); clear HB; have HB := n0_; clear n0_; (try clear hb); (try clear hb2); (try clear hk); (try clear hi)))
            go_ret
            exact ⟨by first | rfl | (simp [errW_none, errW_some] <;> rfl) | (simp [*, errW_none, errW_some] <;> rfl), by repeat (first | (with_reducible first | exact HB.out | apply below_alloc | apply pw_below_drewN | apply below_drew1) | exact HB.out)⟩

end Go.Proofs.YteecekhfpfnepaaDoor.PAll
end

section
-- Written by a program of this session out of the translation. Lean checks it.
namespace Go.Proofs.YteecekhfpfnepaaDoor.PAll
open Go.RowKit Go.Proofs.YteecekhfpfnepaaDoorW.PrintWords Go.Proofs.YteecekhfpfnepaaDoorW.PrintLast Go.Proofs.YteecekhfpfnepaaDoorW.PrintMore
attribute [local go_sem] max2_int min2_int max_two min_two max_three min_three max_four min_four   -- for this text's walks alone
set_option linter.unusedVariables false
set_option linter.unusedSimpArgs false

/-! ### single_Brain: function 27 -/
def single_Brain.f (a0 : Int) : Option (Int) := (single_Parts.f a0).bind fun bt153 => (if bt153.1 = 2 then (some 32704) else (some (((((a0 + 32767) % 4294967296) + (Go.bits .and .u32 (a0 / 65536) 1)) % 4294967296) / 65536)))
set_option maxHeartbeats 8000000 in
set_option maxRecDepth 100000 in
theorem single_Brain.calls (a0 : Int) (r : Int) (w : World) (h : single_Brain.f a0 = some r) (hTab : Tab w) :
    Calls Tryd.prog 27 #[.int .u32 a0] w fun e w' => e = .returned (.int .u16 r) ∧ Below w.heap.size w w' := by
  have HTab := Aside0.mk hTab
  clear hTab
  have HB := Aside0.mk (Below.refl w.heap.size w)
  have H : ((single_Parts.f a0).bind fun bt153 => (if bt153.1 = 2 then (some 32704) else (some (((((a0 + 32767) % 4294967296) + (Go.bits .and .u32 (a0 / 65536) 1)) % 4294967296) / 65536)))) = some r := h
  clear h
  replace H := Option.bind_eq_some_iff.mp H
  obtain ⟨⟨t153, t154, t155, t156⟩, A20, H⟩ := H
  replace H : (if t153 = 2 then (some 32704) else (some (((((a0 + 32767) % 4294967296) + (Go.bits .and .u32 (a0 / 65536) 1)) % 4294967296) / 65536))) = some r := H
  have A2 := Aside0.mk A20
  clear A20
  by_cases c3 : t153 = 2
  · rw [if_pos c3] at H
    have c3b0 : (t153 == 2) = true := beq_iff_eq.mpr c3
    have c3b1 : (t153 != 2) = false := bne_eq_false_iff_eq.mpr c3
    clear c3
    obtain rfl := Option.some.inj H
    have hfld : ∀ (k m e : Int) (s : Bool) (w : World), (Instr.field 24 (.agg #[.int .i64 k, .bool s, .int .i64 m, .int .i64 e]) 0).run Tryd.prog w = .ok (.int .i64 k) w := fun _ _ _ _ _ => by kernel_rfl
    go_enter Tryd.func27, Tryd.ntmps27
    go_wp2_with (first | ((with_reducible refine gate_callee (f := 13) rfl ?_); refine goesL_ (some 4) rfl rfl Tryd.func13 (by kernel_rfl) rfl #[.int .u32 a0] rfl (by (try simp only [List.map_toArray, List.map_cons, List.map_nil]); first | done | rfl | (simp only [List.length_drop, List.length_take]; rfl)) ?_; (with_reducible refine (single_Parts.calls a0 t153 t154 t155 t156 _ A2.out (by first | exact HTab.out | exact tab_below HTab.out (by repeat (first | (with_reducible first | exact HB.out | apply below_alloc | apply pw_below_drewN | apply below_drew1) | exact HB.out)))).mono ?_); rintro e w4 ⟨rfl, hb⟩; refine ⟨_, rfl, ?_⟩; have n0_ := Aside0.mk (below_step (by repeat (first | (with_reducible first | exact HB.out | apply below_alloc | apply pw_below_drewN | apply below_drew1) | exact HB.out)) hb); clear HB; have HB := n0_; clear n0_; (try clear hb); (try clear hb2); (try clear hk); (try clear hi)))
    go_ret
    exact ⟨by first | rfl | (simp [errW_none, errW_some] <;> rfl) | (simp [*, errW_none, errW_some] <;> rfl), by repeat (first | (with_reducible first | exact HB.out | apply below_alloc | apply pw_below_drewN | apply below_drew1) | exact HB.out)⟩
  · rw [if_neg c3] at H
    have c3b0 : (t153 == 2) = false := beq_eq_false_iff_ne.mpr c3
    have c3b1 : (t153 != 2) = true := bne_iff_ne.mpr c3
    obtain rfl := Option.some.inj H
    have hfld : ∀ (k m e : Int) (s : Bool) (w : World), (Instr.field 24 (.agg #[.int .i64 k, .bool s, .int .i64 m, .int .i64 e]) 0).run Tryd.prog w = .ok (.int .i64 k) w := fun _ _ _ _ _ => by kernel_rfl
    go_enter Tryd.func27, Tryd.ntmps27
    go_wp2_with (first | ((with_reducible refine gate_callee (f := 13) rfl ?_); refine goesL_ (some 4) rfl rfl Tryd.func13 (by kernel_rfl) rfl #[.int .u32 a0] rfl (by (try simp only [List.map_toArray, List.map_cons, List.map_nil]); first | done | rfl | (simp only [List.length_drop, List.length_take]; rfl)) ?_; (with_reducible refine (single_Parts.calls a0 t153 t154 t155 t156 _ A2.out (by first | exact HTab.out | exact tab_below HTab.out (by repeat (first | (with_reducible first | exact HB.out | apply below_alloc | apply pw_below_drewN | apply below_drew1) | exact HB.out)))).mono ?_); rintro e w5 ⟨rfl, hb⟩; refine ⟨_, rfl, ?_⟩; have n0_ := Aside0.mk (below_step (by repeat (first | (with_reducible first | exact HB.out | apply below_alloc | apply pw_below_drewN | apply below_drew1) | exact HB.out)) hb); clear HB; have HB := n0_; clear n0_; (try clear hb); (try clear hb2); (try clear hk); (try clear hi)))
    go_ret
    exact ⟨by first | rfl | (simp [errW_none, errW_some] <;> rfl) | (simp [*, errW_none, errW_some] <;> rfl), by repeat (first | (with_reducible first | exact HB.out | apply below_alloc | apply pw_below_drewN | apply below_drew1) | exact HB.out)⟩

end Go.Proofs.YteecekhfpfnepaaDoor.PAll
end

section
-- Written by a program of this session out of the translation. Lean checks it.
namespace Go.Proofs.YteecekhfpfnepaaDoor.PAll
open Go.RowKit Go.Proofs.YteecekhfpfnepaaDoorW.PrintWords Go.Proofs.YteecekhfpfnepaaDoorW.PrintLast Go.Proofs.YteecekhfpfnepaaDoorW.PrintMore
attribute [local go_sem] max2_int min2_int max_two min_two max_three min_three max_four min_four   -- for this text's walks alone
set_option linter.unusedVariables false
set_option linter.unusedSimpArgs false

/-! ### single_FromBrain: function 29 -/
def single_FromBrain.f (a0 : Int) : Option (Int) := (single_Parts.f ((((a0) % 4294967296) * 65536) % 4294967296)).bind fun bt161 => (if bt161.1 = 2 then (some 2143289344) else (some ((((a0) % 4294967296) * 65536) % 4294967296)))
set_option maxHeartbeats 8000000 in
set_option maxRecDepth 100000 in
theorem single_FromBrain.calls (a0 : Int) (r : Int) (w : World) (h : single_FromBrain.f a0 = some r) (hTab : Tab w) :
    Calls Tryd.prog 29 #[.int .u16 a0] w fun e w' => e = .returned (.int .u32 r) ∧ Below w.heap.size w w' := by
  have HTab := Aside0.mk hTab
  clear hTab
  have HB := Aside0.mk (Below.refl w.heap.size w)
  have H : ((single_Parts.f ((((a0) % 4294967296) * 65536) % 4294967296)).bind fun bt161 => (if bt161.1 = 2 then (some 2143289344) else (some ((((a0) % 4294967296) * 65536) % 4294967296)))) = some r := h
  clear h
  replace H := Option.bind_eq_some_iff.mp H
  obtain ⟨⟨t161, t162, t163, t164⟩, A20, H⟩ := H
  replace H : (if t161 = 2 then (some 2143289344) else (some ((((a0) % 4294967296) * 65536) % 4294967296))) = some r := H
  have A2 := Aside0.mk A20
  clear A20
  by_cases c3 : t161 = 2
  · rw [if_pos c3] at H
    have c3b0 : (t161 == 2) = true := beq_iff_eq.mpr c3
    have c3b1 : (t161 != 2) = false := bne_eq_false_iff_eq.mpr c3
    clear c3
    obtain rfl := Option.some.inj H
    have hfld : ∀ (k m e : Int) (s : Bool) (w : World), (Instr.field 24 (.agg #[.int .i64 k, .bool s, .int .i64 m, .int .i64 e]) 0).run Tryd.prog w = .ok (.int .i64 k) w := fun _ _ _ _ _ => by kernel_rfl
    go_enter Tryd.func29, Tryd.ntmps29
    go_wp2_with (first | ((with_reducible refine gate_callee (f := 13) rfl ?_); refine goesL_ (some 8) rfl rfl Tryd.func13 (by kernel_rfl) rfl #[.int .u32 ((((a0) % 4294967296) * 65536) % 4294967296)] rfl (by (try simp only [List.map_toArray, List.map_cons, List.map_nil]); first | done | rfl | (simp only [List.length_drop, List.length_take]; rfl)) ?_; (with_reducible refine (single_Parts.calls ((((a0) % 4294967296) * 65536) % 4294967296) t161 t162 t163 t164 _ A2.out (by first | exact HTab.out | exact tab_below HTab.out (by repeat (first | (with_reducible first | exact HB.out | apply below_alloc | apply pw_below_drewN | apply below_drew1) | exact HB.out)))).mono ?_); rintro e w4 ⟨rfl, hb⟩; refine ⟨_, rfl, ?_⟩; have n0_ := Aside0.mk (below_step (by repeat (first | (with_reducible first | exact HB.out | apply below_alloc | apply pw_below_drewN | apply below_drew1) | exact HB.out)) hb); clear HB; have HB := n0_; clear n0_; (try clear hb); (try clear hb2); (try clear hk); (try clear hi)))
    go_ret
    exact ⟨by first | rfl | (simp [errW_none, errW_some] <;> rfl) | (simp [*, errW_none, errW_some] <;> rfl), by repeat (first | (with_reducible first | exact HB.out | apply below_alloc | apply pw_below_drewN | apply below_drew1) | exact HB.out)⟩
  · rw [if_neg c3] at H
    have c3b0 : (t161 == 2) = false := beq_eq_false_iff_ne.mpr c3
    have c3b1 : (t161 != 2) = true := bne_iff_ne.mpr c3
    obtain rfl := Option.some.inj H
    have hfld : ∀ (k m e : Int) (s : Bool) (w : World), (Instr.field 24 (.agg #[.int .i64 k, .bool s, .int .i64 m, .int .i64 e]) 0).run Tryd.prog w = .ok (.int .i64 k) w := fun _ _ _ _ _ => by kernel_rfl
    go_enter Tryd.func29, Tryd.ntmps29
    go_wp2_with (first | ((with_reducible refine gate_callee (f := 13) rfl ?_); refine goesL_ (some 8) rfl rfl Tryd.func13 (by kernel_rfl) rfl #[.int .u32 ((((a0) % 4294967296) * 65536) % 4294967296)] rfl (by (try simp only [List.map_toArray, List.map_cons, List.map_nil]); first | done | rfl | (simp only [List.length_drop, List.length_take]; rfl)) ?_; (with_reducible refine (single_Parts.calls ((((a0) % 4294967296) * 65536) % 4294967296) t161 t162 t163 t164 _ A2.out (by first | exact HTab.out | exact tab_below HTab.out (by repeat (first | (with_reducible first | exact HB.out | apply below_alloc | apply pw_below_drewN | apply below_drew1) | exact HB.out)))).mono ?_); rintro e w5 ⟨rfl, hb⟩; refine ⟨_, rfl, ?_⟩; have n0_ := Aside0.mk (below_step (by repeat (first | (with_reducible first | exact HB.out | apply below_alloc | apply pw_below_drewN | apply below_drew1) | exact HB.out)) hb); clear HB; have HB := n0_; clear n0_; (try clear hb); (try clear hb2); (try clear hk); (try clear hi)))
    go_ret
    exact ⟨by first | rfl | (simp [errW_none, errW_some] <;> rfl) | (simp [*, errW_none, errW_some] <;> rfl), by repeat (first | (with_reducible first | exact HB.out | apply below_alloc | apply pw_below_drewN | apply below_drew1) | exact HB.out)⟩

end Go.Proofs.YteecekhfpfnepaaDoor.PAll
end

section
-- Written by a program of this session out of the translation. Lean checks it.
namespace Go.Proofs.YteecekhfpfnepaaDoor.PAll
open Go.RowKit Go.Proofs.YteecekhfpfnepaaDoorW.PrintWords Go.Proofs.YteecekhfpfnepaaDoorW.PrintLast Go.Proofs.YteecekhfpfnepaaDoorW.PrintMore
attribute [local go_sem] max2_int min2_int max_two min_two max_three min_three max_four min_four   -- for this text's walks alone
set_option linter.unusedVariables false
set_option linter.unusedSimpArgs false

/-! ### heraldref03_FromHalf: function 26, by hand -/
def heraldref03_FromHalf.f (k : Nat) (a0 : Int) : Option Int :=
  if 0 ≤ a0 ∧ a0 < 65536 then (if a0 / 1024 % 32 = 31 then (if a0 % 1024 > 0 then some 2143289344 else some (if 32768 ≤ a0 then 4286578688 else 2139095040))
    else if a0 / 1024 % 32 = 0 then heraldref03_near.f k (decide (32768 ≤ a0)) (a0 % 1024) (-24) else heraldref03_near.f k (decide (32768 ≤ a0)) (1024 + a0 % 1024) (a0 / 1024 % 32 - 25)) else none
theorem heraldref03_FromHalf.mono : ∀ a0 k, LeO (heraldref03_FromHalf.f k a0) (heraldref03_FromHalf.f (k + 1) a0) := by
  intro a0 k
  unfold heraldref03_FromHalf.f
  repeat' first
      | (with_reducible exact heraldref03_near.mono _ _ _ _)
      | (with_reducible exact LeO.refl _)
      | (with_reducible exact LeO.none _)
      | (with_reducible refine LeO.ite ?_ ?_)
set_option maxRecDepth 20000 in
set_option maxHeartbeats 3200000 in
theorem heraldref03_FromHalf.calls (k : Nat) (a0 : Int) (r : Int) (w : World) (h : heraldref03_FromHalf.f k a0 = some r) :
    Calls Tryd.prog 26 #[.int .u16 a0] w fun e w' => e = .returned (.int .u32 r) ∧ Drawn0 w w' := by
  unfold heraldref03_FromHalf.f at h
  split at h
  case isFalse => simp at h
  case isTrue hr =>
  have hd : Int.tdiv a0 1024 = a0 / 1024 := Int.tdiv_eq_ediv_of_nonneg hr.1
  have hm : Int.tmod a0 1024 = a0 % 1024 := Int.tmod_eq_emod_of_nonneg hr.1
  obtain ⟨q, hq⟩ : ∃ q, a0 / 1024 = q := ⟨_, rfl⟩
  obtain ⟨ff, hff⟩ : ∃ ff, a0 % 1024 = ff := ⟨_, rfl⟩
  have hq0 : 0 ≤ q := by omega
  have hq1 : q < 64 := by omega
  have hm2 : Int.tmod q 32 = q % 32 := Int.tmod_eq_emod_of_nonneg hq0
  obtain ⟨ee, hee⟩ : ∃ ee, q % 32 = ee := ⟨_, rfl⟩
  rw [hq, hff, hee] at h
  rw [hq] at hd
  rw [hff] at hm
  rw [hee] at hm2
  have hf0 : 0 ≤ ff := by omega
  have hf1 : ff < 1024 := by omega
  have he0 : 0 ≤ ee := by omega
  have he1 : ee < 32 := by omega
  have uq : IntKind.u16.wrap q = q := by show q % 65536 = q; omega
  have wf : wrap64 ff = ff := by unfold wrap64; omega
  have we : wrap64 ee = ee := by unfold wrap64; omega
  have uf : IntKind.u64.wrap ff = ff := by show ff % 18446744073709551616 = ff; omega
  have w1 : wrap64 (1024 + ff) = 1024 + ff := by unfold wrap64; omega
  have u1 : IntKind.u64.wrap (1024 + ff) = 1024 + ff := by show (1024 + ff) % 18446744073709551616 = 1024 + ff; omega
  have w2 : wrap64 (ee - 25) = ee - 25 := by unfold wrap64; omega
  by_cases hs : 32768 ≤ a0
  · rw [decide_eq_true hs] at h
    by_cases c1 : ee = 31
    · subst c1
      rw [if_pos rfl, if_pos hs] at h
      by_cases c2 : ff > 0
      · rw [if_pos c2] at h
        obtain rfl := Option.some.inj h
        clear h
        go_enter Tryd.func26, Tryd.ntmps26
        go_wp2
        go_ret
        exact ⟨by first | rfl | (simp; done), by repeat (first | exact Drawn0.refl _ | apply Drawn0.step | exact ⟨⟨_, rfl⟩⟩)⟩
      · obtain rfl : ff = 0 := by omega
        rw [if_neg (by omega)] at h
        obtain rfl := Option.some.inj h
        clear h
        go_enter Tryd.func26, Tryd.ntmps26
        go_wp2
        go_ret
        exact ⟨by first | rfl | (simp; done), by repeat (first | exact Drawn0.refl _ | apply Drawn0.step | exact ⟨⟨_, rfl⟩⟩)⟩
    · rw [if_neg c1] at h
      have c1b : (ee == 31) = false := beq_eq_false_iff_ne.mpr c1
      by_cases c3 : ee = 0
      · subst c3
        rw [if_pos rfl] at h
        have HZ := Aside0.mk h
        clear h
        go_enter Tryd.func26, Tryd.ntmps26
        go_wp2_with (go_at_call 44; (with_reducible refine (heraldref03_near.calls _ _ _ _ _ _ HZ.out).mono ?_); rintro e w' ⟨rfl, ⟨m, rfl⟩⟩)
        go_ret
        exact ⟨by first | rfl | (simp; done), by repeat (first | exact Drawn0.refl _ | apply Drawn0.step | exact ⟨⟨_, rfl⟩⟩)⟩
      · rw [if_neg c3] at h
        have c3b : (ee == 0) = false := beq_eq_false_iff_ne.mpr c3
        have HZ := Aside0.mk h
        clear h
        go_enter Tryd.func26, Tryd.ntmps26
        go_wp2_with (go_at_call 44; (with_reducible refine (heraldref03_near.calls _ _ _ _ _ _ HZ.out).mono ?_); rintro e w' ⟨rfl, ⟨m, rfl⟩⟩)
        go_ret
        exact ⟨by first | rfl | (simp; done), by repeat (first | exact Drawn0.refl _ | apply Drawn0.step | exact ⟨⟨_, rfl⟩⟩)⟩
  · rw [decide_eq_false hs] at h
    by_cases c1 : ee = 31
    · subst c1
      rw [if_pos rfl, if_neg hs] at h
      by_cases c2 : ff > 0
      · rw [if_pos c2] at h
        obtain rfl := Option.some.inj h
        clear h
        go_enter Tryd.func26, Tryd.ntmps26
        go_wp2
        go_ret
        exact ⟨by first | rfl | (simp; done), by repeat (first | exact Drawn0.refl _ | apply Drawn0.step | exact ⟨⟨_, rfl⟩⟩)⟩
      · obtain rfl : ff = 0 := by omega
        rw [if_neg (by omega)] at h
        obtain rfl := Option.some.inj h
        clear h
        go_enter Tryd.func26, Tryd.ntmps26
        go_wp2
        go_ret
        exact ⟨by first | rfl | (simp; done), by repeat (first | exact Drawn0.refl _ | apply Drawn0.step | exact ⟨⟨_, rfl⟩⟩)⟩
    · rw [if_neg c1] at h
      have c1b : (ee == 31) = false := beq_eq_false_iff_ne.mpr c1
      by_cases c3 : ee = 0
      · subst c3
        rw [if_pos rfl] at h
        have HZ := Aside0.mk h
        clear h
        go_enter Tryd.func26, Tryd.ntmps26
        go_wp2_with (go_at_call 44; (with_reducible refine (heraldref03_near.calls _ _ _ _ _ _ HZ.out).mono ?_); rintro e w' ⟨rfl, ⟨m, rfl⟩⟩)
        go_ret
        exact ⟨by first | rfl | (simp; done), by repeat (first | exact Drawn0.refl _ | apply Drawn0.step | exact ⟨⟨_, rfl⟩⟩)⟩
      · rw [if_neg c3] at h
        have c3b : (ee == 0) = false := beq_eq_false_iff_ne.mpr c3
        have HZ := Aside0.mk h
        clear h
        go_enter Tryd.func26, Tryd.ntmps26
        go_wp2_with (go_at_call 44; (with_reducible refine (heraldref03_near.calls _ _ _ _ _ _ HZ.out).mono ?_); rintro e w' ⟨rfl, ⟨m, rfl⟩⟩)
        go_ret
        exact ⟨by first | rfl | (simp; done), by repeat (first | exact Drawn0.refl _ | apply Drawn0.step | exact ⟨⟨_, rfl⟩⟩)⟩
end Go.Proofs.YteecekhfpfnepaaDoor.PAll
end

section
-- Written by a program of this session out of the translation. Lean checks it.
namespace Go.Proofs.YteecekhfpfnepaaDoor.PAll
open Go.RowKit Go.Proofs.YteecekhfpfnepaaDoorW.PrintWords Go.Proofs.YteecekhfpfnepaaDoorW.PrintLast Go.Proofs.YteecekhfpfnepaaDoorW.PrintMore
attribute [local go_sem] max2_int min2_int max_two min_two max_three min_three max_four min_four   -- for this text's walks alone
set_option linter.unusedVariables false
set_option linter.unusedSimpArgs false

/-! ### heraldref03_Brain: function 28 -/
def heraldref03_Brain.f (a0 : Int) : Option (Int) := (heraldref03_raw.f a0).bind fun bt157 => (if bt157.1 = 2 then (some 32704) else (if (Int.tmod a0 65536) > 32768 then (some (IntKind.u16.wrap ((((Int.tdiv a0 65536) % 4294967296) + 1) % 4294967296))) else (if (Int.tmod a0 65536) = 32768 then (if (((Int.tdiv a0 65536) % 4294967296) % 2) = 1 then (some (IntKind.u16.wrap ((((Int.tdiv a0 65536) % 4294967296) + 1) % 4294967296))) else (some (IntKind.u16.wrap ((Int.tdiv a0 65536) % 4294967296)))) else (some (IntKind.u16.wrap ((Int.tdiv a0 65536) % 4294967296))))))
set_option maxHeartbeats 8000000 in
set_option maxRecDepth 100000 in
theorem heraldref03_Brain.calls (a0 : Int) (r : Int) (w : World) (h : heraldref03_Brain.f a0 = some r) :
    Calls Tryd.prog 28 #[.int .u32 a0] w fun e w' => e = .returned (.int .u16 r) ∧ Drawn0 w w' := by
  have H : ((heraldref03_raw.f a0).bind fun bt157 => (if bt157.1 = 2 then (some 32704) else (if (Int.tmod a0 65536) > 32768 then (some (IntKind.u16.wrap ((((Int.tdiv a0 65536) % 4294967296) + 1) % 4294967296))) else (if (Int.tmod a0 65536) = 32768 then (if (((Int.tdiv a0 65536) % 4294967296) % 2) = 1 then (some (IntKind.u16.wrap ((((Int.tdiv a0 65536) % 4294967296) + 1) % 4294967296))) else (some (IntKind.u16.wrap ((Int.tdiv a0 65536) % 4294967296)))) else (some (IntKind.u16.wrap ((Int.tdiv a0 65536) % 4294967296))))))) = some r := h
  clear h
  replace H := Option.bind_eq_some_iff.mp H
  obtain ⟨⟨t157, t158, t159, t160⟩, A20, H⟩ := H
  replace H : (if t157 = 2 then (some 32704) else (if (Int.tmod a0 65536) > 32768 then (some (IntKind.u16.wrap ((((Int.tdiv a0 65536) % 4294967296) + 1) % 4294967296))) else (if (Int.tmod a0 65536) = 32768 then (if (((Int.tdiv a0 65536) % 4294967296) % 2) = 1 then (some (IntKind.u16.wrap ((((Int.tdiv a0 65536) % 4294967296) + 1) % 4294967296))) else (some (IntKind.u16.wrap ((Int.tdiv a0 65536) % 4294967296)))) else (some (IntKind.u16.wrap ((Int.tdiv a0 65536) % 4294967296)))))) = some r := H
  have A2 := Aside0.mk A20
  clear A20
  by_cases c3 : t157 = 2
  · rw [if_pos c3] at H
    have c3b0 : (t157 == 2) = true := beq_iff_eq.mpr c3
    have c3b1 : (t157 != 2) = false := bne_eq_false_iff_eq.mpr c3
    clear c3
    obtain rfl := Option.some.inj H
    go_enter Tryd.func28, Tryd.ntmps28
    go_wp2_with (first | ((with_reducible refine gate_callee (f := 37) rfl ?_); refine goesL_ (some 11) rfl rfl Tryd.func37 (by kernel_rfl) rfl #[.int .u32 a0] rfl (by (try simp only [List.map_toArray, List.map_cons, List.map_nil]); first | done | rfl | (simp only [List.length_drop, List.length_take]; rfl)) ?_; (with_reducible refine (heraldref03_raw.calls a0 t157 t158 t159 t160 _ A2.out).mono ?_); rintro e w' ⟨rfl, ⟨nd, rfl⟩⟩; refine ⟨_, rfl, ?_⟩))
    go_ret
    exact ⟨by first | rfl | (simp; done) | (simp [*]; done), by repeat (first | exact Drawn0.refl _ | apply Drawn0.step)⟩
  · rw [if_neg c3] at H
    have c3b0 : (t157 == 2) = false := beq_eq_false_iff_ne.mpr c3
    have c3b1 : (t157 != 2) = true := bne_iff_ne.mpr c3
    by_cases c4 : (Int.tmod a0 65536) > 32768
    · rw [if_pos c4] at H
      have c4b0 : decide (32768 < (Int.tmod a0 65536)) = true := decide_eq_true c4
      clear c4
      obtain rfl := Option.some.inj H
      go_enter Tryd.func28, Tryd.ntmps28
      go_wp2_with (first | ((with_reducible refine gate_callee (f := 37) rfl ?_); refine goesL_ (some 11) rfl rfl Tryd.func37 (by kernel_rfl) rfl #[.int .u32 a0] rfl (by (try simp only [List.map_toArray, List.map_cons, List.map_nil]); first | done | rfl | (simp only [List.length_drop, List.length_take]; rfl)) ?_; (with_reducible refine (heraldref03_raw.calls a0 t157 t158 t159 t160 _ A2.out).mono ?_); rintro e w' ⟨rfl, ⟨nd, rfl⟩⟩; refine ⟨_, rfl, ?_⟩))
      go_ret
      exact ⟨by first | rfl | (simp; done) | (simp [*]; done), by repeat (first | exact Drawn0.refl _ | apply Drawn0.step)⟩
    · rw [if_neg c4] at H
      have c4b0 : decide (32768 < (Int.tmod a0 65536)) = false := decide_eq_false c4
      clear c4
      by_cases c5 : (Int.tmod a0 65536) = 32768
      · rw [if_pos c5] at H
        have c5b0 : ((Int.tmod a0 65536) == 32768) = true := beq_iff_eq.mpr c5
        have c5b1 : ((Int.tmod a0 65536) != 32768) = false := bne_eq_false_iff_eq.mpr c5
        clear c5
        by_cases c6 : (((Int.tdiv a0 65536) % 4294967296) % 2) = 1
        · rw [if_pos c6] at H
          have c6b0 : ((((Int.tdiv a0 65536) % 4294967296) % 2) == 1) = true := beq_iff_eq.mpr c6
          have c6b1 : ((((Int.tdiv a0 65536) % 4294967296) % 2) != 1) = false := bne_eq_false_iff_eq.mpr c6
          clear c6
          obtain rfl := Option.some.inj H
          go_enter Tryd.func28, Tryd.ntmps28
          go_wp2_with (first | ((with_reducible refine gate_callee (f := 37) rfl ?_); refine goesL_ (some 11) rfl rfl Tryd.func37 (by kernel_rfl) rfl #[.int .u32 a0] rfl (by (try simp only [List.map_toArray, List.map_cons, List.map_nil]); first | done | rfl | (simp only [List.length_drop, List.length_take]; rfl)) ?_; (with_reducible refine (heraldref03_raw.calls a0 t157 t158 t159 t160 _ A2.out).mono ?_); rintro e w' ⟨rfl, ⟨nd, rfl⟩⟩; refine ⟨_, rfl, ?_⟩))
          go_ret
          exact ⟨by first | rfl | (simp; done) | (simp [*]; done), by repeat (first | exact Drawn0.refl _ | apply Drawn0.step)⟩
        · rw [if_neg c6] at H
          have c6b0 : ((((Int.tdiv a0 65536) % 4294967296) % 2) == 1) = false := beq_eq_false_iff_ne.mpr c6
          have c6b1 : ((((Int.tdiv a0 65536) % 4294967296) % 2) != 1) = true := bne_iff_ne.mpr c6
          obtain rfl := Option.some.inj H
          go_enter Tryd.func28, Tryd.ntmps28
          go_wp2_with (first | ((with_reducible refine gate_callee (f := 37) rfl ?_); refine goesL_ (some 11) rfl rfl Tryd.func37 (by kernel_rfl) rfl #[.int .u32 a0] rfl (by (try simp only [List.map_toArray, List.map_cons, List.map_nil]); first | done | rfl | (simp only [List.length_drop, List.length_take]; rfl)) ?_; (with_reducible refine (heraldref03_raw.calls a0 t157 t158 t159 t160 _ A2.out).mono ?_); rintro e w' ⟨rfl, ⟨nd, rfl⟩⟩; refine ⟨_, rfl, ?_⟩))
          go_ret
          exact ⟨by first | rfl | (simp; done) | (simp [*]; done), by repeat (first | exact Drawn0.refl _ | apply Drawn0.step)⟩
      · rw [if_neg c5] at H
        have c5b0 : ((Int.tmod a0 65536) == 32768) = false := beq_eq_false_iff_ne.mpr c5
        have c5b1 : ((Int.tmod a0 65536) != 32768) = true := bne_iff_ne.mpr c5
        obtain rfl := Option.some.inj H
        go_enter Tryd.func28, Tryd.ntmps28
        go_wp2_with (first | ((with_reducible refine gate_callee (f := 37) rfl ?_); refine goesL_ (some 11) rfl rfl Tryd.func37 (by kernel_rfl) rfl #[.int .u32 a0] rfl (by (try simp only [List.map_toArray, List.map_cons, List.map_nil]); first | done | rfl | (simp only [List.length_drop, List.length_take]; rfl)) ?_; (with_reducible refine (heraldref03_raw.calls a0 t157 t158 t159 t160 _ A2.out).mono ?_); rintro e w' ⟨rfl, ⟨nd, rfl⟩⟩; refine ⟨_, rfl, ?_⟩))
        go_ret
        exact ⟨by first | rfl | (simp; done) | (simp [*]; done), by repeat (first | exact Drawn0.refl _ | apply Drawn0.step)⟩

end Go.Proofs.YteecekhfpfnepaaDoor.PAll
end

section
-- Written by a program of this session out of the translation. Lean checks it.
namespace Go.Proofs.YteecekhfpfnepaaDoor.PAll
open Go.RowKit Go.Proofs.YteecekhfpfnepaaDoorW.PrintWords Go.Proofs.YteecekhfpfnepaaDoorW.PrintLast Go.Proofs.YteecekhfpfnepaaDoorW.PrintMore
attribute [local go_sem] max2_int min2_int max_two min_two max_three min_three max_four min_four   -- for this text's walks alone
set_option linter.unusedVariables false
set_option linter.unusedSimpArgs false

/-! ### heraldref03_FromBrain: function 30 -/
def heraldref03_FromBrain.f (a0 : Int) : Option (Int) := (heraldref03_raw.f ((((a0) % 4294967296) * 65536) % 4294967296)).bind fun bt165 => (if bt165.1 = 2 then (some 2143289344) else (some ((((a0) % 4294967296) * 65536) % 4294967296)))
set_option maxHeartbeats 8000000 in
set_option maxRecDepth 100000 in
theorem heraldref03_FromBrain.calls (a0 : Int) (r : Int) (w : World) (h : heraldref03_FromBrain.f a0 = some r) :
    Calls Tryd.prog 30 #[.int .u16 a0] w fun e w' => e = .returned (.int .u32 r) ∧ Drawn0 w w' := by
  have H : ((heraldref03_raw.f ((((a0) % 4294967296) * 65536) % 4294967296)).bind fun bt165 => (if bt165.1 = 2 then (some 2143289344) else (some ((((a0) % 4294967296) * 65536) % 4294967296)))) = some r := h
  clear h
  replace H := Option.bind_eq_some_iff.mp H
  obtain ⟨⟨t165, t166, t167, t168⟩, A20, H⟩ := H
  replace H : (if t165 = 2 then (some 2143289344) else (some ((((a0) % 4294967296) * 65536) % 4294967296))) = some r := H
  have A2 := Aside0.mk A20
  clear A20
  by_cases c3 : t165 = 2
  · rw [if_pos c3] at H
    have c3b0 : (t165 == 2) = true := beq_iff_eq.mpr c3
    have c3b1 : (t165 != 2) = false := bne_eq_false_iff_eq.mpr c3
    clear c3
    obtain rfl := Option.some.inj H
    go_enter Tryd.func30, Tryd.ntmps30
    go_wp2_with (first | ((with_reducible refine gate_callee (f := 37) rfl ?_); refine goesL_ (some 13) rfl rfl Tryd.func37 (by kernel_rfl) rfl #[.int .u32 ((((a0) % 4294967296) * 65536) % 4294967296)] rfl (by (try simp only [List.map_toArray, List.map_cons, List.map_nil]); first | done | rfl | (simp only [List.length_drop, List.length_take]; rfl)) ?_; (with_reducible refine (heraldref03_raw.calls ((((a0) % 4294967296) * 65536) % 4294967296) t165 t166 t167 t168 _ A2.out).mono ?_); rintro e w' ⟨rfl, ⟨nd, rfl⟩⟩; refine ⟨_, rfl, ?_⟩))
    go_ret
    exact ⟨by first | rfl | (simp; done) | (simp [*]; done), by repeat (first | exact Drawn0.refl _ | apply Drawn0.step)⟩
  · rw [if_neg c3] at H
    have c3b0 : (t165 == 2) = false := beq_eq_false_iff_ne.mpr c3
    have c3b1 : (t165 != 2) = true := bne_iff_ne.mpr c3
    obtain rfl := Option.some.inj H
    go_enter Tryd.func30, Tryd.ntmps30
    go_wp2_with (first | ((with_reducible refine gate_callee (f := 37) rfl ?_); refine goesL_ (some 13) rfl rfl Tryd.func37 (by kernel_rfl) rfl #[.int .u32 ((((a0) % 4294967296) * 65536) % 4294967296)] rfl (by (try simp only [List.map_toArray, List.map_cons, List.map_nil]); first | done | rfl | (simp only [List.length_drop, List.length_take]; rfl)) ?_; (with_reducible refine (heraldref03_raw.calls ((((a0) % 4294967296) * 65536) % 4294967296) t165 t166 t167 t168 _ A2.out).mono ?_); rintro e w' ⟨rfl, ⟨nd, rfl⟩⟩; refine ⟨_, rfl, ?_⟩))
    go_ret
    exact ⟨by first | rfl | (simp; done) | (simp [*]; done), by repeat (first | exact Drawn0.refl _ | apply Drawn0.step)⟩

end Go.Proofs.YteecekhfpfnepaaDoor.PAll
end

section
/- Rounding is untouched by scale; halves and brains, of the program and of the reference. -/
namespace Go.Proofs.YteecekhfpfnepaaDoor.Sg
set_option linter.unusedVariables false
set_option linter.unusedSimpArgs false

theorem rhe_exact (a s : Nat) : rhe (a * 2 ^ s) s = a := by
  have hp := pow_pos' s
  unfold rhe
  rw [Nat.mul_div_cancel _ hp, Nat.mul_mod_left, if_neg (by omega)]
  rfl
theorem rhe_scale (m D t : Nat) : rhe (m * 2 ^ t) (D + t) = rhe m D := by
  have hp := pow_pos' t
  unfold rhe
  rw [Nat.pow_add, Nat.mul_div_mul_right _ _ hp, Nat.mul_mod_mul_right]
  have h1 : (2 ^ D * 2 ^ t < 2 * (m % 2 ^ D * 2 ^ t)) ↔ (2 ^ D < 2 * (m % 2 ^ D)) := by
    rw [← Nat.mul_assoc]
    exact Nat.mul_lt_mul_right hp
  have h2 : (2 ^ D * 2 ^ t = 2 * (m % 2 ^ D * 2 ^ t)) ↔ (2 ^ D = 2 * (m % 2 ^ D)) := by
    rw [← Nat.mul_assoc]
    exact Nat.mul_right_cancel_iff hp
  simp only [h1, h2]
theorem log2_scale (m t : Nat) (hm : m ≠ 0) : (m * 2 ^ t).log2 = m.log2 + t := by
  have hp := pow_pos' t
  obtain ⟨h1, h2⟩ := log_bounds m hm
  rw [Nat.log2_eq_iff (Nat.mul_ne_zero hm (by omega))]
  constructor
  · rw [Nat.pow_add]; exact Nat.mul_le_mul_right _ h1
  · rw [show m.log2 + t + 1 = (m.log2 + 1) + t by omega, Nat.pow_add]; exact Nat.mul_lt_mul_of_pos_right h2 hp
theorem rung_scale (m t : Nat) (e : Int) : rung (m * 2 ^ t) (e - t) = rung m e := by
  by_cases hm : m = 0
  · subst hm; simp [rung]
  have hp := pow_pos' t
  rw [rung_eq m e hm, rung_eq _ _ (Nat.mul_ne_zero hm (by omega))]
  have hL : lastP (m * 2 ^ t) (e - t) = lastP m e := by
    unfold lastP
    rw [log2_scale m t hm]
    congr 1
    omega
  rw [hL]
  obtain ⟨L, hl⟩ : ∃ L, lastP m e = L := ⟨_, rfl⟩
  rw [hl]
  have hk : keptQ (m * 2 ^ t) (e - t) L = keptQ m e L := by
    unfold keptQ
    by_cases c1 : L ≤ e - t
    · rw [show (L - (e - t)).toNat = 0 by omega, show (L - e).toNat = 0 by omega, rhe_zero, rhe_zero, Nat.shiftLeft_eq, Nat.shiftLeft_eq, Nat.mul_assoc, ← Nat.pow_add]
      congr 2
      omega
    · rw [show (e - t - L).toNat = 0 by omega, Nat.shiftLeft_zero]
      by_cases c2 : L ≤ e
      · rw [show (L - e).toNat = 0 by omega, rhe_zero, Nat.shiftLeft_eq]
        obtain ⟨s, hs⟩ : ∃ s, (L - (e - t)).toNat = s := ⟨_, rfl⟩
        rw [hs, show t = (e - L).toNat + s by omega, Nat.pow_add, ← Nat.mul_assoc, rhe_exact]
      · rw [show (e - L).toNat = 0 by omega, Nat.shiftLeft_zero, show (L - (e - t)).toNat = (L - e).toNat + t by omega, rhe_scale]
  rw [hk]
/-- Where something is lost below, an odd last digit tells of it as well. -/
theorem rhe_stick (X M D k : Nat) (hX : X % 2 = 1) (hD : 2 ≤ D) (h1 : (X - 1) * 2 ^ k < M) (h2 : M < (X + 1) * 2 ^ k) : rhe M (D + k) = rhe X D := by
  have hp := pow_pos' k
  have hD2 : 2 ^ D = 2 * 2 ^ (D - 1) := pow_half D (by omega)
  have hD3 : 2 ^ (D - 1) = 2 * 2 ^ (D - 1 - 1) := pow_half (D - 1) (by omega)
  obtain ⟨H, hH⟩ : ∃ H, 2 ^ (D - 1) = H := ⟨_, rfl⟩
  obtain ⟨P, hP⟩ : ∃ P, 2 ^ k = P := ⟨_, rfl⟩
  have hHp : 0 < H := by rw [← hH]; exact pow_pos' _
  rw [hH] at hD2 hD3
  rw [hP] at h1 h2 hp
  have hdm := Nat.div_add_mod X (2 * H)
  have hmod : X % (2 * H) < 2 * H := Nat.mod_lt _ (by omega)
  unfold rhe
  rw [Nat.pow_add, hD2, hP]
  obtain ⟨Q, hQ⟩ : ∃ Q, X / (2 * H) = Q := ⟨_, rfl⟩
  obtain ⟨R, hR⟩ : ∃ R, X % (2 * H) = R := ⟨_, rfl⟩
  rw [hQ, hR] at hdm ⊢
  rw [hR] at hmod
  have hHe : H % 2 = 0 := by omega
  -- the rest is odd
  have hRo : R % 2 = 1 := by
    have e1 : 2 * H * Q = 2 * (H * Q) := Nat.mul_assoc _ _ _
    omega
  obtain ⟨T, hT⟩ : ∃ T, H * P = T := ⟨_, rfl⟩
  obtain ⟨RP, hRP⟩ : ∃ RP, R * P = RP := ⟨_, rfl⟩
  have eT : 2 * H * P = 2 * T := by rw [Nat.mul_assoc, hT]
  have eX : X * P = Q * (2 * T) + RP := by rw [← hdm, Nat.add_mul, hRP, ← eT, Nat.mul_comm (2 * H) Q, Nat.mul_assoc]
  have g1 : (X - 1) * P = X * P - P := by rw [Nat.sub_mul, Nat.one_mul]
  have g2 : (X + 1) * P = X * P + P := by rw [Nat.add_mul, Nat.one_mul]
  have gXP : P ≤ X * P := Nat.le_mul_of_pos_left _ (by omega)
  rw [g1] at h1
  rw [g2] at h2
  have r1 : P ≤ RP := by rw [← hRP]; exact Nat.le_mul_of_pos_left _ (by omega)
  have r2 : RP + P ≤ 2 * T := by
    rw [← hRP, ← eT]
    have : (R + 1) * P ≤ 2 * H * P := Nat.mul_le_mul_right _ (by omega)
    rw [Nat.add_mul, Nat.one_mul] at this
    exact this
  obtain ⟨QT, hQT⟩ : ∃ QT, Q * (2 * T) = QT := ⟨_, rfl⟩
  rw [hQT] at eX
  have hTp : 0 < 2 * T := by omega
  obtain ⟨r, hr⟩ : ∃ r, M = r + QT := ⟨M - QT, by omega⟩
  have hr1 : r < 2 * T := by omega
  have hMd : M / (2 * T) = Q := by rw [hr, ← hQT, Nat.add_mul_div_right _ _ hTp, Nat.div_eq_of_lt hr1, Nat.zero_add]
  have hMm : M % (2 * T) = r := by rw [hr, ← hQT, Nat.add_mul_mod_self_right, Nat.mod_eq_of_lt hr1]
  rw [eT, hMd, hMm]
  congr 1
  by_cases c : H < R
  · have : T + P ≤ RP := by
      rw [← hRP, ← hT]
      have : (H + 1) * P ≤ R * P := Nat.mul_le_mul_right _ (by omega)
      rw [Nat.add_mul, Nat.one_mul] at this
      exact this
    rw [if_pos (.inl (by omega)), if_pos (.inl (by omega))]
  · have hne : R ≠ H := by omega
    have : RP + P ≤ T := by
      rw [← hRP, ← hT]
      have : (R + 1) * P ≤ H * P := Nat.mul_le_mul_right _ (by omega)
      rw [Nat.add_mul, Nat.one_mul] at this
      exact this
    rw [if_neg (by omega), if_neg (by omega)]
theorem rung_stick (X M k : Nat) (q : Int) (hX : X % 2 = 1) (hb : 134217728 ≤ X) (h1 : (X - 1) * 2 ^ k < M) (h2 : M < (X + 1) * 2 ^ k) : rung M q = rung X (q + k) := by
  have hp := pow_pos' k
  have hX0 : X ≠ 0 := by omega
  obtain ⟨b1, b2⟩ := log_bounds X hX0
  have hM0 : M ≠ 0 := by omega
  have hL27 : 27 ≤ X.log2 := by
    have : ¬ X.log2 < 27 := fun h => by
      have := (Nat.log2_lt hX0).1 h
      have e : 2 ^ 27 = 134217728 := by decide
      omega
    omega
  have ev : 2 ^ X.log2 % 2 = 0 := by rw [pow_half _ (by omega)]; omega
  have ev2 : 2 ^ (X.log2 + 1) % 2 = 0 := by rw [pow_half _ (by omega)]; omega
  have hlog : M.log2 = X.log2 + k := by
    rw [Nat.log2_eq_iff hM0]
    have g1 : 2 ^ X.log2 * 2 ^ k ≤ (X - 1) * 2 ^ k := Nat.mul_le_mul_right _ (by omega)
    have g2 : (X + 1) * 2 ^ k ≤ 2 ^ (X.log2 + 1) * 2 ^ k := Nat.mul_le_mul_right _ (by omega)
    rw [← Nat.pow_add] at g1 g2
    rw [show X.log2 + k + 1 = X.log2 + 1 + k by omega]
    omega
  rw [rung_eq M q hM0, rung_eq X _ hX0]
  have hl : lastP M q = lastP X (q + k) := by
    unfold lastP; rw [hlog]; congr 1; omega
  have hlp : lastP X (q + k) = max (q + k + X.log2 - 23) (-149) := rfl
  rw [hl]
  obtain ⟨L, hL⟩ : ∃ L, lastP X (q + k) = L := ⟨_, rfl⟩
  rw [hL] at hlp ⊢
  have hk : keptQ M q L = keptQ X (q + k) L := by
    unfold keptQ
    obtain ⟨D, hD⟩ : ∃ D, (L - (q + k)).toNat = D := ⟨_, rfl⟩
    rw [show (q - L).toNat = 0 by omega, show (q + k - L).toNat = 0 by omega, Nat.shiftLeft_zero, Nat.shiftLeft_zero, hD, show (L - q).toNat = D + k by omega]
    exact rhe_stick X M D k hX (by omega) h1 h2
  rw [hk]
end Go.Proofs.YteecekhfpfnepaaDoor.Sg
namespace Go.Proofs.YteecekhfpfnepaaDoor.Sg
open Go.RowKit Go.Proofs.YteecekhfpfnepaaDoor.PAll Go.Proofs.YteecekhfpfnepaaDoorW.PrintWords Go.Proofs.YteecekhfpfnepaaDoorW.PrintLast Go.Proofs.YteecekhfpfnepaaDoorW.PrintMore
set_option linter.unusedVariables false
set_option linter.unusedSimpArgs false

/-- The last place that a half keeps. -/
def lastH (m : Nat) (e : Int) : Int := max (e + m.log2 - 10) (-24)
def keptH (m : Nat) (e : Int) : Nat := keptQ m e (lastH m e)
theorem keptQ_scale (m t : Nat) (e L : Int) : keptQ (m * 2 ^ t) (e - t) L = keptQ m e L := by
  unfold keptQ
  by_cases c1 : L ≤ e - t
  · rw [show (L - (e - t)).toNat = 0 by omega, show (L - e).toNat = 0 by omega, rhe_zero, rhe_zero, Nat.shiftLeft_eq, Nat.shiftLeft_eq, Nat.mul_assoc, ← Nat.pow_add]
    congr 2
    omega
  · rw [show (e - t - L).toNat = 0 by omega, Nat.shiftLeft_zero]
    by_cases c2 : L ≤ e
    · rw [show (L - e).toNat = 0 by omega, rhe_zero, Nat.shiftLeft_eq]
      obtain ⟨s, hs⟩ : ∃ s, (L - (e - t)).toNat = s := ⟨_, rfl⟩
      rw [hs, show t = (e - L).toNat + s by omega, Nat.pow_add, ← Nat.mul_assoc, rhe_exact]
    · rw [show (e - L).toNat = 0 by omega, Nat.shiftLeft_zero, show (L - (e - t)).toNat = (L - e).toNat + t by omega, rhe_scale]
theorem lastH_scale (m t : Nat) (e : Int) (hm : m ≠ 0) : lastH (m * 2 ^ t) (e - t) = lastH m e := by
  unfold lastH
  rw [log2_scale m t hm]
  congr 1
  omega
theorem keptH_up (m : Nat) (e : Int) (hm : m ≠ 0) : keptH m e ≤ 2048 := by
  obtain ⟨h1, h2⟩ := log_bounds m hm
  have hl : e + (m.log2 : Int) - 10 ≤ lastH m e := by unfold lastH; omega
  unfold keptH keptQ
  obtain ⟨L, hL⟩ : ∃ L, lastH m e = L := ⟨_, rfl⟩
  rw [hL] at hl ⊢
  have h5 : 2 ^ 11 = 2048 := by decide
  by_cases hs : L ≤ e
  · rw [show (L - e).toNat = 0 by omega, rhe_zero, Nat.shiftLeft_eq]
    obtain ⟨t, ht⟩ : ∃ t, (e - L).toNat = t := ⟨_, rfl⟩
    rw [ht]
    have h3 : m * 2 ^ t < 2 ^ (m.log2 + 1) * 2 ^ t := Nat.mul_lt_mul_of_pos_right h2 (pow_pos' t)
    rw [← Nat.pow_add] at h3
    have h4 : 2 ^ (m.log2 + 1 + t) ≤ 2 ^ 11 := Nat.pow_le_pow_right (by omega) (by omega)
    omega
  · rw [show (e - L).toNat = 0 by omega, Nat.shiftLeft_zero]
    obtain ⟨s, hs'⟩ : ∃ s, (L - e).toNat = s := ⟨_, rfl⟩
    rw [hs']
    have h3 : 2 ^ (m.log2 + 1) ≤ 2 ^ (11 + s) := Nat.pow_le_pow_right (by omega) (by omega)
    have h4 : m / 2 ^ s < 2 ^ 11 := by
      apply Nat.div_lt_of_lt_mul
      rw [← Nat.pow_add, Nat.add_comm s 11]
      omega
    have h6 := (rhe_le m s).2
    omega
/-- The word of a half: a sign, the place, the kept digits. -/
def finH (s last : Int) (q : Nat) : Int := if q < 1024 then s + q else if last + 25 ≥ 31 then s + 31744 else s + (last + 25) * 1024 + (q - 1024)
def halfV (s : Int) (m : Nat) (e : Int) : Int := if keptH m e = 2048 then finH s (lastH m e + 1) 1024 else finH s (lastH m e) (keptH m e)
theorem halfV_scale (s : Int) (m t : Nat) (e : Int) (hm : m ≠ 0) : halfV s (m * 2 ^ t) (e - t) = halfV s m e := by
  unfold halfV keptH
  rw [lastH_scale m t e hm, keptQ_scale]
def sgnH (neg : Bool) : Int := if neg then 32768 else 0
theorem or16 (a c : Nat) (ha : a < 65536) (hc : c < 65536) : bits .or .u16 (a : Int) (c : Int) = ((a ||| c : Nat) : Int) := by
  show IntKind.u16.wrap ((BitVec.ofInt 16 (a : Int) ||| BitVec.ofInt 16 (c : Int)).toNat : Int) = _
  rw [BitVec.toNat_or, BitVec.ofInt_natCast, BitVec.ofInt_natCast, BitVec.toNat_ofNat, BitVec.toNat_ofNat, Nat.mod_eq_of_lt (by omega), Nat.mod_eq_of_lt (by omega)]
  have h : a ||| c < 2 ^ 16 := Nat.or_lt_two_pow (by omega) (by omega)
  show ((a ||| c : Nat) : Int) % 65536 = _
  omega
def sgnHN (neg : Bool) : Nat := if neg then 32768 else 0
theorem sgnH_cast (neg : Bool) : sgnH neg = (sgnHN neg : Int) := by cases neg <;> rfl
theorem or_u16 (neg : Bool) (x : Nat) (hx : x < 32768) : bits .or .u16 (sgnH neg) (x : Int) = sgnH neg + (x : Int) := by
  rw [sgnH_cast]
  cases neg
  · rw [show sgnHN false = 0 from rfl, or16 _ _ (by omega) (by omega), Nat.zero_or]; omega
  · have e := Nat.two_pow_add_eq_or_of_lt (i := 15) (b := x) (by omega) 1
    rw [show sgnHN true = 32768 from rfl, or16 _ _ (by omega) (by omega), show (32768 : Nat) = 2 ^ 15 * 1 from by decide, ← e]; omega
theorem or2_u16 (neg : Bool) (x y : Nat) (hx : x < 32) (hy : y < 1024) : bits .or .u16 (bits .or .u16 (sgnH neg) ((x * 1024 : Nat) : Int)) (y : Int) = sgnH neg + ((x * 1024 + y : Nat) : Int) := by
  rw [or_u16 neg _ (by omega)]
  obtain ⟨g, hg, hg2⟩ : ∃ g : Nat, sgnH neg = ((g * 1024 : Nat) : Int) ∧ g ≤ 32 := by
    cases neg
    · exact ⟨0, rfl, by omega⟩
    · exact ⟨32, rfl, by omega⟩
  rw [hg]
  have e := Nat.two_pow_add_eq_or_of_lt (i := 10) (b := y) (by omega) (g + x)
  rw [show ((g * 1024 : Nat) : Int) + ((x * 1024 : Nat) : Int) = ((2 ^ 10 * (g + x) : Nat) : Int) from by rw [show 2 ^ 10 = 1024 from by decide]; omega, or16 _ _ (by rw [show 2 ^ 10 = 1024 from by decide]; omega) (by omega), ← e, show 2 ^ 10 = 1024 from by decide]
  omega
theorem u16_in {a : Int} (h0 : 0 ≤ a) (h1 : a < 65536) : IntKind.u16.wrap a = a := by show a % 65536 = a; omega
theorem half_j1 (neg : Bool) (m : Nat) (last : Int) (q k : Nat) (h0 : m ≠ 0) (hm : m < 16777216) (h1 : -24 ≤ last) (h2 : last ≤ 1000) (hq : q < 2048) : single_Half.j1 (k + 1) (sgnH neg) (m : Int) last (q : Int) = some (finH (sgnH neg) last q) := by
  simp only [single_Half.j1]
  unfold finH
  rw [if_neg (by omega), wrap_in (by omega) (by omega)]
  by_cases c1 : q < 1024
  · rw [if_pos (by omega), if_pos c1, u16_in (by omega) (by omega), or_u16 neg q (by omega)]
  · rw [if_neg (by omega), if_neg c1]
    by_cases c2 : last + 25 ≥ 31
    · rw [if_pos c2, if_pos c2, show (31744 : Int) = ((31744 : Nat) : Int) from rfl, or_u16 neg _ (by omega)]
    · rw [if_neg c2, if_neg c2]
      obtain ⟨x, hx⟩ : ∃ x : Nat, last + 25 = (x : Int) := ⟨(last + 25).toNat, by omega⟩
      rw [hx, u16_in (a := (x : Int)) (by omega) (by omega), u16_in (a := (x : Int) * 1024) (by omega) (by omega), u64_in (by omega) (by omega), u16_in (by omega) (by omega), show (x : Int) * 1024 = ((x * 1024 : Nat) : Int) from by omega, show (q : Int) - 1024 = ((q - 1024 : Nat) : Int) from by omega, or2_u16 neg x (q - 1024) (by omega) (by omega)]
      congr 1
      omega
theorem down_keptH (m : Nat) (e : Int) (h0 : m ≠ 0) (hm : m < 16777216) (he0 : -300 ≤ e) (he1 : e ≤ 200) : single_down.f (m : Int) (lastH m e - e) = some ((keptH m e : Nat) : Int) := by
  have hl : m.log2 < 24 := (Nat.log2_lt h0).2 (by omega)
  have hb := (log_bounds m h0).2
  unfold keptH keptQ
  have hlp : lastH m e = max (e + m.log2 - 10) (-24) := rfl
  by_cases hs : lastH m e ≤ e
  · obtain ⟨t, ht⟩ : ∃ t, (e - lastH m e).toNat = t := ⟨_, rfl⟩
    have h4 : m.log2 + 1 + t ≤ 11 := by omega
    have h3 : m * 2 ^ t < 2 ^ (m.log2 + 1) * 2 ^ t := Nat.mul_lt_mul_of_pos_right hb (pow_pos' t)
    rw [← Nat.pow_add] at h3
    have h5 : 2 ^ (m.log2 + 1 + t) ≤ 2 ^ 11 := Nat.pow_le_pow_right (by omega) h4
    have h6 : 2 ^ 11 = 2048 := by decide
    rw [down_up m t (by omega) (by omega) _ (by omega), show (lastH m e - e).toNat = 0 by omega, rhe_zero, ht, Nat.shiftLeft_eq]
  · obtain ⟨s, hs'⟩ : ∃ s, (lastH m e - e).toNat = s := ⟨_, rfl⟩
    rw [show lastH m e - e = (s : Int) from by omega, down_down m s (by omega) (by omega) (by omega), show (e - lastH m e).toNat = 0 by omega, Nat.shiftLeft_zero, Int.toNat_natCast]
theorem half_j0 (neg x2 : Bool) (m : Nat) (e : Int) (h0 : m ≠ 0) (hm : m < 16777216) (he0 : -149 ≤ e) (he1 : e ≤ 150) (k : Nat) (hk : 2 ≤ k) : single_Half.j0 k (sgnH neg) 0 x2 (m : Int) e = some (halfV (sgnH neg) m e) := by
  obtain ⟨k, rfl⟩ : ∃ j, k = j + 2 := ⟨k - 2, by omega⟩
  have hl : m.log2 < 24 := (Nat.log2_lt h0).2 (by omega)
  have hq := keptH_up m e h0
  have hlast : mx (-24) (wrap64 (wrap64 (e + (((m.log2 : Nat) : Int) + 1)) - 11)) = lastH m e := by
    rw [wrap_in (a := e + _) (by omega) (by omega), wrap_in (by omega) (by omega)]
    unfold mx lastH
    split <;> omega
  have hlp : lastH m e = max (e + m.log2 - 10) (-24) := rfl
  simp only [single_Half.j0]
  rw [if_neg (by decide), if_neg (by decide), u64_in (by omega) (by omega)]
  unfold bits_Len64.f
  rw [if_pos ⟨by omega, by omega⟩, lenI_log m h0]
  simp only [Option.bind_some]
  rw [hlast, wrap_in (a := lastH m e - e) (by omega) (by omega), down_keptH m e h0 hm (by omega) (by omega)]
  simp only [Option.bind_some]
  unfold halfV
  by_cases c3 : keptH m e = 2048
  · rw [if_pos (by omega), if_pos c3, wrap_in (by omega) (by omega), show (1024 : Int) = ((1024 : Nat) : Int) from rfl, half_j1 neg m _ _ k h0 hm (by omega) (by omega) (by omega)]
  · rw [if_neg (by omega), if_neg c3, half_j1 neg m _ _ k h0 hm (by omega) (by omega) (by omega)]
end Go.Proofs.YteecekhfpfnepaaDoor.Sg
namespace Go.Proofs.YteecekhfpfnepaaDoor.Sg
open Go.RowKit Go.Proofs.YteecekhfpfnepaaDoor.PAll Go.Proofs.YteecekhfpfnepaaDoorW.PrintWords Go.Proofs.YteecekhfpfnepaaDoorW.PrintLast Go.Proofs.YteecekhfpfnepaaDoorW.PrintMore
set_option linter.unusedVariables false
set_option linter.unusedSimpArgs false

theorem sgn_cases (s : Bool) : (s = false ∧ sgn s = 0 ∧ sgnH s = 0) ∨ (s = true ∧ sgn s = 2147483648 ∧ sgnH s = 32768) := by
  cases s
  · exact .inl ⟨rfl, rfl, rfl⟩
  · exact .inr ⟨rfl, rfl, rfl⟩
/-- The bits of a normal number, read. -/
theorem raw_of (s : Bool) (m : Nat) (e : Int) (h1 : 8388608 ≤ m) (h2 : m < 16777216) (he : -149 ≤ e) (he2 : e ≤ 104) : rawV (sgn s + (rung m e : Int)) = (0, s, (m : Int), e) := by
  rw [rung_norm m e h1 h2 he he2]
  unfold rawV
  rcases sgn_cases s with ⟨rfl, hs, _⟩ | ⟨rfl, hs, _⟩
  · rw [hs, if_neg (by omega), if_neg (by omega), decide_eq_false (by omega)]
    refine congrArg _ (congrArg _ ?_)
    exact Prod.ext (by show _ = (m : Int); omega) (by show _ = e; omega)
  · rw [hs, if_neg (by omega), if_neg (by omega), decide_eq_true (by omega)]
    refine congrArg _ (congrArg _ ?_)
    exact Prod.ext (by show _ = (m : Int); omega) (by show _ = e; omega)
/-- What Half tells of a number that is not 0, whatever the power that it is told with. -/
theorem half_num (s : Bool) (m : Nat) (e : Int) (a : Int) (ha0 : 0 ≤ a) (ha1 : a < 4294967296) (hr : rawV a = (0, s, (m : Int), e)) (hm : m ≠ 0) (hm1 : m < 16777216) (he : -149 ≤ e) (he2 : e ≤ 104) (k : Nat) (hk : 2 ≤ k) :
    single_Half.f k a = some (halfV (sgnH s) m e) := by
  obtain ⟨q, hq⟩ := tz_spec m hm (by omega)
  have ht := tz_lt m hm (by omega)
  have hdiv : m / 2 ^ tz m = 2 * q + 1 := by
    have hp := pow_pos' (tz m)
    obtain ⟨T, hT⟩ : ∃ T, 2 ^ tz m = T := ⟨_, rfl⟩
    rw [hT] at hq hp ⊢
    rw [hq, Nat.mul_div_cancel_left _ hp]
  have hql : 2 * q + 1 ≤ m := by rw [← hdiv]; exact Nat.div_le_self _ _
  have ht24 : tz m < 24 := by
    have hp1 : 2 ^ tz m ≤ m := by
      have : 2 ^ tz m * 1 ≤ 2 ^ tz m * (2 * q + 1) := Nat.mul_le_mul_left _ (by omega)
      omega
    have : 2 ^ tz m < 2 ^ 24 := by
      have e24 : 2 ^ 24 = 16777216 := by decide
      omega
    exact (Nat.pow_lt_pow_iff_right (by omega)).1 this
  have hP : partsV a = (0, s, ((2 * q + 1 : Nat) : Int), e + (tz m : Int)) := by rw [partsV_of hr, if_neg (by omega), Int.toNat_natCast, hdiv]
  have hv : halfV (sgnH s) m e = halfV (sgnH s) (2 * q + 1) (e + (tz m : Int)) := by
    have := halfV_scale (sgnH s) (2 * q + 1) (tz m) (e + (tz m : Int)) (by omega)
    rw [Nat.mul_comm, ← hq, show e + (tz m : Int) - (tz m : Int) = e from by omega] at this
    exact this
  rw [hv]
  unfold single_Half.f
  rw [parts_some a ha0 ha1, hP]
  simp only [Option.bind_some]
  cases s
  · rw [if_neg (by decide)]
    exact half_j0 false false (2 * q + 1) _ (by omega) (by omega) (by omega) (by omega) k hk
  · rw [if_pos rfl]
    exact half_j0 true true (2 * q + 1) _ (by omega) (by omega) (by omega) (by omega) k hk
theorem half_zero (s : Bool) (e a : Int) (ha0 : 0 ≤ a) (ha1 : a < 4294967296) (hr : rawV a = (0, s, 0, e)) (k : Nat) (hk : 2 ≤ k) : single_Half.f k a = some (sgnH s) := by
  obtain ⟨k, rfl⟩ : ∃ j, k = j + 2 := ⟨k - 2, by omega⟩
  have hP : partsV a = (0, s, 0, 0) := by rw [partsV_of hr, if_pos rfl]
  have hl : bits_Len64.f 0 = some 0 := by unfold bits_Len64.f lenI; rfl
  have hx : mx (-24) (wrap64 (wrap64 (0 + 0) - 11)) = -11 := by decide +kernel
  have hd : single_down.f 0 (-11) = some 0 := by decide +kernel
  have hj : ∀ x4 x2, single_Half.j0 (k + 2) x4 0 x2 0 0 = some x4 := by
    intro x4 x2
    simp only [single_Half.j0]
    rw [if_neg (by decide), if_neg (by decide), show IntKind.u64.wrap 0 = 0 from rfl, hl]
    simp only [Option.bind_some]
    rw [hx, show wrap64 (-11 - 0) = -11 from by decide +kernel, hd]
    simp only [Option.bind_some]
    rw [if_neg (by decide)]
    simp only [single_Half.j1]
    rw [if_pos trivial]
  unfold single_Half.f
  rw [parts_some a ha0 ha1, hP]
  simp only [Option.bind_some]
  cases s
  · rw [if_neg (by decide), hj]; rfl
  · rw [if_pos rfl, hj]; rfl
theorem half_inf (s : Bool) (a : Int) (ha0 : 0 ≤ a) (ha1 : a < 4294967296) (hr : rawV a = (1, s, 0, 0)) (k : Nat) (hk : 2 ≤ k) : single_Half.f k a = some (sgnH s + 31744) := by
  obtain ⟨k, rfl⟩ : ∃ j, k = j + 2 := ⟨k - 2, by omega⟩
  have hP : partsV a = (1, s, 0, 0) := by rw [partsV_of hr, if_pos rfl]
  have hj : ∀ x2, single_Half.j0 (k + 2) (sgnH s) 1 x2 0 0 = some (sgnH s + 31744) := by
    intro x2
    simp only [single_Half.j0]
    rw [if_neg (by decide), if_pos trivial, show (31744 : Int) = ((31744 : Nat) : Int) from rfl, or_u16 s _ (by omega)]
  unfold single_Half.f
  rw [parts_some a ha0 ha1, hP]
  simp only [Option.bind_some]
  cases s
  · rw [if_neg (by decide)]; exact hj _
  · rw [if_pos rfl]; exact hj _
theorem half_nan (a : Int) (ha0 : 0 ≤ a) (ha1 : a < 4294967296) (hr : rawV a = (2, false, 0, 0)) (k : Nat) (hk : 2 ≤ k) : single_Half.f k a = some 32256 := by
  obtain ⟨k, rfl⟩ : ∃ j, k = j + 2 := ⟨k - 2, by omega⟩
  have hP : partsV a = (2, false, 0, 0) := by rw [partsV_of hr, if_pos rfl]
  unfold single_Half.f
  rw [parts_some a ha0 ha1, hP]
  simp only [Option.bind_some]
  rw [if_neg (by decide)]
  simp only [single_Half.j0]
  rw [if_pos trivial]
/-- A half's numbers, as Half rounds them: exact. -/
theorem halfV_sub (s : Bool) (m : Nat) (h0 : m ≠ 0) (h : m < 1024) : halfV (sgnH s) m (-24) = sgnH s + (m : Int) := by
  have h1 : m.log2 < 10 := (Nat.log2_lt h0).2 (by omega)
  have e1 : lastH m (-24) = -24 := by unfold lastH; omega
  have e2 : keptH m (-24) = m := by unfold keptH keptQ; rw [e1]; simp only [Int.sub_self, Int.toNat_zero, Nat.shiftLeft_zero, rhe_zero]
  unfold halfV
  rw [e2, if_neg (by omega)]
  unfold finH
  rw [if_pos h]
theorem halfV_norm (s : Bool) (m : Nat) (e : Int) (h : 1024 ≤ m) (h2 : m < 2048) (he : -24 ≤ e) (he2 : e ≤ 5) : halfV (sgnH s) m e = sgnH s + (e + 25) * 1024 + (m - 1024) := by
  have h1 : m.log2 = 10 := (Nat.log2_eq_iff (by omega)).2 ⟨by omega, by omega⟩
  have e1 : lastH m e = e := by unfold lastH; omega
  have e2 : keptH m e = m := by unfold keptH keptQ; rw [e1]; simp only [Int.sub_self, Int.toNat_zero, Nat.shiftLeft_zero, rhe_zero]
  unfold halfV
  rw [e2, if_neg (by omega), e1]
  unfold finH
  rw [if_neg (by omega), if_neg (by omega)]
theorem and16 (a c : Nat) (ha : a < 65536) (hc : c < 65536) : bits .and .u16 (a : Int) (c : Int) = ((a &&& c : Nat) : Int) := by
  show IntKind.u16.wrap ((BitVec.ofInt 16 (a : Int) &&& BitVec.ofInt 16 (c : Int)).toNat : Int) = _
  rw [BitVec.toNat_and, BitVec.ofInt_natCast, BitVec.ofInt_natCast, BitVec.toNat_ofNat, BitVec.toNat_ofNat, Nat.mod_eq_of_lt (by omega), Nat.mod_eq_of_lt (by omega)]
  have h : a &&& c ≤ a := Nat.and_le_left
  show ((a &&& c : Nat) : Int) % 65536 = _
  omega
theorem mask5 (a : Nat) (ha : a < 65536) : bits .and .u16 (a : Int) 31 = ((a % 32 : Nat) : Int) := by
  rw [show (31 : Int) = ((2 ^ 5 - 1 : Nat) : Int) from by decide, and16 _ _ ha (by decide), Nat.and_two_pow_sub_one_eq_mod, show 2 ^ 5 = 32 from by decide]
theorem mask10 (a : Nat) (ha : a < 65536) : bits .and .u16 (a : Int) 1023 = ((a % 1024 : Nat) : Int) := by
  rw [show (1023 : Int) = ((2 ^ 10 - 1 : Nat) : Int) from by decide, and16 _ _ ha (by decide), Nat.and_two_pow_sub_one_eq_mod, show 2 ^ 10 = 1024 from by decide]
/-- A half as a single: what FromHalf tells. -/
def fromV (s : Bool) (E F : Nat) : Int := if E = 31 then (if F = 0 then sgn s + 2139095040 else 2143289344) else if E = 0 then NR s F (-24) else NR s (1024 + F) ((E : Int) - 25)
theorem or_near (s : Bool) (m : Nat) (e : Int) : bits .or .u32 (sgn s) (NR false m e) = NR s m e := by
  have h := rung_le m e
  have : NR false m e = (rung m e : Int) := by unfold NR sgn; simp
  rw [this, or_u32 s _ (by omega)]
  rfl
theorem from_some (n : Nat) (hn : n < 65536) (s : Bool) (E F : Nat) (hE : n / 1024 % 32 = E) (hF : n % 1024 = F) (hs : decide (32768 ≤ n) = s) (k : Nat) (hk : 5 ≤ k) : single_FromHalf.f k (n : Int) = some (fromV s E F) := by
  obtain ⟨k, rfl⟩ : ∃ j, k = j + 1 := ⟨k - 1, by omega⟩
  have h1 : wrap64 (bits .and .u16 ((n : Int) / 1024) 31) = (E : Int) := by
    rw [show (n : Int) / 1024 = ((n / 1024 : Nat) : Int) from by omega, mask5 _ (by omega), hE, wrap_in (by omega) (by omega)]
  have h2 : wrap64 (bits .and .u16 (n : Int) 1023) = (F : Int) := by rw [mask10 _ hn, hF, wrap_in (by omega) (by omega)]
  have h3 : ((((n : Int) / 32768) % 4294967296) * 2147483648) % 4294967296 = sgn s := by
    rw [← hs]
    by_cases c : 32768 ≤ n
    · rw [decide_eq_true c]; show _ = (2147483648 : Int); omega
    · rw [decide_eq_false c]; show _ = (0 : Int); omega
  have hE1 : E < 32 := by omega
  have hF1 : F < 1024 := by omega
  unfold single_FromHalf.f fromV
  rw [h1, h2, h3]
  simp only [single_FromHalf.j0]
  by_cases c1 : E = 31
  · rw [if_pos (by omega), if_pos c1]
    by_cases c2 : F = 0
    · subst c2
      rw [if_pos rfl, show ((((0 : Nat) : Int)) != 0) = false from rfl, if_neg (by decide), if_pos (by omega), show (2139095040 : Int) = ((2139095040 : Nat) : Int) from rfl, or_u32 s _ (by omega)]
    · have : ((F : Int) != 0) = true := by rw [bne_iff_ne]; omega
      rw [if_neg c2, this, if_pos rfl]
  · rw [if_neg (by omega), if_neg c1, if_neg (by decide), if_neg (by omega)]
    by_cases c2 : E = 0
    · rw [if_pos (by omega), if_pos c2, near_some (F : Int) (-24) (by omega) (by omega) k (by omega)]
      simp only [Option.bind_some]
      by_cases c3 : F = 0
      · subst c3
        rw [if_pos (by rfl)]
        have := or_near s 0 (-24)
        have e0 : NR false 0 (-24) = 0 := by unfold NR; simp [rung, sgn]
        rw [e0] at this
        rw [this]
      · rw [if_neg (by omega), decide_eq_false (by omega), Int.natAbs_natCast, or_near]
    · rw [if_neg (by omega), if_neg c2, wrap_in (a := 1024 + (F : Int)) (by omega) (by omega), wrap_in (a := (E : Int) - 25) (by omega) (by omega), near_some (1024 + (F : Int)) _ (by omega) (by omega) k (by omega)]
      simp only [Option.bind_some]
      rw [if_neg (by omega), decide_eq_false (by omega), show (1024 + (F : Int)).natAbs = 1024 + F from by omega, or_near]
/-- There and back. -/
theorem there_back (s : Bool) (E F : Nat) (hE : E < 32) (hF : F < 1024) (k : Nat) (hk : 5 ≤ k) : single_Half.f k (fromV s E F) = some (if E = 31 ∧ F ≠ 0 then 32256 else sgnH s + (E : Int) * 1024 + F) := by
  unfold fromV
  rcases sgn_cases s with ⟨hs0, hs, hsh⟩ | ⟨hs0, hs, hsh⟩
  all_goals
    by_cases c1 : E = 31
    · rw [if_pos c1]
      by_cases c2 : F = 0
      · rw [if_pos c2, if_neg (by omega), half_inf s _ (by omega) (by omega) (by
          unfold rawV
          rw [hs]
          simp [hs0]) k (by omega)]
        congr 1
        omega
      · rw [if_neg c2, if_pos ⟨c1, c2⟩, half_nan 2143289344 (by omega) (by omega) (by unfold rawV; decide) k (by omega)]
    · rw [if_neg c1, if_neg (show ¬ (E = 31 ∧ F ≠ 0) from fun h => c1 h.1)]
      by_cases c2 : E = 0
      · rw [if_pos c2]
        by_cases c3 : F = 0
        · subst c3
          rw [half_zero s (-149) (NR s 0 (-24)) (by unfold NR; simp [rung]; omega) (by unfold NR; simp [rung]; omega) (by
            unfold NR rawV
            rw [hs]
            simp [rung, hs0]) k (by omega)]
          congr 1
          omega
        · have hl : F.log2 < 10 := (Nat.log2_lt c3).2 (by omega)
          obtain ⟨b1, b2⟩ := log_bounds F c3
          obtain ⟨t, ht⟩ : ∃ t, F.log2 + t = 23 := ⟨23 - F.log2, by omega⟩
          have e23 : 2 ^ 23 = 8388608 := by decide
          have e24 : 2 ^ 24 = 16777216 := by decide
          have g1 : 2 ^ F.log2 * 2 ^ t ≤ F * 2 ^ t := Nat.mul_le_mul_right _ b1
          have g2 : F * 2 ^ t < 2 ^ (F.log2 + 1) * 2 ^ t := Nat.mul_lt_mul_of_pos_right b2 (pow_pos' t)
          rw [← Nat.pow_add, ht] at g1
          rw [← Nat.pow_add, show F.log2 + 1 + t = 24 by omega] at g2
          have hr := raw_of s (F * 2 ^ t) (-24 - t) (by omega) (by omega) (by omega) (by omega)
          rw [rung_scale] at hr
          have hrl := rung_le F (-24)
          rw [half_num s (F * 2 ^ t) (-24 - t) (NR s F (-24)) (by unfold NR; omega) (by unfold NR; omega) hr (by omega) (by omega) (by omega) (by omega) k (by omega), halfV_scale _ _ _ _ c3, halfV_sub s F c3 hF]
          congr 1
          omega
      · rw [if_neg c2]
        have e13 : 2 ^ 13 = 8192 := by decide
        have hr := raw_of s ((1024 + F) * 2 ^ 13) ((E : Int) - 25 - (13 : Nat)) (by rw [e13]; omega) (by rw [e13]; omega) (by omega) (by omega)
        rw [rung_scale] at hr
        have hrl := rung_le (1024 + F) ((E : Int) - 25)
        rw [half_num s ((1024 + F) * 2 ^ 13) ((E : Int) - 25 - (13 : Nat)) (NR s (1024 + F) ((E : Int) - 25)) (by unfold NR; omega) (by unfold NR; omega) hr (by rw [e13]; omega) (by rw [e13]; omega) (by omega) (by omega) k (by omega), halfV_scale _ _ _ _ (by omega), halfV_norm s (1024 + F) _ (by omega) (by omega) (by omega) (by omega)]
        congr 1
        omega
end Go.Proofs.YteecekhfpfnepaaDoor.Sg
namespace Go.Proofs.YteecekhfpfnepaaDoor.Sg
open Go.RowKit Go.Proofs.YteecekhfpfnepaaDoor.PAll Go.Proofs.YteecekhfpfnepaaDoorW.PrintWords Go.Proofs.YteecekhfpfnepaaDoorW.PrintLast Go.Proofs.YteecekhfpfnepaaDoorW.PrintMore
set_option linter.unusedVariables false
set_option linter.unusedSimpArgs false

theorem shl_i (m t : Nat) (ht : t ≤ 64) (h : m * 2 ^ t < 9223372036854775808) : shl .i64 (m : Int) (t : Int) = ((m * 2 ^ t : Nat) : Int) := by
  unfold shl
  rw [show min (t : Int).toNat IntKind.i64.bits = t from by show min (t : Int).toNat 64 = t; omega, ← cast_pow, ← Int.natCast_mul, IntKind.wrap_i64]
  obtain ⟨z, hz⟩ : ∃ z, m * 2 ^ t = z := ⟨_, rfl⟩
  rw [hz] at h ⊢
  omega
theorem shr_i (m t : Nat) (ht : t ≤ 64) : shr .i64 (m : Int) (t : Int) = ((m / 2 ^ t : Nat) : Int) := by
  unfold shr
  rw [show min (t : Int).toNat IntKind.i64.bits = t from by show min (t : Int).toNat 64 = t; omega, ← cast_pow, ← Int.natCast_ediv]
theorem shl_oneI (s : Nat) (hs : s ≤ 62) : shl .i64 1 (s : Int) = ((2 ^ s : Nat) : Int) := by
  have hp : 2 ^ s ≤ 2 ^ 62 := Nat.pow_le_pow_right (by omega) hs
  have e : 2 ^ 62 = 4611686018427387904 := by decide
  rw [show (1 : Int) = ((1 : Nat) : Int) from rfl, shl_i 1 s (by omega) (by omega), Nat.one_mul]
/-- cut, at a place. -/
theorem cut_j0 (m : Nat) (e L : Int) (hm : m < 16777216) (he0 : -149 ≤ e) (he1 : e ≤ 104) (hL0 : -200 ≤ L) (hL1 : L ≤ 300) (hup : e - L ≤ 11) (k : Nat) : heraldref03_cut.j0 (k + 1) (m : Int) e L = some (((keptQ m e L : Nat) : Int), L) := by
  simp only [heraldref03_cut.j0]
  unfold keptQ
  by_cases hs : L ≤ e
  · obtain ⟨t, ht⟩ : ∃ t, (e - L).toNat = t := ⟨_, rfl⟩
    have h2 : 2 ^ t ≤ 2 ^ 11 := Nat.pow_le_pow_right (by omega) (by omega)
    have h3 : m * 2 ^ t ≤ 16777216 * 2048 := Nat.mul_le_mul (by omega) h2
    rw [if_pos hs, wrap_in (a := e - L) (by omega) (by omega), show e - L = (t : Int) from by omega, u64_in (a := (t : Int)) (by omega) (by omega), if_pos (by omega), shl_i m t (by omega) (by omega), show (L - e).toNat = 0 by omega, rhe_zero, Int.toNat_natCast, Nat.shiftLeft_eq]
  · obtain ⟨s, hs'⟩ : ∃ s, (L - e).toNat = s := ⟨_, rfl⟩
    have hse : L - e = (s : Int) := by omega
    rw [if_neg hs, wrap_in (a := L - e) (by omega) (by omega), hse, show (e - L).toNat = 0 by omega, Nat.shiftLeft_zero, Int.toNat_natCast]
    by_cases h60 : s > 60
    · have : 2 ^ 61 ≤ 2 ^ s := Nat.pow_le_pow_right (by omega) (by omega)
      have e2 : 2 ^ 61 = 2305843009213693952 := by decide
      rw [if_pos (by omega), rhe_small (by omega)]
      rfl
    · have hmul : m / 2 ^ s * 2 ^ s ≤ m := Nat.div_mul_le_self _ _
      have hph := pow_half s (by omega)
      have hp1 := pow_pos' (s - 1)
      rw [if_neg (by omega), u64_in (a := (s : Int)) (by omega) (by omega), if_pos (by omega), wrap_in (a := (s : Int) - 1) (by omega) (by omega), show (s : Int) - 1 = ((s - 1 : Nat) : Int) from by omega, u64_in (a := ((s - 1 : Nat) : Int)) (by omega) (by omega), if_pos (by omega), shr_i m s (by omega), shl_i _ s (by omega) (by omega), shl_oneI (s - 1) (by omega)]
      have hdm := Nat.div_add_mod m (2 ^ s)
      have hmod : m % 2 ^ s < 2 ^ s := Nat.mod_lt _ (pow_pos' s)
      have hql : m / 2 ^ s ≤ m := Nat.div_le_self _ _
      unfold rhe
      rw [Nat.mul_comm] at hdm
      obtain ⟨q, hq⟩ : ∃ q, m / 2 ^ s = q := ⟨_, rfl⟩
      obtain ⟨qs, hqs⟩ : ∃ qs, q * 2 ^ s = qs := ⟨_, rfl⟩
      obtain ⟨rr, hrr⟩ : ∃ rr, m % 2 ^ s = rr := ⟨_, rfl⟩
      obtain ⟨hh, hhh⟩ : ∃ hh, 2 ^ (s - 1) = hh := ⟨_, rfl⟩
      rw [hq] at hdm hmul hql ⊢
      rw [hqs] at hdm hmul ⊢
      rw [hrr] at hmod hdm ⊢
      rw [hhh] at hph hp1 ⊢
      rw [hph] at hmod ⊢
      rw [wrap_in (a := (m : Int) - (qs : Int)) (by omega) (by omega), show (m : Int) - (qs : Int) = (rr : Int) from by omega, wrap_in (a := (q : Int) + 1) (by omega) (by omega), Int.tmod_eq_emod_of_nonneg (by omega)]
      by_cases c1 : rr > hh
      · rw [if_pos (by omega), if_pos (.inl (by omega))]; rfl
      · rw [if_neg (by omega)]
        by_cases c2 : rr = hh
        · rw [if_pos (by omega)]
          by_cases c3 : q % 2 = 1
          · rw [if_pos (by omega), if_pos (.inr ⟨by omega, c3⟩)]; rfl
          · rw [if_neg (by omega), if_neg (by omega)]; rfl
        · rw [if_neg (by omega), if_neg (by omega)]; rfl
theorem cut_some (m : Nat) (e : Int) (h0 : m ≠ 0) (hm : m < 16777216) (he0 : -149 ≤ e) (he1 : e ≤ 104) (k : Nat) (hk : 80 ≤ k) : heraldref03_cut.f k (m : Int) e 11 (-24) = some (((keptH m e : Nat) : Int), lastH m e) := by
  obtain ⟨k, rfl⟩ : ∃ j, k = j + 1 := ⟨k - 1, by omega⟩
  have hl : m.log2 < 24 := (Nat.log2_lt h0).2 (by omega)
  have hlp : lastH m e = max (e + m.log2 - 10) (-24) := rfl
  have hc := cut_j0 m e (lastH m e) hm he0 he1 (by omega) (by omega) (by omega) k
  unfold heraldref03_cut.f
  rw [u64_in (by omega) (by omega), length_some m (k + 1) (by omega) (by omega), lenI_log m h0]
  simp only [Option.bind_some]
  rw [wrap_in (a := e + _) (by omega) (by omega), wrap_in (by omega) (by omega)]
  split
  · rw [show lastH m e = -24 from by omega] at hc; rw [hc]; unfold keptH; rw [show lastH m e = -24 from by omega]
  · rw [show e + ((m.log2 : Int) + 1) - 11 = lastH m e from by omega, hc]; rfl
theorem cut_zero (e : Int) (he0 : -149 ≤ e) (he1 : e ≤ 104) (k : Nat) (hk : 80 ≤ k) : ∃ L, heraldref03_cut.f k 0 e 11 (-24) = some (0, L) := by
  obtain ⟨k, rfl⟩ : ∃ j, k = j + 1 := ⟨k - 1, by omega⟩
  have hq : ∀ L, keptQ 0 e L = 0 := by
    intro L; unfold keptQ
    rw [Nat.zero_shiftLeft]
    exact rhe_small (by have := pow_pos' (L - e).toNat; omega)
  unfold heraldref03_cut.f
  have hlen := length_some 0 (k + 1) (by omega) (by omega)
  have l0 : lenI ((0 : Nat) : Int) = 0 := rfl
  rw [l0] at hlen
  rw [show IntKind.u64.wrap 0 = ((0 : Nat) : Int) from rfl, hlen]
  simp only [Option.bind_some]
  rw [wrap_in (a := e + 0) (by omega) (by omega), wrap_in (by omega) (by omega)]
  split
  · have := cut_j0 0 e (-24) (by omega) he0 he1 (by omega) (by omega) (by omega) k
    rw [hq] at this
    exact ⟨_, this⟩
  · have := cut_j0 0 e (e + 0 - 11) (by omega) he0 he1 (by omega) (by omega) (by omega) k
    rw [hq] at this
    exact ⟨_, this⟩
theorem refhalf_j1 (neg : Bool) (last : Int) (q k : Nat) (h1 : -24 ≤ last) (h2 : last ≤ 1000) (hq : q < 2048) : heraldref03_Half.j1 (k + 1) (sgnH neg) (q : Int) last = some (finH (sgnH neg) last q) := by
  have hs : sgnH neg = 0 ∨ sgnH neg = 32768 := by cases neg <;> simp [sgnH]
  simp only [heraldref03_Half.j1]
  unfold finH
  by_cases c1 : q < 1024
  · rw [if_pos (by omega), if_pos c1, u16_in (a := (q : Int)) (by omega) (by omega), u16_in (by omega) (by omega)]
  · rw [if_neg (by omega), if_neg c1]
    by_cases c2 : last + 25 ≥ 31
    · rw [if_pos (by omega), if_pos c2, u16_in (by omega) (by omega)]
    · rw [if_neg (by omega), if_neg c2, wrap_in (a := last + 25) (by omega) (by omega), u16_in (a := last + 25) (by omega) (by omega), u16_in (a := (last + 25) * 1024) (by omega) (by omega), u16_in (a := sgnH neg + (last + 25) * 1024) (by omega) (by omega), wrap_in (a := (q : Int) - 1024) (by omega) (by omega), u16_in (a := (q : Int) - 1024) (by omega) (by omega), u16_in (by omega) (by omega)]
theorem refhalf_j0 (neg : Bool) (m : Nat) (e : Int) (hm : m < 16777216) (he0 : -149 ≤ e) (he1 : e ≤ 104) (k : Nat) (hk : 90 ≤ k) : heraldref03_Half.j0 k 0 (m : Int) e (sgnH neg) = some (if m = 0 then sgnH neg else halfV (sgnH neg) m e) := by
  obtain ⟨k, rfl⟩ : ∃ j, k = j + 2 := ⟨k - 2, by omega⟩
  have hs : sgnH neg = 0 ∨ sgnH neg = 32768 := by cases neg <;> simp [sgnH]
  simp only [heraldref03_Half.j0]
  rw [if_neg (by decide), if_neg (by decide)]
  by_cases h0 : m = 0
  · subst h0
    obtain ⟨L, hL⟩ := cut_zero e he0 he1 (k + 1) (by omega)
    rw [show ((0 : Nat) : Int) = 0 from rfl, hL]
    simp only [Option.bind_some]
    rw [if_neg (by decide)]
    simp only [heraldref03_Half.j1]
    rw [if_pos (by decide), show IntKind.u16.wrap 0 = 0 from rfl, Int.add_zero, u16_in (by omega) (by omega), if_pos trivial]
  · have hl : m.log2 < 24 := (Nat.log2_lt h0).2 (by omega)
    have hlp : lastH m e = max (e + m.log2 - 10) (-24) := rfl
    have hq := keptH_up m e h0
    rw [cut_some m e h0 hm he0 he1 (k + 1) (by omega), if_neg h0]
    simp only [Option.bind_some]
    unfold halfV
    by_cases c3 : keptH m e = 2048
    · rw [if_pos (by omega), if_pos c3, wrap_in (by omega) (by omega), show (1024 : Int) = ((1024 : Nat) : Int) from rfl, refhalf_j1 neg _ _ k (by omega) (by omega) (by omega)]
    · rw [if_neg (by omega), if_neg c3, refhalf_j1 neg _ _ k (by omega) (by omega) (by omega)]
/-- The two Halves are one. -/
theorem halves_same (a : Int) (h0 : 0 ≤ a) (h1 : a < 4294967296) (k : Nat) (hk : 100 ≤ k) : ∃ v, single_Half.f k a = some v ∧ heraldref03_Half.f k a = some v := by
  rcases raw_cases a h0 h1 with ⟨ra, _⟩ | ⟨s, ra, _⟩ | ⟨s, m, e, ra, _, fa⟩
  · refine ⟨32256, half_nan a h0 h1 ra k (by omega), ?_⟩
    obtain ⟨k, rfl⟩ : ∃ j, k = j + 1 := ⟨k - 1, by omega⟩
    unfold heraldref03_Half.f
    rw [raw_some a h0 h1, ra]
    simp [heraldref03_Half.j0]
  · refine ⟨_, half_inf s a h0 h1 ra k (by omega), ?_⟩
    obtain ⟨k, rfl⟩ : ∃ j, k = j + 1 := ⟨k - 1, by omega⟩
    unfold heraldref03_Half.f
    rw [raw_some a h0 h1, ra]
    cases s
    · simp only [Option.bind_some, heraldref03_Half.j0]; rfl
    · simp only [Option.bind_some, heraldref03_Half.j0]; rfl
  · have hb : m < 16777216 ∧ -149 ≤ e ∧ e ≤ 104 := by rcases fa.form with ⟨g1, g2⟩ | ⟨g1, g2, g3, g4⟩ <;> omega
    have hj := fun neg => refhalf_j0 neg m e hb.1 hb.2.1 hb.2.2 k (by omega)
    refine ⟨if m = 0 then sgnH s else halfV (sgnH s) m e, ?_, ?_⟩
    · by_cases c : m = 0
      · subst c
        rw [if_pos rfl]
        exact half_zero s e a h0 h1 ra k (by omega)
      · rw [if_neg c]
        exact half_num s m e a h0 h1 ra c hb.1 hb.2.1 hb.2.2 k (by omega)
    · unfold heraldref03_Half.f
      rw [raw_some a h0 h1, ra]
      simp only [Option.bind_some]
      cases s
      · rw [if_neg (by decide)]; exact hj false
      · rw [if_pos rfl]; exact hj true
theorem from_same (n : Nat) (hn : n < 65536) (k : Nat) (hk : 100 ≤ k) : ∃ v, single_FromHalf.f k (n : Int) = some v ∧ heraldref03_FromHalf.f k (n : Int) = some v := by
  obtain ⟨E, hE⟩ : ∃ E, n / 1024 % 32 = E := ⟨_, rfl⟩
  obtain ⟨F, hF⟩ : ∃ F, n % 1024 = F := ⟨_, rfl⟩
  obtain ⟨s, hs⟩ : ∃ s, decide (32768 ≤ n) = s := ⟨_, rfl⟩
  refine ⟨_, from_some n hn s E F hE hF hs k (by omega), ?_⟩
  have ed : decide ((32768 : Int) ≤ (n : Int)) = s := by
    rw [← hs]
    by_cases c : 32768 ≤ n
    · rw [decide_eq_true c, decide_eq_true (by omega)]
    · rw [decide_eq_false c, decide_eq_false (by omega)]
  unfold heraldref03_FromHalf.f fromV
  rw [if_pos ⟨by omega, by omega⟩, ed, show (n : Int) / 1024 % 32 = (E : Int) from by omega, show (n : Int) % 1024 = (F : Int) from by omega]
  have hE1 : E < 32 := by omega
  have hF1 : F < 1024 := by omega
  by_cases c1 : E = 31
  · rw [if_pos (by omega), if_pos c1]
    by_cases c2 : F = 0
    · rw [if_neg (by omega), if_pos c2]
      by_cases c3 : 32768 ≤ n
      · rw [if_pos (by omega)]
        rw [decide_eq_true c3] at hs
        subst hs; rfl
      · rw [if_neg (by omega)]
        rw [decide_eq_false c3] at hs
        subst hs; rfl
    · rw [if_pos (by omega), if_neg c2]
  · rw [if_neg (by omega), if_neg c1]
    by_cases c2 : E = 0
    · rw [if_pos (by omega), if_pos c2, refnear_some s F _ (by omega) k (by omega)]
    · rw [if_neg (by omega), if_neg c2, show 1024 + (F : Int) = ((1024 + F : Nat) : Int) from by omega, refnear_some s (1024 + F) _ (by omega) k (by omega)]
theorem parts_kind (a : Int) : (partsV a).1 = (rawV a).1 := by
  unfold partsV
  split
  split <;> simp_all
theorem brain_same (a : Int) (h0 : 0 ≤ a) (h1 : a < 4294967296) : ∃ v, single_Brain.f a = some v ∧ heraldref03_Brain.f a = some v := by
  unfold single_Brain.f heraldref03_Brain.f
  rw [parts_some a h0 h1, raw_some a h0 h1]
  simp only [Option.bind_some, parts_kind]
  by_cases c : (rawV a).1 = 2
  · rw [if_pos c, if_pos c]; exact ⟨_, rfl, rfl⟩
  · rw [if_neg c, if_neg c]
    have hlim : a % 2147483648 ≤ 2139095040 := by
      rcases raw_cases a h0 h1 with ⟨ra, _⟩ | ⟨s, ra, _, hw⟩ | ⟨s, m, e, ra, _, fa⟩
      · rw [ra] at c; exact absurd rfl c
      · rcases sgn_cases s with ⟨_, hs, _⟩ | ⟨_, hs, _⟩ <;> rw [hs] at hw <;> omega
      · have hw := fa.word
        have hl := rung_le m e
        rcases sgn_cases s with ⟨_, hs, _⟩ | ⟨_, hs, _⟩ <;> rw [hs] at hw <;> omega
    have hlim2 : a + 32768 < 4294967296 := by omega
    obtain ⟨q, hq⟩ : ∃ q : Nat, a / 65536 = (q : Int) := ⟨(a / 65536).toNat, by omega⟩
    have hq1 : q < 65536 := by omega
    have hand : bits .and .u32 (a / 65536) 1 = ((q % 2 : Nat) : Int) := by
      rw [hq, show (1 : Int) = ((1 : Nat) : Int) from rfl, and32 _ _ (by omega) (by omega), Nat.and_one_is_mod]
    obtain ⟨b, hb⟩ : ∃ b, q % 2 = b := ⟨_, rfl⟩
    have hb1 : b ≤ 1 := by omega
    rw [hand, Int.tmod_eq_emod_of_nonneg h0, Int.tdiv_eq_ediv_of_nonneg h0, hq, hb]
    have e1 : (a + 32767) % 4294967296 = a + 32767 := Int.emod_eq_of_lt (by omega) (by omega)
    have e2 : (a + 32767 + (b : Int)) % 4294967296 = a + 32767 + (b : Int) := Int.emod_eq_of_lt (by omega) (by omega)
    have e3 : (q : Int) % 4294967296 = (q : Int) := Int.emod_eq_of_lt (by omega) (by omega)
    rw [e1, e2, e3]
    refine ⟨_, rfl, ?_⟩
    by_cases c1 : a % 65536 > 32768
    · rw [if_pos c1, show ((q : Int) + 1) % 4294967296 = (q : Int) + 1 from Int.emod_eq_of_lt (by omega) (by omega), u16_in (by omega) (by omega)]
      exact congrArg some (by omega)
    · rw [if_neg c1]
      by_cases c2 : a % 65536 = 32768
      · rw [if_pos c2]
        by_cases c3 : (q : Int) % 2 = 1
        · rw [if_pos c3, show ((q : Int) + 1) % 4294967296 = (q : Int) + 1 from Int.emod_eq_of_lt (by omega) (by omega), u16_in (by omega) (by omega)]
          exact congrArg some (by omega)
        · rw [if_neg c3, u16_in (by omega) (by omega)]
          exact congrArg some (by omega)
      · rw [if_neg c2, u16_in (by omega) (by omega)]
        exact congrArg some (by omega)
theorem frombrain_same (a : Int) (h0 : 0 ≤ a) (h1 : a < 65536) : ∃ v, single_FromBrain.f a = some v ∧ heraldref03_FromBrain.f a = some v := by
  unfold single_FromBrain.f heraldref03_FromBrain.f
  obtain ⟨x, hx⟩ : ∃ x, a % 4294967296 * 65536 % 4294967296 = x := ⟨_, rfl⟩
  have hx0 : 0 ≤ x := by omega
  have hx1 : x < 4294967296 := by omega
  rw [hx, parts_some x hx0 hx1, raw_some x hx0 hx1]
  simp only [Option.bind_some, parts_kind]
  by_cases c : (rawV x).1 = 2
  · rw [if_pos c]; exact ⟨_, rfl, rfl⟩
  · rw [if_neg c]; exact ⟨_, rfl, rfl⟩
end Go.Proofs.YteecekhfpfnepaaDoor.Sg
end

section
/- The nearest whole number, up to 127. -/
namespace Go.Proofs.YteecekhfpfnepaaDoor.Sg
open Go.RowKit Go.Proofs.YteecekhfpfnepaaDoor.PAll Go.Proofs.YteecekhfpfnepaaDoorW.PrintWords Go.Proofs.YteecekhfpfnepaaDoorW.PrintLast Go.Proofs.YteecekhfpfnepaaDoorW.PrintMore
set_option linter.unusedVariables false
set_option linter.unusedSimpArgs false

/-- The whole number nearest to m 2^e. -/
def wholeN (m : Nat) (e : Int) : Nat := keptQ m e 0
theorem wholeN_scale (m t : Nat) (e : Int) : wholeN (m * 2 ^ t) (e - t) = wholeN m e := keptQ_scale m t e 0
theorem wholeN_up (m t : Nat) : wholeN m (t : Int) = m * 2 ^ t := by
  unfold wholeN keptQ
  rw [show ((t : Int) - 0).toNat = t by omega, show (0 - (t : Int)).toNat = 0 by omega, rhe_zero, Nat.shiftLeft_eq]
theorem wholeN_down (m s : Nat) : wholeN m (-(s : Int)) = rhe m s := by
  unfold wholeN keptQ
  rw [show (-(s : Int) - 0).toNat = 0 by omega, show (0 - -(s : Int)).toNat = s by omega, Nat.shiftLeft_zero]
theorem wholeN_big (m : Nat) (e : Int) (h0 : m ≠ 0) (h : 7 < (m.log2 : Int) + e) : 127 < wholeN m e := by
  obtain ⟨b1, b2⟩ := log_bounds m h0
  have e8 : 2 ^ 8 = 256 := by decide
  by_cases c : 0 ≤ e
  · obtain ⟨t, rfl⟩ := Int.eq_ofNat_of_zero_le c
    rw [wholeN_up]
    have h1 : 2 ^ m.log2 * 2 ^ t ≤ m * 2 ^ t := Nat.mul_le_mul_right _ b1
    rw [← Nat.pow_add] at h1
    have h2 : 2 ^ 8 ≤ 2 ^ (m.log2 + t) := Nat.pow_le_pow_right (by omega) (by omega)
    omega
  · obtain ⟨s, hs⟩ : ∃ s : Nat, e = -(s : Int) := ⟨(-e).toNat, by omega⟩
    subst hs
    rw [wholeN_down]
    have h1 := (rhe_le m s).1
    have h2 : 2 ^ 8 ≤ m / 2 ^ s := by
      rw [Nat.le_div_iff_mul_le (pow_pos' s), ← Nat.pow_add]
      exact Nat.le_trans (Nat.pow_le_pow_right (by omega) (by omega)) b1
    omega
theorem wholeN_none (m : Nat) (e : Int) (h0 : m ≠ 0) (h : (m.log2 : Int) + 1 + e < -1) : wholeN m e = 0 := by
  obtain ⟨b1, b2⟩ := log_bounds m h0
  obtain ⟨s, hs⟩ : ∃ s : Nat, e = -(s : Int) := ⟨(-e).toNat, by omega⟩
  subst hs
  rw [wholeN_down]
  apply rhe_small
  have h2 : 2 ^ (m.log2 + 1 + 1) ≤ 2 ^ s := Nat.pow_le_pow_right (by omega) (by omega)
  rw [Nat.pow_succ] at h2
  omega
/-- The program's whole. -/
theorem whole_some (k0 : Int) (s : Bool) (m : Nat) (e scale : Int) (h0 : m ≠ 0) (hm : m < 16777216) (he0 : -149 ≤ e) (he1 : e ≤ 150) (hs0 : -64 ≤ scale) (hs1 : scale ≤ 64) :
    single_whole.f k0 s (m : Int) e scale = some (if 127 < wholeN m (e + scale) then (0, false) else ((if s then -(wholeN m (e + scale) : Int) else (wholeN m (e + scale) : Int)), true)) := by
  unfold single_whole.f
  rw [if_neg (by omega), wrap_in (a := e + scale) (by omega) (by omega)]
  by_cases c1 : e + scale > 7
  · have hb := wholeN_big m (e + scale) h0 (by omega)
    rw [if_pos c1, if_pos hb]
  · rw [if_neg c1, u64_in (by omega) (by omega), wrap_in (a := -(e + scale)) (by omega) (by omega)]
    have hd : single_down.f (m : Int) (-(e + scale)) = some ((wholeN m (e + scale) : Nat) : Int) := by
      by_cases c2 : 0 ≤ e + scale
      · obtain ⟨t, ht⟩ := Int.eq_ofNat_of_zero_le c2
        have h2 : 2 ^ t ≤ 2 ^ 7 := Nat.pow_le_pow_right (by omega) (by omega)
        have h3 : m * 2 ^ t ≤ 16777216 * 128 := Nat.mul_le_mul (by omega) h2
        rw [ht, wholeN_up, down_up m t (by omega) (by omega) _ rfl]
      · obtain ⟨q, hq⟩ : ∃ q : Nat, -(e + scale) = (q : Int) := ⟨(-(e + scale)).toNat, by omega⟩
        rw [show e + scale = -(q : Int) from by omega, wholeN_down, Int.neg_neg, down_down m q (by omega) (by omega) (by omega)]
    rw [hd]
    simp only [Option.bind_some]
    obtain ⟨W, hW⟩ : ∃ W, wholeN m (e + scale) = W := ⟨_, rfl⟩
    rw [hW]
    by_cases c3 : 127 < W
    · rw [if_pos (by omega), if_pos c3]
    · rw [if_neg (by omega), if_neg c3]
      have i8 : ∀ x : Int, -128 ≤ x → x ≤ 127 → IntKind.i8.wrap x = x := by
        intro x g0 g1
        simp [IntKind.wrap, IntKind.bits, IntKind.signed]
        split <;> omega
      cases s
      · rw [if_neg (by decide), i8 _ (by omega) (by omega)]; rfl
      · rw [if_pos rfl, wrap_in (a := (W : Int)) (by omega) (by omega), wrap_in (a := -(W : Int)) (by omega) (by omega), i8 _ (by omega) (by omega)]; rfl
theorem whole_zero (k0 : Int) (s : Bool) (e scale : Int) : single_whole.f k0 s 0 e scale = some (0, true) := by
  unfold single_whole.f; rw [if_pos rfl]
end Go.Proofs.YteecekhfpfnepaaDoor.Sg
end

section
-- Written by a program of this session out of the translation. Lean checks it.
namespace Go.Proofs.YteecekhfpfnepaaDoor.PAll
open Go.RowKit Go.Proofs.YteecekhfpfnepaaDoorW.PrintWords Go.Proofs.YteecekhfpfnepaaDoorW.PrintLast Go.Proofs.YteecekhfpfnepaaDoorW.PrintMore
attribute [local go_sem] max2_int min2_int max_two min_two max_three min_three max_four min_four   -- for this text's walks alone
set_option linter.unusedVariables false
set_option linter.unusedSimpArgs false

/-! ### single_At: function 17 -/
mutual
def single_At.j0 : Nat → List Int → Int → Bool → Option (List Int × Int)
  | 0, _, _, _ => none
  | k + 1, x0, x1, x17 => if x17 = true then (some (([] : List Int), 31)) else (single_At.l0 k x1 ([] : List (S24)) x0 (x0.length : Int) 0)
def single_At.l0 : Nat → Int → List (S24) → List Int → Int → Int → Option (List Int × Int)
  | 0, _, _, _, _, _ => none
  | k + 1, x1, x6, x18, x19, x20 => if x20 < x19 then (if 0 ≤ x20 then (if x20 < (x18.length : Int) then ((single_Parts.f (rd x18 x20)).bind fun bt198 => (if bt198.1 = 0 then (if x6.length < 4398046511104 then (single_At.l0 k x1 (x6 ++ [(⟨bt198.1, bt198.2.1, bt198.2.2.1, bt198.2.2.2⟩ : S24)]) x18 x19 (wrap64 (x20 + 1))) else (none)) else (some (([] : List Int), 30)))) else (none)) else (none)) else ((single_wholes.f k x6 x1).bind fun bt206 => (if bt206.2 = true then (some (bt206.1, 0)) else (some (([] : List Int), 31))))
end
def single_At.f (k : Nat) (l0 : List Int) (a1 : Int) : Option (List Int × Int) := if a1 < (-64) then (single_At.j0 k l0 a1 true) else (single_At.j0 k l0 a1 (decide (a1 > 64)))
theorem single_At.mono_l : ∀ k, (∀ y0 y1 y2, LeO (single_At.j0 k y0 y1 y2) (single_At.j0 (k + 1) y0 y1 y2)) ∧ (∀ y0 y1 y2 y3 y4, LeO (single_At.l0 k y0 y1 y2 y3 y4) (single_At.l0 (k + 1) y0 y1 y2 y3 y4))
  | 0 => ⟨fun _ _ _ r h => by simp [single_At.j0] at h, fun _ _ _ _ _ r h => by simp [single_At.l0] at h⟩
  | k + 1 => by
    obtain ⟨ih0, ih1⟩ := single_At.mono_l k
    refine ⟨?_, ?_⟩
    · intro y0 y1 y2
      unfold single_At.j0
      repeat' first
      | (with_reducible exact ih0 _ _ _)
      | (with_reducible exact ih1 _ _ _ _ _)
      | (with_reducible exact single_wholes.mono _ _ _)
      | (with_reducible exact LeO.refl _)
      | (with_reducible exact LeO.none _)
      | (with_reducible refine LeO.ite ?_ ?_)
      | (with_reducible refine LeO.bind ?_ (fun _ => ?_))
      | exact ih0 _ _ _
      | exact ih1 _ _ _ _ _
      | exact single_wholes.mono _ _ _
      | exact LeO.none _
      | refine LeO.ite ?_ ?_
      | refine LeO.bind ?_ (fun _ => ?_)
    · intro y0 y1 y2 y3 y4
      unfold single_At.l0
      repeat' first
      | (with_reducible exact ih0 _ _ _)
      | (with_reducible exact ih1 _ _ _ _ _)
      | (with_reducible exact single_wholes.mono _ _ _)
      | (with_reducible exact LeO.refl _)
      | (with_reducible exact LeO.none _)
      | (with_reducible refine LeO.ite ?_ ?_)
      | (with_reducible refine LeO.bind ?_ (fun _ => ?_))
      | exact ih0 _ _ _
      | exact ih1 _ _ _ _ _
      | exact single_wholes.mono _ _ _
      | exact LeO.none _
      | refine LeO.ite ?_ ?_
      | refine LeO.bind ?_ (fun _ => ?_)
theorem single_At.mono : ∀ a0 a1 k, LeO (single_At.f k a0 a1) (single_At.f (k + 1) a0 a1) := by
  intro a0 a1 k
  obtain ⟨ih0, ih1⟩ := single_At.mono_l k
  unfold single_At.f
  repeat' first
      | (with_reducible exact ih0 _ _ _)
      | (with_reducible exact ih1 _ _ _ _ _)
      | (with_reducible exact single_wholes.mono _ _ _)
      | (with_reducible exact LeO.refl _)
      | (with_reducible exact LeO.none _)
      | (with_reducible refine LeO.ite ?_ ?_)
      | (with_reducible refine LeO.bind ?_ (fun _ => ?_))
      | exact ih0 _ _ _
      | exact ih1 _ _ _ _ _
      | exact single_wholes.mono _ _ _
      | exact LeO.none _
      | refine LeO.ite ?_ ?_
      | refine LeO.bind ?_ (fun _ => ?_)
set_option maxHeartbeats 8000000 in
set_option maxRecDepth 100000 in
theorem single_At.calls (k : Nat) (A0 : Option Addr) (c0 : Nat) (l0 : List Int) (a1 : Int) (r1 : List Int) (r2 : Int) (w : World) (hr0 : Kd.C (Kd.int .u32) w A0 l0.length l0) (hc0 : l0.length ≤ c0) (h : single_At.f k l0 a1 = some (r1, r2)) (hTab : Tab w) :
    Calls Tryd.prog 17 #[.slice A0 l0.length c0, .int .i64 a1] w fun e w' => ∃ v0_ : Value, e = .returned (.tuple #[v0_, .int .i64 r2]) ∧ Kd.R (Kd.int .i8) 47 w' w.heap.size (fun _ => True) v0_ r1 ∧ Below w.heap.size w w' := by
  have HTab := Aside0.mk hTab
  clear hTab
  have hu24 := Tryd.underlying24
  have HR0 := Aside0.mk hr0
  have HC0 := Aside0.mk hc0
  clear hr0 hc0
  have HB := Aside0.mk (Below.refl w.heap.size w)
  have H : (if a1 < (-64) then (single_At.j0 k l0 a1 true) else (single_At.j0 k l0 a1 (decide (a1 > 64)))) = some (r1, r2) := h
  clear h
  have HC3 := Aside0.mk H
  clear H
  go_enter Tryd.func17, Tryd.ntmps17
  go_upto_region 1 with (fail)
  go_cut [17] (fun v17 wc => ∃ (kq : Nat) (x17_2 : Bool), v17 = .bool x17_2 ∧ Aside0 (single_At.j0 kq l0 a1 x17_2 = some (r1, r2)) ∧ Aside0 (kq ≤ k) ∧ Aside0 (Below w.heap.size w wc))
  case first =>
    have H := HC3.out
    clear HC3
    by_cases c4 : a1 < (-64)
    · rw [if_pos c4] at H
      have c4b0 : decide (a1 < (-64)) = true := decide_eq_true c4
      clear c4
      (first | rw [c4b0] | (simp only [i64_w, i32_w]; rw [c4b0]) | skip)
      have H' := Aside0.mk H
      clear H
      go_wp2
      go_meet
      case rel => exact ⟨_, (true), (by first | rfl | (simp; done) | (simp [*]; done) | (simp [i64_w]; done) | (simp [*, i64_w]; done)), H', ⟨by first | omega | exact Nat.le_refl _⟩, ⟨by repeat (first | (with_reducible first | exact HB.out | apply below_alloc | apply pw_below_drewN | apply below_drew1) | exact HB.out)⟩⟩
    · rw [if_neg c4] at H
      have c4b0 : decide (a1 < (-64)) = false := decide_eq_false c4
      clear c4
      (first | rw [c4b0] | (simp only [i64_w, i32_w]; rw [c4b0]) | skip)
      have H' := Aside0.mk H
      clear H
      go_wp2
      go_meet
      case rel => exact ⟨_, (decide (a1 > 64)), (by first | rfl | (simp; done) | (simp [*]; done) | (simp [i64_w]; done) | (simp [*, i64_w]; done)), H', ⟨by first | omega | exact Nat.le_refl _⟩, ⟨by repeat (first | (with_reducible first | exact HB.out | apply below_alloc | apply pw_below_drewN | apply below_drew1) | exact HB.out)⟩⟩
  case rest =>
    clear HC3
    try clear c1
    try clear p2
    try clear c4
    try clear c4b0
    obtain ⟨kq, x17_2, rfl, HA, HJ2, HB⟩ := hcut
    cases kq with
    | zero => exact absurd HA.out (by simp [single_At.j0])
    | succ kj2 =>
      have H := HA.out
      clear HA
      simp only [single_At.j0] at H
      by_cases c5 : x17_2 = true
      · subst c5
        have H1 : (some (([] : List Int), 31)) = some (r1, r2) := by rw [if_pos rfl] at H; exact H
        clear H
        have H := H1
        clear H1
        simp only [Option.some.injEq, Prod.mk.injEq] at H
        obtain ⟨rfl, rfl⟩ := H
        go_wp2
        go_ret2
        exact ⟨_, by first | rfl | (simp [errW_none, errW_some] <;> rfl) | (simp [*, errW_none, errW_some] <;> rfl), by first | exact Kd.R_nil _ _ _ _ _ | exact Kd.N_nil _ _ _ _ _ | exact Kd.V_nil _ _ _ _ _ | exact Kd.Q_nil _ _ _ _ _ | exact Kd.S_nil _ _ _ _ _, by repeat (first | (with_reducible first | exact HB.out | apply below_alloc | apply pw_below_drewN | apply below_drew1) | exact HB.out)⟩
      · replace c5 := Bool.eq_false_iff.mpr c5
        subst c5
        have H1 : (single_At.l0 kj2 a1 ([] : List (S24)) l0 (l0.length : Int) 0) = some (r1, r2) := by rw [if_neg (show ¬ (false = true) by decide)] at H; exact H
        clear H
        have H := H1
        clear H1
        have H' := Aside0.mk H
        clear H
        go_wp2
        go_loopg [6, 20] kj2 (fun kq v6 v20 w' => ∃ (x6_2 : List (S24)) (x20_2 : Int), v20 = .int .i64 x20_2 ∧ Aside0 (single_At.l0 kq a1 x6_2 l0 (l0.length : Int) x20_2 = some (r1, r2)) ∧ Aside0 (kq ≤ kj2) ∧ Aside0 (Kd.R k24 24 w' w.heap.size (fun _ => True) v6 x6_2) ∧ Aside0 (Below w.heap.size w w'))
        case atStart => exact ⟨(([] : List (S24))), (0), (by first | rfl | (simp; done) | (simp [*]; done) | (simp [i64_w]; done) | (simp [*, i64_w]; done)), H', ⟨Nat.le_refl _⟩, ⟨by first | exact Kd.R_nil _ _ _ _ _ | exact Kd.N_nil _ _ _ _ _ | exact Kd.V_nil _ _ _ _ _ | exact Kd.Q_nil _ _ _ _ _ | exact Kd.S_nil _ _ _ _ _⟩, ⟨by repeat (first | (with_reducible first | exact HB.out | apply below_alloc | apply pw_below_drewN | apply below_drew1) | exact HB.out)⟩⟩
        case round =>
          clear H'
          try clear c1
          try clear p2
          try clear c4
          try clear c4b0
          try clear c5
          try clear p2
          obtain ⟨x6_2, x20_2, rfl, HA, HK2, HO_6, HB⟩ := hrel
          cases gk with
          | zero => exact absurd HA.out (by simp [single_At.l0])
          | succ k2 =>
            have H := HA.out
            clear HA
            simp only [single_At.l0] at H
            by_cases c6 : x20_2 < (l0.length : Int)
            · rw [if_pos c6] at H
              have c6b0 : decide (x20_2 < (l0.length : Int)) = true := decide_eq_true c6
              clear c6
              by_cases c7 : 0 ≤ x20_2
              · rw [if_pos c7] at H
                have c7b0 : decide (0 ≤ x20_2) = true := decide_eq_true c7
                clear c7
                by_cases c8 : x20_2 < (l0.length : Int)
                · rw [if_pos c8] at H
                  have c8b0 : decide (x20_2 < (l0.length : Int)) = true := decide_eq_true c8
                  clear c8
                  replace H := Option.bind_eq_some_iff.mp H
                  obtain ⟨⟨t198, t199, t200, t201⟩, A90, H⟩ := H
                  replace H : (if t198 = 0 then (if x6_2.length < 4398046511104 then (single_At.l0 k2 a1 (x6_2 ++ [(⟨t198, t199, t200, t201⟩ : S24)]) l0 (l0.length : Int) (wrap64 (x20_2 + 1))) else (none)) else (some (([] : List Int), 30))) = some (r1, r2) := H
                  have A9 := Aside0.mk A90
                  clear A90
                  by_cases c10 : t198 = 0
                  · rw [if_pos c10] at H
                    have c10b0 : (t198 == 0) = true := beq_iff_eq.mpr c10
                    have c10b1 : (t198 != 0) = false := bne_eq_false_iff_eq.mpr c10
                    clear c10
                    by_cases c11 : x6_2.length < 4398046511104
                    · rw [if_pos c11] at H
                      have LMc11 := Aside0.mk c11
                      clear c11
                      obtain ⟨y203, hy203⟩ : ∃ y_ : List (S24), y_ = (x6_2 ++ [(⟨t198, t199, t200, t201⟩ : S24)]) := ⟨_, rfl⟩
                      replace H : (single_At.l0 k2 a1 y203 l0 (l0.length : Int) (wrap64 (x20_2 + 1))) = some (r1, r2) := by first | (rw [hy203]; with_reducible exact H) | (have H2_ := (Option.bind_some _ _).symm.trans H; rw [hy203]; with_reducible exact H2_) | (have H2_ := (Option.bind_some _ _).symm.trans H; with_reducible exact H2_) | with_reducible exact H | (rw [hy203]; exact H) | exact H
                      have Ny203 := Aside0.mk hy203
                      clear hy203
                      have H' := Aside0.mk H
                      clear H
                      have p197 : 0 ≤ (x20_2 : Int) := of_decide_eq_true (by first | (with_reducible assumption) | assumption)
                      have q197 : x20_2 < (l0.length : Int) := of_decide_eq_true (by first | (with_reducible assumption) | assumption)
                      obtain ⟨ad197, e197, hx197_0⟩ := Kd.at_int HR0.out x20_2 p197 q197
                      cases e197
                      replace hx197_0 := (HB.out.cell (World.block_lt_of_cell? w _ hx197_0)).trans hx197_0
                      replace p197 := eq_true p197
                      replace q197 := eq_true q197
                      go_wp2_with (first | ((with_reducible refine gate_callee (f := 13) rfl ?_); refine goesL_ (some 25) rfl rfl Tryd.func13 (by kernel_rfl) rfl #[.int .u32 (rd l0 x20_2)] rfl (by (try simp only [List.map_toArray, List.map_cons, List.map_nil]); first | done | rfl | (simp only [List.length_drop, List.length_take]; rfl)) ?_; (with_reducible refine (single_Parts.calls (rd l0 x20_2) t198 t199 t200 t201 _ A9.out (by first | exact HTab.out | exact tab_below HTab.out (by repeat (first | (with_reducible first | exact HB.out | apply below_alloc | apply pw_below_drewN | apply below_drew1) | exact HB.out)))).mono ?_); rintro e w12 ⟨rfl, hb⟩; refine ⟨_, rfl, ?_⟩; have n0_ := Aside0.mk (Kd.R_below (by (with_reducible repeat (first | apply Kd.R_alloc | apply Kd.R_drewN | apply Kd.R_drew)); exact HO_6.out) hb); have n1_ := Aside0.mk (below_step (by repeat (first | (with_reducible first | exact HB.out | apply below_alloc | apply pw_below_drewN | apply below_drew1) | exact HB.out)) hb); clear HO_6; clear HB; have HO_6 := n0_; have HB := n1_; clear n0_ n1_; (try clear hb); (try clear hb2); (try clear hk); (try clear hi)) | ((with_reducible refine gate_dst (N := 9) rfl ?_); refine box_event ?hg (N := 9) ?hd (cs := #[.int .i64 0, .bool false, .int .i64 0, .int .i64 0]) (t := 24) ?hr ?_; (case hd => rfl); (case hg => rfl); (case hr => first | (go_simp; done) | (go_simp; rfl)); intro gb202 hg w13 hbox hb; have n0_ := Aside0.mk (Kd.R_below (Kd.R_elderB (by (with_reducible repeat (first | apply Kd.R_alloc | apply Kd.R_drewN | apply Kd.R_drew)); exact HO_6.out) gb202 (Nat.le_of_eq hg.symm)) hb); have n1_ := Aside0.mk (below_step (by repeat (first | (with_reducible first | exact HB.out | apply below_alloc | apply pw_below_drewN | apply below_drew1) | exact HB.out)) hb); have n2_ := Aside0.mk (hbox); have n3_ := Aside0.mk ((by rw [hg]; exact (below_size (by repeat (first | (with_reducible first | exact HB.out | apply below_alloc | apply pw_below_drewN | apply below_drew1) | exact HB.out))) : w.heap.size ≤ gb202)); have n4_ := Aside0.mk ((by rw [hg]; exact (below_size (by repeat (first | (with_reducible first | exact HB.out | apply below_alloc | apply pw_below_drewN | apply below_drew1) | exact HB.out))) : w.heap.size ≤ gb202)); clear HO_6; clear HB; have HO_6 := n0_; have HB := n1_; have BK202 := n2_; have GW202 := n3_; have GE202 := n4_; clear n0_ n1_ n2_ n3_ n4_; clear hb hbox hg; have hcz14_0 : w13.cell? ⟨gb202, 0, none⟩ = some (.int .i64 0) := (blk_cell BK202.out 0).trans rfl; have hcz14_1 : w13.cell? ⟨gb202, 1, none⟩ = some (.bool false) := (blk_cell BK202.out 1).trans rfl; have hcz14_2 : w13.cell? ⟨gb202, 2, none⟩ = some (.int .i64 0) := (blk_cell BK202.out 2).trans rfl; have hcz14_3 : w13.cell? ⟨gb202, 3, none⟩ = some (.int .i64 0) := (blk_cell BK202.out 3).trans rfl; have hfz14_0 := blk_frozen BK202.out 0; have hfz14_1 := blk_frozen BK202.out 1; have hfz14_2 := blk_frozen BK202.out 2; have hfz14_3 := blk_frozen BK202.out 3) | ((with_reducible refine gate_builtin (b := .append) (xs := #[.tmp 29, .tmp 31]) rfl ?_); at_builtin; refine Kd.R_append k24 (w0 := w) w.heap.size rfl (.tmp 29) (.tmp 31) 70 24 (.agg #[(.int .i64 0), (.bool false), (.int .i64 0), (.int .i64 0)]) 32 rfl Tryd.underlying70 info24 rfl (by decide) (by omega) u6 x6_2 (⟨t198, t199, t200, t201⟩ : S24) [.int .i64 t198, .bool t199, .int .i64 t200, .int .i64 t201] (fun k_ => k_ ≠ gb202) (fun _ => False) rfl (by first | (go_simp; done) | (go_simp; rfl)) ?aP (fun _ hk => hk.elim) ?aF ?aO ?aB ?aS ?aL ?_; (case aP => exact k24_mkM _ _ _ (⟨t198, t199, t200, t201⟩ : S24)); (case aB => exact (by repeat (first | (with_reducible first | exact HB.out | apply below_alloc | apply pw_below_drewN | apply below_drew1 | refine below_set ?_ GE202.out) | exact HB.out))); (case aF => exact (fun k_ hk => Kd.freshB (g := gb202) (o := .cells #[.int .i64 t198, .bool t199, .int .i64 t200, .int .i64 t201] 24 (0, 0)) (by (with_reducible repeat (first | refine blk_drewN ?_ _ | refine blk_drew ?_ | refine blk_alloc ?_ _)); refine blk_put (cs := #[.int .i64 t198, .bool t199, .int .i64 t200, .int .i64 0]) ?_ 3 _ rfl; (with_reducible repeat (first | refine blk_drewN ?_ _ | refine blk_drew ?_ | refine blk_alloc ?_ _)); refine blk_put (cs := #[.int .i64 t198, .bool t199, .int .i64 0, .int .i64 0]) ?_ 2 _ rfl; (with_reducible repeat (first | refine blk_drewN ?_ _ | refine blk_drew ?_ | refine blk_alloc ?_ _)); refine blk_put (cs := #[.int .i64 t198, .bool false, .int .i64 0, .int .i64 0]) ?_ 1 _ rfl; (with_reducible repeat (first | refine blk_drewN ?_ _ | refine blk_drew ?_ | refine blk_alloc ?_ _)); refine blk_put (cs := #[.int .i64 0, .bool false, .int .i64 0, .int .i64 0]) ?_ 0 _ rfl; (with_reducible repeat (first | refine blk_drewN ?_ _ | refine blk_drew ?_ | refine blk_alloc ?_ _)); exact BK202.out) k_ hk)); (case aO => exact (by (with_reducible repeat (first | apply Kd.R_alloc | apply Kd.R_drewN | apply Kd.R_drew)); exact Kd.R_mono (Kd.R_far (p := ⟨gb202, 3, none⟩) (Kd.R_far (p := ⟨gb202, 2, none⟩) (Kd.R_far (p := ⟨gb202, 1, none⟩) (Kd.R_far (p := ⟨gb202, 0, none⟩) (Kd.R_mono HO_6.out (fun k_ hk => (⟨hk, hk.2⟩ : _ ∧ k_ ≠ gb202))) (fun _ hk => hk.2) (.int .i64 t198)) (fun _ hk => hk.2) (.bool t199)) (fun _ hk => hk.2) (.int .i64 t200)) (fun _ hk => hk.2) (.int .i64 t201)) (fun _ hk => hk.1.2))); (case aS => exact (below_size (by repeat (first | (with_reducible first | exact HB.out | apply below_alloc | apply pw_below_drewN | apply below_drew1 | refine below_set ?_ GE202.out) | exact HB.out)))); (case aL => have := LMc11.out; omega); intro v204 w15 ho hb hg hat; rw [← Ny203.out] at ho; have n0_ := Aside0.mk (blk_grown (g := gb202) (o := .cells #[.int .i64 t198, .bool t199, .int .i64 t200, .int .i64 t201] 24 (0, 0)) (by (with_reducible repeat (first | refine blk_drewN ?_ _ | refine blk_drew ?_ | refine blk_alloc ?_ _)); refine blk_put (cs := #[.int .i64 t198, .bool t199, .int .i64 t200, .int .i64 0]) ?_ 3 _ rfl; (with_reducible repeat (first | refine blk_drewN ?_ _ | refine blk_drew ?_ | refine blk_alloc ?_ _)); refine blk_put (cs := #[.int .i64 t198, .bool t199, .int .i64 0, .int .i64 0]) ?_ 2 _ rfl; (with_reducible repeat (first | refine blk_drewN ?_ _ | refine blk_drew ?_ | refine blk_alloc ?_ _)); refine blk_put (cs := #[.int .i64 t198, .bool false, .int .i64 0, .int .i64 0]) ?_ 1 _ rfl; (with_reducible repeat (first | refine blk_drewN ?_ _ | refine blk_drew ?_ | refine blk_alloc ?_ _)); refine blk_put (cs := #[.int .i64 0, .bool false, .int .i64 0, .int .i64 0]) ?_ 0 _ rfl; (with_reducible repeat (first | refine blk_drewN ?_ _ | refine blk_drew ?_ | refine blk_alloc ?_ _)); exact BK202.out) hg (Kd.R_away HO_6.out (fun _ hk => hk.2))); have n1_ := Aside0.mk (hb); have n2_ := Aside0.mk (ho); clear BK202; clear HB; clear HO_6; have BK202 := n0_; have HB := n1_; have HO205 := n2_; clear n0_ n1_ n2_; clear ho hb hg hat))
                      go_roundg k2
                      case measure => have := HJ2.out; have := HK2.out; omega
                      case rel => exact ⟨(y203), (wrap64 (x20_2 + 1)), (by first | rfl | (simp; done) | (simp [*]; done) | (simp [i64_w]; done) | (simp [*, i64_w]; done)), H', ⟨by have := HJ2.out; have := HK2.out; omega⟩, ⟨by (with_reducible repeat (first | apply Kd.R_alloc | apply Kd.R_drewN | apply Kd.R_drew)); exact Kd.R_mono HO205.out (fun _ hk => trivial)⟩, ⟨by repeat (first | (with_reducible first | exact HB.out | apply below_alloc | apply pw_below_drewN | apply below_drew1 | refine below_set ?_ GE202.out) | exact HB.out)⟩⟩
                    · rw [if_neg c11] at H
                      exact absurd H (by simp)
                  · rw [if_neg c10] at H
                    have c10b0 : (t198 == 0) = false := beq_eq_false_iff_ne.mpr c10
                    have c10b1 : (t198 != 0) = true := bne_iff_ne.mpr c10
                    simp only [Option.some.injEq, Prod.mk.injEq] at H
                    obtain ⟨rfl, rfl⟩ := H
                    have p197 : 0 ≤ (x20_2 : Int) := of_decide_eq_true (by first | (with_reducible assumption) | assumption)
                    have q197 : x20_2 < (l0.length : Int) := of_decide_eq_true (by first | (with_reducible assumption) | assumption)
                    obtain ⟨ad197, e197, hx197_0⟩ := Kd.at_int HR0.out x20_2 p197 q197
                    cases e197
                    replace hx197_0 := (HB.out.cell (World.block_lt_of_cell? w _ hx197_0)).trans hx197_0
                    replace p197 := eq_true p197
                    replace q197 := eq_true q197
                    go_wp2_with (first | ((with_reducible refine gate_callee (f := 13) rfl ?_); refine goesL_ (some 25) rfl rfl Tryd.func13 (by kernel_rfl) rfl #[.int .u32 (rd l0 x20_2)] rfl (by (try simp only [List.map_toArray, List.map_cons, List.map_nil]); first | done | rfl | (simp only [List.length_drop, List.length_take]; rfl)) ?_; (with_reducible refine (single_Parts.calls (rd l0 x20_2) t198 t199 t200 t201 _ A9.out (by first | exact HTab.out | exact tab_below HTab.out (by repeat (first | (with_reducible first | exact HB.out | apply below_alloc | apply pw_below_drewN | apply below_drew1) | exact HB.out)))).mono ?_); rintro e w16 ⟨rfl, hb⟩; refine ⟨_, rfl, ?_⟩; have n0_ := Aside0.mk (Kd.R_below (by (with_reducible repeat (first | apply Kd.R_alloc | apply Kd.R_drewN | apply Kd.R_drew)); exact HO_6.out) hb); have n1_ := Aside0.mk (below_step (by repeat (first | (with_reducible first | exact HB.out | apply below_alloc | apply pw_below_drewN | apply below_drew1) | exact HB.out)) hb); clear HO_6; clear HB; have HO_6 := n0_; have HB := n1_; clear n0_ n1_; (try clear hb); (try clear hb2); (try clear hk); (try clear hi)) | ((with_reducible refine gate_dst (N := 9) rfl ?_); refine box_event ?hg (N := 9) ?hd (cs := #[.int .i64 0, .bool false, .int .i64 0, .int .i64 0]) (t := 24) ?hr ?_; (case hd => rfl); (case hg => rfl); (case hr => first | (go_simp; done) | (go_simp; rfl)); intro gb202 hg w17 hbox hb; have n0_ := Aside0.mk (Kd.R_below (Kd.R_elderB (by (with_reducible repeat (first | apply Kd.R_alloc | apply Kd.R_drewN | apply Kd.R_drew)); exact HO_6.out) gb202 (Nat.le_of_eq hg.symm)) hb); have n1_ := Aside0.mk (below_step (by repeat (first | (with_reducible first | exact HB.out | apply below_alloc | apply pw_below_drewN | apply below_drew1) | exact HB.out)) hb); have n2_ := Aside0.mk (hbox); have n3_ := Aside0.mk ((by rw [hg]; exact (below_size (by repeat (first | (with_reducible first | exact HB.out | apply below_alloc | apply pw_below_drewN | apply below_drew1) | exact HB.out))) : w.heap.size ≤ gb202)); have n4_ := Aside0.mk ((by rw [hg]; exact (below_size (by repeat (first | (with_reducible first | exact HB.out | apply below_alloc | apply pw_below_drewN | apply below_drew1) | exact HB.out))) : w.heap.size ≤ gb202)); clear HO_6; clear HB; have HO_6 := n0_; have HB := n1_; have BK202 := n2_; have GW202 := n3_; have GE202 := n4_; clear n0_ n1_ n2_ n3_ n4_; clear hb hbox hg; have hcz18_0 : w17.cell? ⟨gb202, 0, none⟩ = some (.int .i64 0) := (blk_cell BK202.out 0).trans rfl; have hcz18_1 : w17.cell? ⟨gb202, 1, none⟩ = some (.bool false) := (blk_cell BK202.out 1).trans rfl; have hcz18_2 : w17.cell? ⟨gb202, 2, none⟩ = some (.int .i64 0) := (blk_cell BK202.out 2).trans rfl; have hcz18_3 : w17.cell? ⟨gb202, 3, none⟩ = some (.int .i64 0) := (blk_cell BK202.out 3).trans rfl; have hfz18_0 := blk_frozen BK202.out 0; have hfz18_1 := blk_frozen BK202.out 1; have hfz18_2 := blk_frozen BK202.out 2; have hfz18_3 := blk_frozen BK202.out 3))
                    go_ret2
                    exact ⟨_, by first | rfl | (simp [errW_none, errW_some] <;> rfl) | (simp [*, errW_none, errW_some] <;> rfl), by first | exact Kd.R_nil _ _ _ _ _ | exact Kd.N_nil _ _ _ _ _ | exact Kd.V_nil _ _ _ _ _ | exact Kd.Q_nil _ _ _ _ _ | exact Kd.S_nil _ _ _ _ _, by repeat (first | (with_reducible first | exact HB.out | apply below_alloc | apply pw_below_drewN | apply below_drew1 | refine below_set ?_ GE202.out) | exact HB.out)⟩
                · rw [if_neg c8] at H
                  exact absurd H (by simp)
              · rw [if_neg c7] at H
                exact absurd H (by simp)
            · rw [if_neg c6] at H
              have c6b0 : decide (x20_2 < (l0.length : Int)) = false := decide_eq_false c6
              clear c6
              replace H := Option.bind_eq_some_iff.mp H
              obtain ⟨⟨t206, t207⟩, A190, H⟩ := H
              replace H : (if t207 = true then (some (t206, 0)) else (some (([] : List Int), 31))) = some (r1, r2) := H
              have A19 := Aside0.mk A190
              clear A190
              by_cases c20 : t207 = true
              · subst c20
                have H1 : (some (t206, 0)) = some (r1, r2) := by rw [if_pos rfl] at H; exact H
                clear H
                have H := H1
                clear H1
                simp only [Option.some.injEq, Prod.mk.injEq] at H
                obtain ⟨rfl, rfl⟩ := H
                obtain ⟨Ao21, co21, eo21⟩ := Kd.R_slice HO_6.out
                subst eo21
                go_wp2_with (first | ((with_reducible refine gate_callee (f := 41) rfl ?_); refine goesL_ (some 37) rfl rfl Tryd.func41 (by kernel_rfl) rfl #[.slice Ao21 x6_2.length co21, .int .i64 a1] rfl (by (try simp only [List.map_toArray, List.map_cons, List.map_nil]); first | done | rfl | (simp only [List.length_drop, List.length_take]; rfl)) ?_; (with_reducible refine (single_wholes.calls k2 _ _ x6_2 a1 t206 true _ ?side1 ?side2 A19.out).mono ?_); (case side1 => repeat (first | exact (Kd.R_reads' HO_6.out).2.2 | (with_reducible refine Kd.C_alloc ?_ _) | (with_reducible refine Kd.C_drewN ?_ _) | (with_reducible refine Kd.C_drew ?_))); (case side2 => exact (Kd.R_reads' HO_6.out).2.1); rintro e w22 ⟨v208, rfl, ho0, hb⟩; refine ⟨_, rfl, ?_⟩; have n0_ := Aside0.mk (Kd.R_below (by (with_reducible repeat (first | apply Kd.R_alloc | apply Kd.R_drewN | apply Kd.R_drew)); exact HO_6.out) hb); have n1_ := Aside0.mk (Kd.R_lower ho0 (below_size (by repeat (first | (with_reducible first | exact HB.out | apply below_alloc | apply pw_below_drewN | apply below_drew1) | exact HB.out)))); have n2_ := Aside0.mk (below_step (by repeat (first | (with_reducible first | exact HB.out | apply below_alloc | apply pw_below_drewN | apply below_drew1) | exact HB.out)) hb); clear HO_6; clear HB; have HO_6 := n0_; have HO209 := n1_; have HB := n2_; clear n0_ n1_ n2_; (try clear hb); (try clear hb2); (try clear hk); (try clear hi); (try clear ho0)))
                go_ret2
                exact ⟨_, by first | rfl | (simp [errW_none, errW_some] <;> rfl) | (simp [*, errW_none, errW_some] <;> rfl), by (with_reducible repeat (first | apply Kd.R_alloc | apply Kd.R_drewN | apply Kd.R_drew)); exact HO209.out, by repeat (first | (with_reducible first | exact HB.out | apply below_alloc | apply pw_below_drewN | apply below_drew1) | exact HB.out)⟩
              · replace c20 := Bool.eq_false_iff.mpr c20
                subst c20
                have H1 : (some (([] : List Int), 31)) = some (r1, r2) := by rw [if_neg (show ¬ (false = true) by decide)] at H; exact H
                clear H
                have H := H1
                clear H1
                simp only [Option.some.injEq, Prod.mk.injEq] at H
                obtain ⟨rfl, rfl⟩ := H
                obtain ⟨Ao23, co23, eo23⟩ := Kd.R_slice HO_6.out
                subst eo23
                go_wp2_with (first | ((with_reducible refine gate_callee (f := 41) rfl ?_); refine goesL_ (some 37) rfl rfl Tryd.func41 (by kernel_rfl) rfl #[.slice Ao23 x6_2.length co23, .int .i64 a1] rfl (by (try simp only [List.map_toArray, List.map_cons, List.map_nil]); first | done | rfl | (simp only [List.length_drop, List.length_take]; rfl)) ?_; (with_reducible refine (single_wholes.calls k2 _ _ x6_2 a1 t206 false _ ?side1 ?side2 A19.out).mono ?_); (case side1 => repeat (first | exact (Kd.R_reads' HO_6.out).2.2 | (with_reducible refine Kd.C_alloc ?_ _) | (with_reducible refine Kd.C_drewN ?_ _) | (with_reducible refine Kd.C_drew ?_))); (case side2 => exact (Kd.R_reads' HO_6.out).2.1); rintro e w24 ⟨v208, rfl, ho0, hb⟩; refine ⟨_, rfl, ?_⟩; have n0_ := Aside0.mk (Kd.R_below (by (with_reducible repeat (first | apply Kd.R_alloc | apply Kd.R_drewN | apply Kd.R_drew)); exact HO_6.out) hb); have n1_ := Aside0.mk (Kd.R_lower ho0 (below_size (by repeat (first | (with_reducible first | exact HB.out | apply below_alloc | apply pw_below_drewN | apply below_drew1) | exact HB.out)))); have n2_ := Aside0.mk (below_step (by repeat (first | (with_reducible first | exact HB.out | apply below_alloc | apply pw_below_drewN | apply below_drew1) | exact HB.out)) hb); clear HO_6; clear HB; have HO_6 := n0_; have HO209 := n1_; have HB := n2_; clear n0_ n1_ n2_; (try clear hb); (try clear hb2); (try clear hk); (try clear hi); (try clear ho0)))
                go_ret2
                exact ⟨_, by first | rfl | (simp [errW_none, errW_some] <;> rfl) | (simp [*, errW_none, errW_some] <;> rfl), by first | exact Kd.R_nil _ _ _ _ _ | exact Kd.N_nil _ _ _ _ _ | exact Kd.V_nil _ _ _ _ _ | exact Kd.Q_nil _ _ _ _ _ | exact Kd.S_nil _ _ _ _ _, by repeat (first | (with_reducible first | exact HB.out | apply below_alloc | apply pw_below_drewN | apply below_drew1) | exact HB.out)⟩

end Go.Proofs.YteecekhfpfnepaaDoor.PAll
end

section
/- Rows at a scale: the program's and the reference's are one. -/
namespace Go.Proofs.YteecekhfpfnepaaDoor.Sg
open Go.RowKit Go.Proofs.YteecekhfpfnepaaDoor.PAll Go.Proofs.YteecekhfpfnepaaDoorW.PrintWords Go.Proofs.YteecekhfpfnepaaDoorW.PrintLast Go.Proofs.YteecekhfpfnepaaDoorW.PrintMore
set_option linter.unusedVariables false
set_option linter.unusedSimpArgs false

theorem rhe_null (d : Nat) : rhe 0 d = 0 := rhe_small (by have := pow_pos' d; omega)
theorem wholeN_zero (e : Int) : wholeN 0 e = 0 := by
  unfold wholeN keptQ
  rw [Nat.zero_shiftLeft, rhe_null]
/-- The kinds of words. -/
theorem word_cases (a : Int) (h0 : 0 ≤ a) (h1 : a ≤ 4294967295) : ∃ (s : Bool) (m : Nat) (e k : Int), rawV a = (k, s, (m : Int), e) ∧ (k ≠ 0 ∨ (k = 0 ∧ m < 16777216 ∧ -149 ≤ e ∧ e ≤ 104)) := by
  obtain ⟨h, _⟩ | ⟨s, h, _⟩ | ⟨s, m, e, h, _, hF⟩ := raw_cases a h0 (by omega)
  · exact ⟨false, 0, 0, 2, h, .inl (by decide)⟩
  · exact ⟨s, 0, 0, 1, h, .inl (by decide)⟩
  · refine ⟨s, m, e, 0, h, .inr ⟨rfl, ?_⟩⟩
    have := hF.form
    omega
/-- A whole number with its sign. -/
def signed (s : Bool) (W : Nat) : Int := if s then -(W : Int) else (W : Int)
/-- A word at a scale. -/
def wv (a scale : Int) : Option Int := if 127 < wholeN (rawV a).2.2.1.toNat ((rawV a).2.2.2 + scale) then none else some (signed (rawV a).2.1 (wholeN (rawV a).2.2.1.toNat ((rawV a).2.2.2 + scale)))
def rowV (scale : Int) : List Int → Option (List Int)
  | [] => some []
  | a :: l => (wv a scale).bind fun q => (rowV scale l).map (q :: ·)
theorem tz_div (m : Nat) (h : m ≠ 0) (hm : m < 16777216) : m / 2 ^ tz m * 2 ^ tz m = m ∧ m / 2 ^ tz m ≠ 0 := by
  obtain ⟨q, hq⟩ := tz_spec m h (by omega)
  have hp := pow_pos' (tz m)
  have hdiv : m / 2 ^ tz m = 2 * q + 1 := by
    obtain ⟨T, hT⟩ : ∃ T, 2 ^ tz m = T := ⟨_, rfl⟩
    rw [hT] at hq hp ⊢
    rw [hq, Nat.mul_div_cancel_left _ hp]
  rw [hdiv]
  refine ⟨?_, by omega⟩
  rw [Nat.mul_comm]; exact hq.symm
def S (p : Int × Bool × Int × Int) : S24 := ⟨p.1, p.2.1, p.2.2.1, p.2.2.2⟩
/-- The program's whole of a word's parts. -/
theorem whole_parts (a scale : Int) (h0 : 0 ≤ a) (h1 : a ≤ 4294967295) (hk : (rawV a).1 = 0) (hs0 : -64 ≤ scale) (hs1 : scale ≤ 64) :
    single_whole.f (S (partsV a)).f0 (S (partsV a)).f1 (S (partsV a)).f2 (S (partsV a)).f3 scale = some (match wv a scale with | none => (0, false) | some q => (q, true)) := by
  obtain ⟨s, m, e, k, hr, hc⟩ := word_cases a h0 h1
  have hk2 : k = 0 := by rw [hr] at hk; exact hk
  obtain h | ⟨_, hm, he0, he1⟩ := hc
  · exact absurd hk2 h
  unfold wv
  rw [partsV_of hr, hr]
  simp only [Int.toNat_natCast]
  by_cases c : m = 0
  · subst c
    have hz : ((0 : Nat) : Int) = 0 := rfl
    rw [if_pos hz]
    simp only [S]
    rw [whole_zero, wholeN_zero]
    cases s <;> rfl
  · rw [if_neg (by omega)]
    obtain ⟨d1, d2⟩ := tz_div m c hm
    obtain ⟨t, ht⟩ : ∃ t, tz m = t := ⟨_, rfl⟩
    obtain ⟨q, hq⟩ : ∃ q, m / 2 ^ tz m = q := ⟨_, rfl⟩
    simp only [S]
    rw [hq] at d1 d2 ⊢
    rw [ht] at d1 ⊢
    have hp := pow_pos' t
    have hle : q ≤ m := by rw [← d1]; exact Nat.le_mul_of_pos_right _ hp
    have ht24 : t < 24 := by
      rcases Nat.lt_or_ge t 24 with h | h
      · exact h
      · have h2 : 2 ^ 24 ≤ 2 ^ t := Nat.pow_le_pow_right (by omega) h
        have h3 : 1 * 2 ^ t ≤ q * 2 ^ t := Nat.mul_le_mul_right _ (by omega)
        omega
    rw [whole_some k s q (e + t) scale d2 (by omega) (by omega) (by omega) hs0 hs1]
    have hw : wholeN q (e + t + scale) = wholeN m (e + scale) := by
      rw [← d1, ← wholeN_scale q t (e + t + scale)]
      congr 1; omega
    rw [hw]
    unfold signed
    split <;> rfl
theorem rd_at (l : List Int) (i : Nat) (h : i < l.length) : rd l (i : Int) = l[i] := by
  unfold rd
  simp [List.getD_eq_getElem?_getD, h]
/-- The program's row. -/
theorem wholes_loop (scale : Int) (hs0 : -64 ≤ scale) (hs1 : scale ≤ 64) (l : List Int) (hl : l.length < 4398046511104) (hw : ∀ a ∈ l, 0 ≤ a ∧ a ≤ 4294967295 ∧ (rawV a).1 = 0) :
    ∀ (d i k : Nat) (acc : List Int), l.length - i = d → i ≤ l.length → acc.length = i → d + 1 ≤ k →
      single_wholes.l0 k scale acc (l.map fun a => S (partsV a)) (l.length : Int) (i : Int) = some (match rowV scale (l.drop i) with | none => ([], false) | some r => (acc ++ r, true)) := by
  intro d
  induction d with
  | zero =>
    intro i k acc h1 h2 h3 hk
    obtain ⟨k, rfl⟩ : ∃ j, k = j + 1 := ⟨k - 1, by omega⟩
    have e : i = l.length := by omega
    rw [single_wholes.l0, if_neg (by omega), List.drop_of_length_le (by omega)]
    simp [rowV]
  | succ d ih =>
    intro i k acc h1 h2 h3 hk
    obtain ⟨k, rfl⟩ : ∃ j, k = j + 1 := ⟨k - 1, by omega⟩
    have hi : i < l.length := by omega
    obtain ⟨g0, g1, g2⟩ := hw l[i] (List.getElem_mem hi)
    have hrd : rd_T24 (l.map fun a => S (partsV a)) (i : Int) = S (partsV l[i]) := by
      unfold rd_T24
      simp [List.getD_eq_getElem?_getD, hi]
    rw [single_wholes.l0, if_pos (by omega), if_pos (by omega), if_pos (by simp only [List.length_map]; omega), hrd, whole_parts _ scale g0 g1 g2 hs0 hs1, Option.bind_some, List.drop_eq_getElem_cons hi]
    unfold rowV
    cases wv l[i] scale with
    | none => rfl
    | some q =>
      simp only [Option.bind_some, if_pos]
      rw [if_pos (by omega), wrap_in (by omega) (by omega), show (i : Int) + 1 = ((i + 1 : Nat) : Int) from by omega, ih (i + 1) k (acc ++ [q]) (by omega) (by omega) (by simp; omega) (by omega)]
      cases rowV scale (l.drop (i + 1)) with
      | none => rfl
      | some r => simp
theorem wholes_some (scale : Int) (hs0 : -64 ≤ scale) (hs1 : scale ≤ 64) (l : List Int) (hl : l.length < 4398046511104) (hw : ∀ a ∈ l, 0 ≤ a ∧ a ≤ 4294967295 ∧ (rawV a).1 = 0) (k : Nat) (hk : l.length + 1 ≤ k) :
    single_wholes.f k (l.map fun a => S (partsV a)) scale = some (match rowV scale l with | none => ([], false) | some r => (r, true)) := by
  unfold single_wholes.f
  have h := wholes_loop scale hs0 hs1 l hl hw l.length 0 k [] (by omega) (by omega) rfl hk
  rw [List.drop_zero] at h
  rw [List.length_map]
  exact h.trans (by cases rowV scale l <;> rfl)
/-- Is every word a number? -/
def finite (l : List Int) : Bool := l.all fun a => (rawV a).1 == 0
def tailV (l : List Int) (scale : Int) : List Int × Int := if finite l then (match rowV scale l with | none => ([], 31) | some r => (r, 0)) else ([], 30)
def atV (l : List Int) (scale : Int) : List Int × Int := if scale < -64 ∨ 64 < scale then ([], 31) else tailV l scale
theorem at_loop (scale : Int) (hs0 : -64 ≤ scale) (hs1 : scale ≤ 64) (l : List Int) (hl : l.length < 4398046511104) (hw : ∀ a ∈ l, 0 ≤ a ∧ a ≤ 4294967295) :
    ∀ (d i k : Nat), l.length - i = d → i ≤ l.length → (finite (l.take i) = true) → d + l.length + 3 ≤ k →
      single_At.l0 k scale ((l.take i).map fun a => S (partsV a)) l (l.length : Int) (i : Int) = some (tailV l scale) := by
  intro d
  induction d with
  | zero =>
    intro i k h1 h2 h3 hk
    obtain ⟨k, rfl⟩ : ∃ j, k = j + 1 := ⟨k - 1, by omega⟩
    rw [List.take_of_length_le (by omega)] at h3 ⊢
    have hw2 : ∀ a ∈ l, 0 ≤ a ∧ a ≤ 4294967295 ∧ (rawV a).1 = 0 := fun a ha => ⟨(hw a ha).1, (hw a ha).2, by simpa using List.all_eq_true.1 h3 a ha⟩
    rw [single_At.l0, if_neg (by omega), wholes_some scale hs0 hs1 l hl hw2 k (by omega), Option.bind_some]
    unfold tailV
    rw [if_pos h3]
    cases rowV scale l <;> rfl
  | succ d ih =>
    intro i k h1 h2 h3 hk
    obtain ⟨k, rfl⟩ : ∃ j, k = j + 1 := ⟨k - 1, by omega⟩
    have hi : i < l.length := by omega
    obtain ⟨g0, g1⟩ := hw l[i] (List.getElem_mem hi)
    rw [single_At.l0, if_pos (by omega), if_pos (by omega), if_pos (by omega), rd_at l i hi, parts_some _ g0 (by omega), Option.bind_some]
    by_cases c : (rawV l[i]).1 = 0
    · have c2 : (partsV l[i]).1 = 0 := (parts_kind _).trans c
      rw [if_pos c2, if_pos (by simp only [List.length_map, List.length_take]; omega), wrap_in (by omega) (by omega), show (i : Int) + 1 = ((i + 1 : Nat) : Int) from by omega]
      have e : (l.take (i + 1)).map (fun a => S (partsV a)) = (l.take i).map (fun a => S (partsV a)) ++ [(⟨(partsV l[i]).1, (partsV l[i]).2.1, (partsV l[i]).2.2.1, (partsV l[i]).2.2.2⟩ : S24)] := by
        rw [List.take_add_one, List.map_append, List.getElem?_eq_getElem hi]; rfl
      rw [← e]
      refine ih (i + 1) k (by omega) (by omega) ?_ (by omega)
      rw [List.take_add_one, List.getElem?_eq_getElem hi]
      unfold finite at h3 ⊢
      rw [List.all_append, h3]; simp [c]
    · have c2 : ¬ (partsV l[i]).1 = 0 := fun h => c ((parts_kind _).symm.trans h)
      rw [if_neg c2]
      have hf : finite l = false := by
        apply Bool.eq_false_iff.2
        intro h
        exact c (by simpa using List.all_eq_true.1 h l[i] (List.getElem_mem hi))
      unfold tailV
      rw [hf]; rfl
theorem at_some (l : List Int) (scale : Int) (hl : l.length < 4398046511104) (hw : ∀ a ∈ l, 0 ≤ a ∧ a ≤ 4294967295) (k : Nat) (hk : 2 * l.length + 5 ≤ k) : single_At.f k l scale = some (atV l scale) := by
  obtain ⟨k, rfl⟩ : ∃ j, k = j + 1 := ⟨k - 1, by omega⟩
  unfold single_At.f atV
  by_cases c1 : scale < -64
  · rw [if_pos c1, if_pos (.inl c1), single_At.j0, if_pos rfl]
  · rw [if_neg c1]
    by_cases c2 : 64 < scale
    · rw [if_pos (.inr c2), single_At.j0, if_pos (by simpa using c2)]
    · rw [if_neg (by omega), single_At.j0, if_neg (by simpa using c2)]
      exact at_loop scale (by omega) (by omega) l hl hw l.length 0 k (by omega) (by omega) rfl (by omega)
/-- The reference's whole. -/
theorem rw_up (m t : Nat) (E : Int) (hE : E = (t : Int)) (hm : m < 16777216) (ht : t ≤ 8) : ∀ (d j k : Nat), t - j = d → j ≤ t → d + 2 ≤ k →
    heraldref03_whole.l0 k (m : Int) E ((m * 2 ^ j : Nat) : Int) (j : Int) = some (if 127 < m * 2 ^ t then -1 else ((m * 2 ^ t : Nat) : Int)) := by
  intro d
  induction d with
  | zero =>
    intro j k h1 h2 hk
    obtain ⟨k, rfl⟩ : ∃ j, k = j + 1 := ⟨k - 1, by omega⟩
    have e : j = t := by omega
    subst e
    rw [heraldref03_whole.l0, if_neg (by omega), if_neg (by omega)]
    obtain ⟨X, hX⟩ : ∃ X, m * 2 ^ j = X := ⟨_, rfl⟩
    rw [hX]
    by_cases c : 127 < X
    · rw [if_pos (by omega), if_pos c]
    · rw [if_neg (by omega), if_neg c]
  | succ d ih =>
    intro j k h1 h2 hk
    obtain ⟨k, rfl⟩ : ∃ j, k = j + 1 := ⟨k - 1, by omega⟩
    have h8 : 2 ^ j ≤ 2 ^ 8 := Nat.pow_le_pow_right (by omega) (by omega)
    have h9 : m * 2 ^ j ≤ 16777216 * 256 := Nat.mul_le_mul (by omega) h8
    rw [heraldref03_whole.l0, if_pos (by omega), wrap_in (by omega) (by omega), wrap_in (a := (j : Int) + 1) (by omega) (by omega), show (j : Int) + 1 = ((j + 1 : Nat) : Int) from by omega,
      show ((m * 2 ^ j : Nat) : Int) * 2 = ((m * 2 ^ (j + 1) : Nat) : Int) from by rw [Nat.pow_succ, ← Nat.mul_assoc]; push_cast; rfl]
    exact ih (j + 1) k (by omega) (by omega) (by omega)
theorem rw_j3 (m s : Nat) (hm : m < 16777216) (hs : 1 ≤ s) (hs2 : s ≤ 40) (k : Nat) : heraldref03_whole.j3 (k + 2) (m : Int) ((2 ^ s : Nat) : Int) = some (if 127 < rhe m s then -1 else (rhe m s : Int)) := by
  have hp := pow_pos' s
  have h40 : 2 ^ s ≤ 2 ^ 40 := Nat.pow_le_pow_right (by omega) hs2
  have hh := pow_half s hs
  obtain ⟨H, hH⟩ : ∃ H, 2 ^ (s - 1) = H := ⟨_, rfl⟩
  rw [hH] at hh
  have hr : rhe m s = m / 2 ^ s + (if H < m % 2 ^ s ∨ (H = m % 2 ^ s ∧ m / 2 ^ s % 2 = 1) then 1 else 0) := by
    unfold rhe
    rw [hh]
    congr 1
    by_cases c : H < m % (2 * H) ∨ (H = m % (2 * H) ∧ m / (2 * H) % 2 = 1)
    · rw [if_pos c, if_pos (by omega)]
    · rw [if_neg c, if_neg (by omega)]
  obtain ⟨P, hP⟩ : ∃ P, 2 ^ s = P := ⟨_, rfl⟩
  rw [hP] at hp h40 hh hr ⊢
  have hq : m / P ≤ m := Nat.div_le_self _ _
  have hmod : m % P < P := Nat.mod_lt _ hp
  obtain ⟨R, hR⟩ : ∃ R, m % P = R := ⟨_, rfl⟩
  obtain ⟨Q, hQ⟩ : ∃ Q, m / P = Q := ⟨_, rfl⟩
  have e1 : Int.tmod (m : Int) (P : Int) = (R : Int) := by rw [← hR]; rfl
  have e2 : Int.tdiv (m : Int) (P : Int) = (Q : Int) := by rw [← hQ]; rfl
  rw [hR, hQ] at hr
  rw [hQ] at hq
  rw [hR] at hmod
  clear hR hQ
  have e3 : Int.tdiv (P : Int) 2 = ((P / 2 : Nat) : Int) := rfl
  have e4 : P / 2 = H := by omega
  rw [heraldref03_whole.j3, if_neg (by omega), e1, e2, e3, e4, wrap_in (a := (H : Int)) (by omega) (by omega), wrap_in (a := (Q : Int)) (by omega) (by omega)]
  have j4t : ∀ Q : Nat, Q ≤ 16777216 → heraldref03_whole.j4 (k + 1) (Q : Int) true = some (if 127 < Q + 1 then -1 else ((Q + 1 : Nat) : Int)) := by
    intro Q hQ
    rw [heraldref03_whole.j4, if_pos rfl, wrap_in (by omega) (by omega)]
    by_cases c : 127 < Q + 1
    · rw [if_pos (by omega), if_pos c]
    · rw [if_neg (by omega), if_neg c]; rfl
  have j4f : ∀ Q : Nat, heraldref03_whole.j4 (k + 1) (Q : Int) false = some (if 127 < Q then -1 else (Q : Int)) := by
    intro Q
    rw [heraldref03_whole.j4, if_neg (by decide)]
    by_cases c : 127 < Q
    · rw [if_pos (by omega), if_pos c]
    · rw [if_neg (by omega), if_neg c]
  have e5 : Int.tmod (Q : Int) 2 = ((Q % 2 : Nat) : Int) := rfl
  by_cases c1 : H < R
  · rw [if_pos (Or.inl c1)] at hr
    rw [if_pos (by omega), j4t Q (by omega), hr]
  · rw [if_neg (by omega)]
    by_cases c2 : H = R
    · rw [if_pos (by omega), e5]
      by_cases c3 : Q % 2 = 1
      · rw [if_pos (Or.inr ⟨c2, c3⟩)] at hr
        rw [show (((Q % 2 : Nat) : Int) == 1) = true from by rw [c3]; rfl, j4t Q (by omega), hr]
      · rw [if_neg (by omega)] at hr
        rw [show (((Q % 2 : Nat) : Int) == 1) = false from by simp; omega, j4f Q, hr]; rfl
    · rw [if_neg (by omega)] at hr
      rw [if_neg (by omega), j4f Q, hr]; rfl
theorem rw_down (m s : Nat) (E : Int) (hE : E = -(s : Int)) (hm : m < 16777216) (hs : 1 ≤ s) (hs2 : s ≤ 40) : ∀ (d j k : Nat), s - j = d → j ≤ s → d + 4 ≤ k →
    heraldref03_whole.l1 k (m : Int) E ((2 ^ j : Nat) : Int) (j : Int) = some (if 127 < rhe m s then -1 else (rhe m s : Int)) := by
  intro d
  induction d with
  | zero =>
    intro j k h1 h2 hk
    obtain ⟨k, rfl⟩ : ∃ j, k = j + 3 := ⟨k - 3, by omega⟩
    have e : j = s := by omega
    subst e
    rw [heraldref03_whole.l1, wrap_in (by omega) (by omega), if_neg (by omega)]
    exact rw_j3 m j hm hs hs2 k
  | succ d ih =>
    intro j k h1 h2 hk
    obtain ⟨k, rfl⟩ : ∃ j, k = j + 1 := ⟨k - 1, by omega⟩
    have h40 : 2 ^ j ≤ 2 ^ 40 := Nat.pow_le_pow_right (by omega) (by omega)
    have hwr : wrap64 (((2 ^ j : Nat) : Int) * 2) = ((2 ^ j : Nat) : Int) * 2 := by
      obtain ⟨P, hP⟩ : ∃ P, 2 ^ j = P := ⟨_, rfl⟩
      rw [hP] at h40 ⊢
      exact wrap_in (by omega) (by omega)
    rw [heraldref03_whole.l1, wrap_in (by omega) (by omega), if_pos (by omega), if_pos (by omega), hwr, wrap_in (a := (j : Int) + 1) (by omega) (by omega), show (j : Int) + 1 = ((j + 1 : Nat) : Int) from by omega,
      show ((2 ^ j : Nat) : Int) * 2 = ((2 ^ (j + 1) : Nat) : Int) from by rw [Nat.pow_succ]; push_cast; rfl]
    exact ih (j + 1) k (by omega) (by omega) (by omega)
theorem refwhole_some (m : Nat) (E : Int) (hm : m < 16777216) (hE0 : -300 ≤ E) (hE1 : E ≤ 300) (k : Nat) (hk : 80 ≤ k) : heraldref03_whole.f k (m : Int) E = some (if 127 < wholeN m E then -1 else (wholeN m E : Int)) := by
  obtain ⟨k, rfl⟩ : ∃ j, k = j + 2 := ⟨k - 2, by omega⟩
  unfold heraldref03_whole.f
  by_cases c : m = 0
  · subst c
    rw [if_pos (show ((0 : Nat) : Int) = 0 from rfl), heraldref03_whole.j0, if_pos rfl, wholeN_zero, if_neg (by decide)]; rfl
  rw [if_neg (by omega), u64_in (by omega) (by omega), length_some m _ (by omega) (by omega), Option.bind_some, lenI_log m c]
  have hlog := log_lt m c (by omega)
  have hbnd := log_bounds m c
  have hlog2 : m.log2 < 24 := by
    rcases Nat.lt_or_ge m.log2 24 with h | h
    · exact h
    · have h2 : 2 ^ 24 ≤ 2 ^ m.log2 := Nat.pow_le_pow_right (by omega) h
      omega
  rw [wrap_in (by omega) (by omega)]
  by_cases c1 : (m.log2 : Int) + 1 + E < -1
  · rw [show decide ((m.log2 : Int) + 1 + E < -1) = true from decide_eq_true c1, heraldref03_whole.j0, if_pos rfl, wholeN_none m E c c1, if_neg (by decide)]; rfl
  · rw [show decide ((m.log2 : Int) + 1 + E < -1) = false from decide_eq_false c1, heraldref03_whole.j0, if_neg (by decide), u64_in (by omega) (by omega), length_some m _ (by omega) (by omega), Option.bind_some, lenI_log m c, wrap_in (by omega) (by omega)]
    by_cases c2 : (m.log2 : Int) + 1 + E > 8
    · rw [if_pos c2, if_pos (wholeN_big m E c (by omega))]
    · rw [if_neg c2]
      by_cases c3 : 0 ≤ E
      · obtain ⟨t, ht⟩ := Int.eq_ofNat_of_zero_le c3
        rw [ht, wholeN_up]
        have := rw_up m t t rfl hm (by omega) t 0 (k + 1) (by omega) (by omega) (by omega)
        rwa [Nat.pow_zero, Nat.mul_one] at this
      · obtain ⟨s, hs⟩ : ∃ s : Nat, E = -(s : Int) := ⟨(-E).toNat, by omega⟩
        rw [hs, wholeN_down, heraldref03_whole.l0, if_neg (by omega), if_pos (by omega)]
        have := rw_down m s (-(s : Int)) rfl hm (by omega) (by omega) s 0 k (by omega) (by omega) (by omega)
        rwa [Nat.pow_zero] at this
theorem i8_in {x : Int} (h0 : -128 ≤ x) (h1 : x ≤ 127) : IntKind.i8.wrap x = x := by
  simp [IntKind.wrap, IntKind.bits, IntKind.signed]
  split <;> omega
/-- The reference's row. -/
theorem refat_loop (scale : Int) (hs0 : -64 ≤ scale) (hs1 : scale ≤ 64) (l : List Int) (hl : l.length < 4398046511104) (hw : ∀ a ∈ l, 0 ≤ a ∧ a ≤ 4294967295 ∧ (rawV a).1 = 0) :
    ∀ (d i k : Nat) (acc : List Int), l.length - i = d → i ≤ l.length → acc.length = i → d + 90 ≤ k →
      heraldref03_at.l0 k l scale acc (i : Int) = some (match rowV scale (l.drop i) with | none => ([], false) | some r => (acc ++ r, true)) := by
  intro d
  induction d with
  | zero =>
    intro i k acc h1 h2 h3 hk
    obtain ⟨k, rfl⟩ : ∃ j, k = j + 1 := ⟨k - 1, by omega⟩
    rw [heraldref03_at.l0, if_neg (by omega), List.drop_of_length_le (by omega)]
    simp [rowV]
  | succ d ih =>
    intro i k acc h1 h2 h3 hk
    obtain ⟨k, rfl⟩ : ∃ j, k = j + 1 := ⟨k - 1, by omega⟩
    have hi : i < l.length := by omega
    obtain ⟨g0, g1, g2⟩ := hw l[i] (List.getElem_mem hi)
    rw [heraldref03_at.l0, if_pos (by omega), if_pos (by omega), rd_at l i hi, raw_some _ g0 (by omega), Option.bind_some, List.drop_eq_getElem_cons hi]
    obtain ⟨s, m, e, kd, hr, hc⟩ := word_cases l[i] g0 g1
    have hk2 : kd = 0 := by rw [hr] at g2; exact g2
    obtain h | ⟨_, hm, he0, he1⟩ := hc
    · exact absurd hk2 h
    unfold rowV
    unfold wv
    rw [hr]
    simp only [Int.toNat_natCast]
    rw [wrap_in (by omega) (by omega), refwhole_some m (e + scale) hm (by omega) (by omega) k (by omega), Option.bind_some]
    obtain ⟨W, hW⟩ : ∃ W, wholeN m (e + scale) = W := ⟨_, rfl⟩
    rw [hW]
    by_cases c : 127 < W
    · rw [if_pos c, if_pos c, if_pos (by decide)]; rfl
    · rw [if_neg c, if_neg c, if_neg (by omega), Option.bind_some]
      have hx : ∀ q : Int, acc.length < 140737488355328 → heraldref03_at.l0 k l scale (acc ++ [q]) (wrap64 ((i : Int) + 1)) = some (match Option.map (fun x => q :: x) (rowV scale (List.drop (i + 1) l)) with | none => ([], false) | some r => (acc ++ r, true)) := by
        intro q _
        rw [wrap_in (by omega) (by omega), show (i : Int) + 1 = ((i + 1 : Nat) : Int) from by omega, ih (i + 1) k (acc ++ [q]) (by omega) (by omega) (by simp; omega) (by omega)]
        cases rowV scale (l.drop (i + 1)) with
        | none => rfl
        | some r => simp
      cases s
      · rw [if_neg (by decide), if_pos (by omega), i8_in (by omega) (by omega), hx _ (by omega)]; rfl
      · rw [if_pos rfl, if_pos (by omega), wrap_in (a := -(W : Int)) (by omega) (by omega), i8_in (by omega) (by omega), hx _ (by omega)]; rfl
theorem refat_row (scale : Int) (hs0 : -64 ≤ scale) (hs1 : scale ≤ 64) (l : List Int) (hl : l.length < 4398046511104) (hw : ∀ a ∈ l, 0 ≤ a ∧ a ≤ 4294967295 ∧ (rawV a).1 = 0) (k : Nat) (hk : l.length + 90 ≤ k) :
    heraldref03_at.f k l scale = some (match rowV scale l with | none => ([], false) | some r => (r, true)) := by
  unfold heraldref03_at.f
  have h := refat_loop scale hs0 hs1 l hl hw l.length 0 k [] (by omega) (by omega) rfl hk
  rw [List.drop_zero] at h
  exact h.trans (by cases rowV scale l <;> rfl)
theorem refAt_loop (scale : Int) (hs0 : -64 ≤ scale) (hs1 : scale ≤ 64) (l : List Int) (hl : l.length < 4398046511104) (hw : ∀ a ∈ l, 0 ≤ a ∧ a ≤ 4294967295) :
    ∀ (d i k : Nat), l.length - i = d → i ≤ l.length → (finite (l.take i) = true) → d + l.length + 93 ≤ k → heraldref03_At.l0 k l scale (i : Int) = some (tailV l scale) := by
  intro d
  induction d with
  | zero =>
    intro i k h1 h2 h3 hk
    obtain ⟨k, rfl⟩ : ∃ j, k = j + 1 := ⟨k - 1, by omega⟩
    rw [List.take_of_length_le (by omega)] at h3
    have hw2 : ∀ a ∈ l, 0 ≤ a ∧ a ≤ 4294967295 ∧ (rawV a).1 = 0 := fun a ha => ⟨(hw a ha).1, (hw a ha).2, by simpa using List.all_eq_true.1 h3 a ha⟩
    rw [heraldref03_At.l0, if_neg (by omega), refat_row scale hs0 hs1 l hl hw2 k (by omega), Option.bind_some]
    unfold tailV
    rw [if_pos h3]
    cases rowV scale l <;> rfl
  | succ d ih =>
    intro i k h1 h2 h3 hk
    obtain ⟨k, rfl⟩ : ∃ j, k = j + 1 := ⟨k - 1, by omega⟩
    have hi : i < l.length := by omega
    obtain ⟨g0, g1⟩ := hw l[i] (List.getElem_mem hi)
    rw [heraldref03_At.l0, if_pos (by omega), if_pos (by omega), rd_at l i hi, raw_some _ g0 (by omega), Option.bind_some]
    by_cases c : (rawV l[i]).1 = 0
    · rw [if_pos c, wrap_in (by omega) (by omega), show (i : Int) + 1 = ((i + 1 : Nat) : Int) from by omega]
      refine ih (i + 1) k (by omega) (by omega) ?_ (by omega)
      rw [List.take_add_one, List.getElem?_eq_getElem hi]
      unfold finite at h3 ⊢
      rw [List.all_append, h3]; simp [c]
    · rw [if_neg c]
      have hf : finite l = false := by
        apply Bool.eq_false_iff.2
        intro h
        exact c (by simpa using List.all_eq_true.1 h l[i] (List.getElem_mem hi))
      unfold tailV
      rw [hf]; rfl
theorem refAt_some (l : List Int) (scale : Int) (hl : l.length < 4398046511104) (hw : ∀ a ∈ l, 0 ≤ a ∧ a ≤ 4294967295) (k : Nat) (hk : 2 * l.length + 95 ≤ k) : heraldref03_At.f k l scale = some (atV l scale) := by
  obtain ⟨k, rfl⟩ : ∃ j, k = j + 1 := ⟨k - 1, by omega⟩
  unfold heraldref03_At.f atV
  by_cases c1 : scale < -64
  · rw [if_pos c1, if_pos (.inl c1), heraldref03_At.j0, if_pos rfl]
  · rw [if_neg c1]
    by_cases c2 : 64 < scale
    · rw [if_pos (.inr c2), heraldref03_At.j0, if_pos (by simpa using c2)]
    · rw [if_neg (by omega), heraldref03_At.j0, if_neg (by simpa using c2)]
      exact refAt_loop scale (by omega) (by omega) l hl hw l.length 0 k (by omega) (by omega) rfl (by omega)
/-- The same rows. -/
theorem rows_loop (l : List Int) (hl : l.length < 4398046511104) : ∀ (d i k : Nat), l.length - i = d → i ≤ l.length → d + 1 ≤ k → heraldlaw03_rows.l0 k l l (i : Int) = some true := by
  intro d
  induction d with
  | zero =>
    intro i k h1 h2 hk
    obtain ⟨k, rfl⟩ : ∃ j, k = j + 1 := ⟨k - 1, by omega⟩
    rw [heraldlaw03_rows.l0, if_neg (by omega)]
  | succ d ih =>
    intro i k h1 h2 hk
    obtain ⟨k, rfl⟩ : ∃ j, k = j + 1 := ⟨k - 1, by omega⟩
    rw [heraldlaw03_rows.l0, if_pos (by omega), if_pos (by omega), if_pos (by omega), if_pos rfl, wrap_in (by omega) (by omega), show (i : Int) + 1 = ((i + 1 : Nat) : Int) from by omega]
    exact ih (i + 1) k (by omega) (by omega) (by omega)
theorem rows_same (l : List Int) (hl : l.length < 4398046511104) (k : Nat) (hk : l.length + 1 ≤ k) : heraldlaw03_rows.f k l l = some true := by
  unfold heraldlaw03_rows.f
  rw [if_pos rfl]
  exact rows_loop l hl l.length 0 k (by omega) (by omega) hk
theorem bits_loop (l : List Int) (hl : l.length < 4398046511104) : ∀ (d i k : Nat), l.length - i = d → i ≤ l.length → d + 1 ≤ k → heraldlaw03_bits.l0 k l l (i : Int) = some true := by
  intro d
  induction d with
  | zero =>
    intro i k h1 h2 hk
    obtain ⟨k, rfl⟩ : ∃ j, k = j + 1 := ⟨k - 1, by omega⟩
    rw [heraldlaw03_bits.l0, if_neg (by omega)]
  | succ d ih =>
    intro i k h1 h2 hk
    obtain ⟨k, rfl⟩ : ∃ j, k = j + 1 := ⟨k - 1, by omega⟩
    rw [heraldlaw03_bits.l0, if_pos (by omega), if_pos (by omega), if_pos (by omega), if_pos rfl, wrap_in (by omega) (by omega), show (i : Int) + 1 = ((i + 1 : Nat) : Int) from by omega]
    exact ih (i + 1) k (by omega) (by omega) (by omega)
theorem bits_same (l : List Int) (hl : l.length < 4398046511104) (k : Nat) (hk : l.length + 1 ≤ k) : heraldlaw03_bits.f k l l = some true := by
  unfold heraldlaw03_bits.f
  rw [if_pos rfl]
  exact bits_loop l hl l.length 0 k (by omega) (by omega) hk
theorem rowV_length (scale : Int) : ∀ (l r : List Int), rowV scale l = some r → r.length = l.length
  | [], r, h => by simp [rowV] at h; rw [← h]
  | a :: l, r, h => by
    unfold rowV at h
    cases hq : wv a scale with
    | none => rw [hq] at h; simp at h
    | some q =>
      rw [hq] at h
      cases hr : rowV scale l with
      | none => rw [hr] at h; simp at h
      | some r2 =>
        rw [hr] at h
        simp at h
        rw [← h]
        simp [rowV_length scale l r2 hr]
theorem atV_length (l : List Int) (scale : Int) : (atV l scale).1.length ≤ l.length := by
  unfold atV
  split
  · simp
  · unfold tailV
    split
    · cases h : rowV scale l with
      | none => simp
      | some r => have := rowV_length scale l r h; simp [this]
    · simp
end Go.Proofs.YteecekhfpfnepaaDoor.Sg
end

section
/- Rows as numbers of 8 bits: the program's and the reference's are one. -/
namespace Go.Proofs.YteecekhfpfnepaaDoor.Sg
open Go.RowKit Go.Proofs.YteecekhfpfnepaaDoor.PAll Go.Proofs.YteecekhfpfnepaaDoorW.PrintWords Go.Proofs.YteecekhfpfnepaaDoorW.PrintLast Go.Proofs.YteecekhfpfnepaaDoorW.PrintMore
set_option linter.unusedVariables false
set_option linter.unusedSimpArgs false

def zeros (l : List Int) : Bool := l.all fun a => (rawV a).2.2.1 == 0
def seekV (l : List Int) : Nat → Int → List Int × Int × Int
  | 0, _ => ([], 0, 31)
  | d + 1, s => match rowV s l with | some r => (r, s, 0) | none => seekV l d (s - 1)
def quantV (l : List Int) : List Int × Int × Int :=
  if finite l then (if zeros l then (List.replicate l.length 0, 0, 0) else seekV l 129 64) else ([], 0, 30)
theorem parts_zero (a : Int) (h0 : 0 ≤ a) (h1 : a ≤ 4294967295) : ((partsV a).2.2.1 == 0) = ((rawV a).2.2.1 == 0) := by
  obtain ⟨s, m, e, k, hr, hc⟩ := word_cases a h0 h1
  rw [partsV_of hr, hr]
  by_cases c : m = 0
  · subst c
    have hz : ((0 : Nat) : Int) = 0 := rfl
    rw [if_pos hz]; rfl
  · have hk : m < 16777216 := by
      obtain ⟨h, _⟩ | ⟨s, h, _⟩ | ⟨s, m2, e, h, _, hF⟩ := raw_cases a h0 (by omega)
      · rw [hr] at h
        have : (m : Int) = 0 := congrArg (fun x => x.2.2.1) h
        omega
      · rw [hr] at h
        have : (m : Int) = 0 := congrArg (fun x => x.2.2.1) h
        omega
      · rw [hr] at h
        have : (m : Int) = m2 := congrArg (fun x => x.2.2.1) h
        have := hF.form
        omega
    obtain ⟨d1, d2⟩ := tz_div m c hk
    rw [if_neg (by omega), Int.toNat_natCast]
    have e1 : (((m / 2 ^ tz m : Nat) : Int) == 0) = false := by
      rw [beq_eq_false_iff_ne]; omega
    have e2 : ((m : Int) == 0) = false := by rw [beq_eq_false_iff_ne]; omega
    exact e1.trans e2.symm
theorem seek_prog (l : List Int) (hl : l.length < 4398046511104) (hw : ∀ a ∈ l, 0 ≤ a ∧ a ≤ 4294967295 ∧ (rawV a).1 = 0) :
    ∀ (d k : Nat) (s : Int), s = (d : Int) - 65 → d ≤ 129 → d + l.length + 3 ≤ k → single_Quantise.l1 k (l.map fun a => S (partsV a)) s = some (seekV l d s) := by
  intro d
  induction d with
  | zero =>
    intro k s hs hd hk
    obtain ⟨k, rfl⟩ : ∃ j, k = j + 1 := ⟨k - 1, by omega⟩
    rw [single_Quantise.l1, if_neg (by omega)]; rfl
  | succ d ih =>
    intro k s hs hd hk
    obtain ⟨k, rfl⟩ : ∃ j, k = j + 1 := ⟨k - 1, by omega⟩
    rw [single_Quantise.l1, if_pos (by omega), wholes_some s (by omega) (by omega) l hl hw k (by omega), Option.bind_some, seekV]
    cases rowV s l with
    | some r => rfl
    | none =>
      rw [if_neg (by decide), wrap_in (by omega) (by omega)]
      exact ih k (s - 1) (by omega) (by omega) (by omega)
theorem seek_ref (l : List Int) (hl : l.length < 4398046511104) (hw : ∀ a ∈ l, 0 ≤ a ∧ a ≤ 4294967295 ∧ (rawV a).1 = 0) :
    ∀ (d k : Nat) (s : Int), s = (d : Int) - 65 → d ≤ 129 → d + l.length + 93 ≤ k → heraldref03_Quantise.l1 k l s = some (seekV l d s) := by
  intro d
  induction d with
  | zero =>
    intro k s hs hd hk
    obtain ⟨k, rfl⟩ : ∃ j, k = j + 1 := ⟨k - 1, by omega⟩
    rw [heraldref03_Quantise.l1, if_neg (by omega)]; rfl
  | succ d ih =>
    intro k s hs hd hk
    obtain ⟨k, rfl⟩ : ∃ j, k = j + 1 := ⟨k - 1, by omega⟩
    rw [heraldref03_Quantise.l1, if_pos (by omega), refat_row s (by omega) (by omega) l hl hw k (by omega), Option.bind_some, seekV]
    cases rowV s l with
    | some r => rfl
    | none =>
      rw [if_neg (by decide), wrap_in (by omega) (by omega)]
      exact ih k (s - 1) (by omega) (by omega) (by omega)
theorem finite_all {l : List Int} (hw : ∀ a ∈ l, 0 ≤ a ∧ a ≤ 4294967295) (h : finite l = true) : ∀ a ∈ l, 0 ≤ a ∧ a ≤ 4294967295 ∧ (rawV a).1 = 0 :=
  fun a ha => ⟨(hw a ha).1, (hw a ha).2, by simpa using List.all_eq_true.1 h a ha⟩
theorem finite_next {l : List Int} {i : Nat} (hi : i < l.length) (h3 : finite (l.take i) = true) (c : (rawV l[i]).1 = 0) : finite (l.take (i + 1)) = true := by
  rw [List.take_add_one, List.getElem?_eq_getElem hi]
  unfold finite at h3 ⊢
  rw [List.all_append, h3]; simp [c]
theorem finite_not {l : List Int} {i : Nat} (hi : i < l.length) (c : ¬ (rawV l[i]).1 = 0) : finite l = false := by
  apply Bool.eq_false_iff.2
  intro h
  exact c (by simpa using List.all_eq_true.1 h l[i] (List.getElem_mem hi))
theorem zeros_next {l : List Int} {i : Nat} (hi : i < l.length) : zeros (l.take (i + 1)) = (zeros (l.take i) && ((rawV l[i]).2.2.1 == 0)) := by
  rw [List.take_add_one, List.getElem?_eq_getElem hi]
  unfold zeros
  rw [List.all_append]; simp
theorem quant_loop (l : List Int) (hl : l.length < 4398046511104) (hw : ∀ a ∈ l, 0 ≤ a ∧ a ≤ 4294967295) :
    ∀ (d i k : Nat), l.length - i = d → i ≤ l.length → finite (l.take i) = true → d + l.length + 140 ≤ k →
      single_Quantise.l0 k l ((l.take i).map fun a => S (partsV a)) (zeros (l.take i)) l (l.length : Int) (i : Int) = some (quantV l) := by
  intro d
  induction d with
  | zero =>
    intro i k h1 h2 h3 hk
    obtain ⟨k, rfl⟩ : ∃ j, k = j + 1 := ⟨k - 1, by omega⟩
    rw [List.take_of_length_le (by omega)] at h3 ⊢
    have hw2 := finite_all hw h3
    unfold quantV
    rw [single_Quantise.l0, if_neg (by omega), if_pos h3]
    cases hz : zeros l with
    | true =>
      rw [if_pos rfl, if_pos rfl, if_pos (by omega), if_pos (by omega), Int.toNat_natCast]
    | false =>
      rw [if_neg (by decide), if_neg (by decide)]
      exact seek_prog l hl hw2 129 k 64 (by omega) (by omega) (by omega)
  | succ d ih =>
    intro i k h1 h2 h3 hk
    obtain ⟨k, rfl⟩ : ∃ j, k = j + 1 := ⟨k - 1, by omega⟩
    have hi : i < l.length := by omega
    obtain ⟨g0, g1⟩ := hw l[i] (List.getElem_mem hi)
    rw [single_Quantise.l0, if_pos (by omega), if_pos (by omega), if_pos (by omega), rd_at l i hi, parts_some _ g0 (by omega), Option.bind_some]
    by_cases c : (rawV l[i]).1 = 0
    · have c2 : (partsV l[i]).1 = 0 := (parts_kind _).trans c
      have e : (l.take (i + 1)).map (fun a => S (partsV a)) = (l.take i).map (fun a => S (partsV a)) ++ [(⟨(partsV l[i]).1, (partsV l[i]).2.1, (partsV l[i]).2.2.1, (partsV l[i]).2.2.2⟩ : S24)] := by
        rw [List.take_add_one, List.map_append, List.getElem?_eq_getElem hi]; rfl
      have hlen : ((l.take i).map fun a => S (partsV a)).length < 4398046511104 := by simp only [List.length_map, List.length_take]; omega
      have hn := ih (i + 1) k (by omega) (by omega) (finite_next hi h3 c) (by omega)
      rw [zeros_next hi, e] at hn
      rw [if_pos c2, wrap_in (by omega) (by omega), show (i : Int) + 1 = ((i + 1 : Nat) : Int) from by omega, if_pos hlen, if_pos hlen, parts_zero _ g0 g1]
      cases hz : zeros (l.take i) with
      | true => rw [hz, Bool.true_and] at hn; rw [if_pos rfl]; exact hn
      | false => rw [hz, Bool.false_and] at hn; rw [if_neg (by decide)]; exact hn
    · have c2 : ¬ (partsV l[i]).1 = 0 := fun h => c ((parts_kind _).symm.trans h)
      rw [if_neg c2]
      unfold quantV
      rw [finite_not hi c]; rfl
theorem quant_some (l : List Int) (hl : l.length < 4398046511104) (hw : ∀ a ∈ l, 0 ≤ a ∧ a ≤ 4294967295) (k : Nat) (hk : 2 * l.length + 140 ≤ k) : single_Quantise.f k l = some (quantV l) := by
  unfold single_Quantise.f
  exact quant_loop l hl hw l.length 0 k (by omega) (by omega) rfl (by omega)
theorem row_zeros : ∀ (l : List Int), zeros l = true → rowV 0 l = some (List.replicate l.length 0)
  | [], _ => rfl
  | a :: l, h => by
    unfold zeros at h
    rw [List.all_cons, Bool.and_eq_true] at h
    have h0 : (rawV a).2.2.1 = 0 := by simpa using h.1
    have hv : wv a 0 = some 0 := by
      unfold wv
      rw [h0, show (0 : Int).toNat = 0 from rfl, wholeN_zero, if_neg (by decide)]
      cases (rawV a).2.1 <;> rfl
    unfold rowV
    rw [hv, row_zeros l h.2]
    rfl
theorem refquant_loop (l : List Int) (hl : l.length < 4398046511104) (hw : ∀ a ∈ l, 0 ≤ a ∧ a ≤ 4294967295) :
    ∀ (d i k : Nat), l.length - i = d → i ≤ l.length → finite (l.take i) = true → d + l.length + 240 ≤ k →
      heraldref03_Quantise.l0 k l (zeros (l.take i)) (i : Int) = some (quantV l) := by
  intro d
  induction d with
  | zero =>
    intro i k h1 h2 h3 hk
    obtain ⟨k, rfl⟩ : ∃ j, k = j + 1 := ⟨k - 1, by omega⟩
    rw [List.take_of_length_le (by omega)] at h3 ⊢
    have hw2 := finite_all hw h3
    unfold quantV
    rw [heraldref03_Quantise.l0, if_neg (by omega), if_pos h3]
    cases hz : zeros l with
    | true =>
      rw [if_pos rfl, if_pos rfl, refat_row 0 (by decide) (by decide) l hl hw2 k (by omega), row_zeros l hz]
      rfl
    | false =>
      rw [if_neg (by decide), if_neg (by decide)]
      exact seek_ref l hl hw2 129 k 64 (by omega) (by omega) (by omega)
  | succ d ih =>
    intro i k h1 h2 h3 hk
    obtain ⟨k, rfl⟩ : ∃ j, k = j + 1 := ⟨k - 1, by omega⟩
    have hi : i < l.length := by omega
    obtain ⟨g0, g1⟩ := hw l[i] (List.getElem_mem hi)
    rw [heraldref03_Quantise.l0, if_pos (by omega), if_pos (by omega), rd_at l i hi, raw_some _ g0 (by omega), Option.bind_some]
    by_cases c : (rawV l[i]).1 = 0
    · have hn := ih (i + 1) k (by omega) (by omega) (finite_next hi h3 c) (by omega)
      rw [zeros_next hi] at hn
      rw [if_pos c, wrap_in (by omega) (by omega), show (i : Int) + 1 = ((i + 1 : Nat) : Int) from by omega]
      cases hz : zeros (l.take i) with
      | true => rw [hz, Bool.true_and] at hn; rw [if_pos rfl]; exact hn
      | false => rw [hz, Bool.false_and] at hn; rw [if_neg (by decide)]; exact hn
    · rw [if_neg c]
      unfold quantV
      rw [finite_not hi c]; rfl
theorem refquant_some (l : List Int) (hl : l.length < 4398046511104) (hw : ∀ a ∈ l, 0 ≤ a ∧ a ≤ 4294967295) (k : Nat) (hk : 2 * l.length + 240 ≤ k) : heraldref03_Quantise.f k l = some (quantV l) := by
  unfold heraldref03_Quantise.f
  exact refquant_loop l hl hw l.length 0 k (by omega) (by omega) rfl (by omega)
theorem seekV_length (l : List Int) : ∀ (d : Nat) (s : Int), (seekV l d s).1.length ≤ l.length
  | 0, s => by simp [seekV]
  | d + 1, s => by
    unfold seekV
    cases h : rowV s l with
    | none => exact seekV_length l d (s - 1)
    | some r => have := rowV_length s l r h; simp [this]
theorem quantV_length (l : List Int) : (quantV l).1.length ≤ l.length := by
  unfold quantV
  split
  · split
    · simp
    · exact seekV_length l _ _
  · simp
end Go.Proofs.YteecekhfpfnepaaDoor.Sg
end

section
/- The plain law of SingleQuantises. -/
namespace Go.Proofs.YteecekhfpfnepaaDoor.Pure
open Go.RowKit Go.Proofs.YteecekhfpfnepaaDoor.PAll Go.Proofs.YteecekhfpfnepaaDoor.Sg Go.Proofs.YteecekhfpfnepaaDoorW.PrintWords Go.Proofs.YteecekhfpfnepaaDoorW.PrintLast
set_option linter.unusedVariables false

theorem SingleQuantises (l0 : List Int) (hl : l0.length ≤ 1048576) (hw : ∀ x ∈ l0, (Lit.int .u32 x).wf = true) : ∃ k, heraldlaw03_SingleQuantises.f k l0 = some true := by
  obtain ⟨k, hk⟩ : ∃ k, k = 2 * l0.length + 300 := ⟨_, rfl⟩
  refine ⟨k, ?_⟩
  have hw2 : ∀ a ∈ l0, 0 ≤ a ∧ a ≤ 4294967295 := fun a ha => wf_u32 (hw a ha)
  have hle := quantV_length l0
  unfold heraldlaw03_SingleQuantises.f
  simp only [Option.bind_some, List.nil_append, List.length_nil]
  rw [if_pos (by omega), quant_some l0 (by omega) hw2 k (by omega), refquant_some l0 (by omega) hw2 k (by omega), awake_some k (by omega)]
  simp only [Option.bind_some, if_pos]
  rw [rows_same _ (by omega) k (by omega), bits_same l0 (by omega) k (by omega)]
  simp
end Go.Proofs.YteecekhfpfnepaaDoor.Pure
end
