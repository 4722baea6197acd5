/- Texts of this session and printed texts, merged, what is not needed left out: PAllx29, NmJ, PureNatShifts. -/
import Derived.Test.YtgcngbmkgjphpaaDoorNpD0
import Derived.Test.YtgcngbmkgjphpaaDoorNpD1
import Derived.Test.YtgcngbmkgjphpaaDoorNpD2
import Derived.Test.YtgcngbmkgjphpaaDoorNpD3
import Derived.Test.YtgcngbmkgjphpaaDoorNpD4
import Derived.Test.YtgcngbmkgjphpaaDoorNpD5
section
namespace Go.Proofs.YtgcngbmkgjphpaaDoor.PAll
open Go.RowKit Go.Proofs.YtgcngbmkgjphpaaDoorW.PrintWords Go.Proofs.YtgcngbmkgjphpaaDoorW.PrintLast Go.Proofs.YtgcngbmkgjphpaaDoorW.PrintMore
attribute [local go_sem] max2_int min2_int max_two min_two max_three min_three max_four min_four   -- for this text's walks alone
set_option linter.unusedVariables false
set_option linter.unusedSimpArgs false
mutual
def heraldlaw04_NatShifts.j0 : Nat → Int → Int → List Int → Bool → Bool → List Int → Option (Bool)
  | 0, _, _, _, _, _, _ => none
  | k + 1, x1, x2, x7, x9, x29, x585000 => if x29 = true then (some false) else (if x9 = true then ((nat_Nat_Up.f k x585000 x1).bind fun bt586 => (if x1 ≥ 0 then ((heraldref04_Up.f k x7 x1).bind fun bt594 => (if bt594.2 = true then (heraldlaw04_NatShifts.j1 k x1 x2 x7 bt586.2 bt594.1 0 x585000 bt586.1) else (heraldlaw04_NatShifts.j1 k x1 x2 x7 bt586.2 ([] : List Int) 41 x585000 bt586.1))) else (heraldlaw04_NatShifts.j1 k x1 x2 x7 bt586.2 (([] : List Int)) 1 x585000 bt586.1))) else (some true))
def heraldlaw04_NatShifts.j1 : Nat → Int → Int → List Int → Int → List Int → Int → List Int → List Int → Option (Bool)
  | 0, _, _, _, _, _, _, _, _ => none
  | k + 1, x1, x2, x7, x12, x13, x14, x585000, x591000 => (heraldlaw04_is.f k x591000 x12 x13 x14).bind fun t598 => (if t598 = true then ((nat_Nat_Down.f k x585000 x1).bind fun bt599 => (if x1 ≥ 0 then ((heraldref04_Down.f k x7 x1).bind fun t603 => (heraldlaw04_NatShifts.j2 k x2 x7 bt599.2 t603 0 x585000 bt599.1)) else (heraldlaw04_NatShifts.j2 k x2 x7 bt599.2 ([] : List Int) 1 x585000 bt599.1))) else (some false))
def heraldlaw04_NatShifts.j2 : Nat → Int → List Int → Int → List Int → Int → List Int → List Int → Option (Bool)
  | 0, _, _, _, _, _, _, _ => none
  | k + 1, x2, x7, x12, x13, x14, x585000, x591000 => (heraldlaw04_is.f k x591000 x12 x13 x14).bind fun t606 => (if t606 = true then ((nat_Nat_Power.f k x585000 x2).bind fun bt607 => ((heraldref04_Power.f k x7 x2).bind fun bt611 => ((heraldlaw04_is.f k bt607.1 bt607.2 bt611.1 bt611.2).bind fun t615 => (if t615 = true then ((nat_Nat_Text.f k x585000).bind fun t616 => ((heraldref04_Text.f k x7).bind fun t617 => (some (t616.toList == t617.toList)))) else (some false))))) else (some false))
end
def heraldlaw04_NatShifts.f (k : Nat) (l0 : List Int) (a1 : Int) (a2 : Int) : Option (Bool) := (heraldlaw04_given.f k l0).bind fun bt576 => ((heraldlaw04_awake.f k).bind fun t585 => (if t585 = true then (heraldlaw04_NatShifts.j0 k a1 a2 bt576.1 bt576.2.2.1 (!bt576.2.2.2) bt576.2.1) else (heraldlaw04_NatShifts.j0 k a1 a2 bt576.1 bt576.2.2.1 true bt576.2.1)))
set_option maxHeartbeats 8000000 in
set_option maxRecDepth 100000 in
theorem heraldlaw04_NatShifts.calls (k : Nat) (A0 : Option Addr) (c0 : Nat) (l0 : List Int) (a1 : Int) (a2 : Int) (r : Bool) (w : World) (hr0 : Kd.C (Kd.int .u32) w A0 l0.length l0) (hc0 : l0.length ≤ c0) (h : heraldlaw04_NatShifts.f k l0 a1 a2 = some r) :
    Calls Tryd.prog 7 #[.slice A0 l0.length c0, .int .i64 a1, .int .i64 a2] w fun e w' => e = .returned (.bool r) ∧ Below w.heap.size w w' := by
  have hu26 := Tryd.underlying26
  have HR0 := Aside0.mk hr0
  have HC0 := Aside0.mk hc0
  clear hr0 hc0
  have HB := Aside0.mk (Below.refl w.heap.size w)
  have H : ((heraldlaw04_given.f k l0).bind fun bt576 => ((heraldlaw04_awake.f k).bind fun t585 => (if t585 = true then (heraldlaw04_NatShifts.j0 k a1 a2 bt576.1 bt576.2.2.1 (!bt576.2.2.2) bt576.2.1) else (heraldlaw04_NatShifts.j0 k a1 a2 bt576.1 bt576.2.2.1 true bt576.2.1)))) = some r := h
  clear h
  replace H := Option.bind_eq_some_iff.mp H
  obtain ⟨⟨t576, t579, t582, t583⟩, A40, H⟩ := H
  replace H : ((heraldlaw04_awake.f k).bind fun t585 => (if t585 = true then (heraldlaw04_NatShifts.j0 k a1 a2 t576 t582 (!t583) t579) else (heraldlaw04_NatShifts.j0 k a1 a2 t576 t582 true t579))) = some r := H
  have A4 := Aside0.mk A40
  clear A40
  have HC5 := Aside0.mk H
  clear H
  go_enter Tryd.func7, Tryd.ntmps7
  go_upto_region 2 with (first | ((with_reducible refine gate_callee (f := 21) rfl ?_); refine goesL_ (some 19) rfl rfl Tryd.func21 (by kernel_rfl) rfl #[.slice A0 l0.length c0] rfl (by (try simp only [List.map_toArray, List.map_cons, List.map_nil]); first | done | rfl | (simp only [List.length_drop, List.length_take]; rfl)) ?_; (with_reducible refine (heraldlaw04_given.calls k _ _ l0 t576 t579 t582 t583 _ ?side1 ?side2 A4.out).mono ?_); (case side1 => repeat (first | exact HR0.out | (with_reducible refine Kd.C_alloc ?_ _) | (with_reducible refine Kd.C_drewN ?_ _) | (with_reducible refine Kd.C_drew ?_))); (case side2 => exact HC0.out); rintro e w6 ⟨v577, v580, rfl, ho0, ho1, hb⟩; refine ⟨_, rfl, ?_⟩; have n0_ := Aside0.mk (Kd.V_lower (Kd.V_mono (ok' := fun k_ => True) ho0 (fun k_ hk_ => trivial)) (below_size (by repeat (first | (with_reducible first | exact HB.out | apply below_alloc | apply pw_below_drewN | apply below_drew1) | exact HB.out)))); have n1_ := Aside0.mk (Kd.V_lower (Kd.V_mono (ok' := fun k_ => True) ho1 (fun k_ hk_ => trivial)) (below_size (by repeat (first | (with_reducible first | exact HB.out | apply below_alloc | apply pw_below_drewN | apply below_drew1) | exact HB.out)))); have n2_ := Aside0.mk (below_step (by repeat (first | (with_reducible first | exact HB.out | apply below_alloc | apply pw_below_drewN | apply below_drew1) | exact HB.out)) hb); clear HB; have HO578 := n0_; have HO581 := n1_; have HB := n2_; clear n0_ n1_ n2_; (try clear hb); (try clear hb2); (try clear hk); (try clear hi); (try clear ho0); (try clear ho1)) | ((with_reducible refine gate_dst (N := 8) rfl ?_); refine box_event ?hg (N := 8) ?hd (cs := #[.slice none 0 0]) (t := 26) ?hr ?_; (case hd => rfl); (case hg => rfl); (case hr => first | (go_simp; done) | (go_simp; rfl)); intro gb584 hg w7 hbox hb; have n0_ := Aside0.mk (Kd.V_below (Kd.V_elderB (by (with_reducible repeat (first | apply Kd.V_alloc | apply Kd.V_drewN | apply Kd.V_drew)); exact HO578.out) gb584 (Nat.le_of_eq hg.symm)) hb); have n1_ := Aside0.mk (Kd.V_below (Kd.V_elderB (by (with_reducible repeat (first | apply Kd.V_alloc | apply Kd.V_drewN | apply Kd.V_drew)); exact HO581.out) gb584 (Nat.le_of_eq hg.symm)) hb); have n2_ := Aside0.mk (below_step (by repeat (first | (with_reducible first | exact HB.out | apply below_alloc | apply pw_below_drewN | apply below_drew1) | exact HB.out)) hb); have n3_ := Aside0.mk (hbox); have n4_ := Aside0.mk ((by rw [hg]; exact (below_size (by repeat (first | (with_reducible first | exact HB.out | apply below_alloc | apply pw_below_drewN | apply below_drew1) | exact HB.out))) : w.heap.size ≤ gb584)); have n5_ := Aside0.mk ((by rw [hg]; exact (below_size (by repeat (first | (with_reducible first | exact HB.out | apply below_alloc | apply pw_below_drewN | apply below_drew1) | exact HB.out))) : w.heap.size ≤ gb584)); clear HO578; clear HO581; clear HB; have HO578 := n0_; have HO581 := n1_; have HB := n2_; have BK584 := n3_; have GW584 := n4_; have GE584 := n5_; clear n0_ n1_ n2_ n3_ n4_ n5_; clear hb hbox hg; obtain ⟨Ao8, co8, eo8⟩ := Kd.V_slice HO581.out; subst eo8; have hcz9_0 : w7.cell? ⟨gb584, 0, none⟩ = some (.slice none 0 0) := (blk_cell BK584.out 0).trans rfl; have hfz9_0 := blk_frozen BK584.out 0))
  (try simp only [Act.put, List.setIfInBounds_toArray, List.set_cons_zero, List.set_cons_succ])
  go_cut [29] (fun v29 wc => ∃ (kq : Nat) (x29_4 : Bool), v29 = .bool x29_4 ∧ Aside0 (heraldlaw04_NatShifts.j0 kq a1 a2 t576 t582 x29_4 t579 = some r) ∧ Aside0 (kq ≤ k) ∧ Aside0 (Kd.V (Kd.int .i64) 3 wc w.heap.size (fun k_ => k_ ≠ gb584) v577 t576) ∧ Aside0 (Kd.V (Kd.int .u32) 79 wc w.heap.size (fun k_ => k_ ≠ gb584) (.slice Ao8 t579.length co8) t579) ∧ Aside0 (wc.heap[gb584]? = some (.cells #[(.slice Ao8 t579.length co8)] 26 (0, 0))) ∧ Aside0 (Below w.heap.size w wc))
  case first =>
    have H := HC5.out
    clear HC5
    replace H := Option.bind_eq_some_iff.mp H
    obtain ⟨t585, A100, H⟩ := H
    replace H : (if t585 = true then (heraldlaw04_NatShifts.j0 k a1 a2 t576 t582 (!t583) t579) else (heraldlaw04_NatShifts.j0 k a1 a2 t576 t582 true t579)) = some r := H
    have A10 := Aside0.mk A100
    clear A100
    by_cases c11 : t585 = true
    · subst c11
      have H1 : (heraldlaw04_NatShifts.j0 k a1 a2 t576 t582 (!t583) t579) = some r := by rw [if_pos rfl] at H; exact H
      clear H
      have H := H1
      clear H1
      have H' := Aside0.mk H
      clear H
      go_wp2_with (first | ((with_reducible refine gate_callee (f := 12) rfl ?_); refine goesL_ (some 24) rfl rfl Tryd.func12 (by kernel_rfl) rfl #[] rfl (by (try simp only [List.map_toArray, List.map_cons, List.map_nil]); first | done | rfl | (simp only [List.length_drop, List.length_take]; rfl)) ?_; (with_reducible refine (heraldlaw04_awake.calls k  true _ A10.out).mono ?_); rintro e w12 ⟨rfl, hb⟩; refine ⟨_, rfl, ?_⟩; have n0_ := Aside0.mk (Kd.V_below (by (with_reducible repeat (first | apply Kd.V_alloc | apply Kd.V_drewN | apply Kd.V_drew)); exact (Kd.V_mono (Kd.V_far (p := ⟨gb584, 0, none⟩) (Kd.V_mono HO578.out (fun k_ hk => (⟨hk, hk.2⟩ : _ ∧ k_ ≠ gb584))) (fun _ hk => hk.2) (.slice Ao8 t579.length co8)) (fun _ h_ => h_.1))) hb); have n1_ := Aside0.mk (Kd.V_below (by (with_reducible repeat (first | apply Kd.V_alloc | apply Kd.V_drewN | apply Kd.V_drew)); exact (Kd.V_mono (Kd.V_far (p := ⟨gb584, 0, none⟩) (Kd.V_mono HO581.out (fun k_ hk => (⟨hk, hk.2⟩ : _ ∧ k_ ≠ gb584))) (fun _ hk => hk.2) (.slice Ao8 t579.length co8)) (fun _ h_ => h_.1))) hb); have n2_ := Aside0.mk (blk_below (g := gb584) (o := .cells #[.slice Ao8 t579.length co8] 26 (0, 0)) (by (with_reducible repeat (first | refine blk_drewN ?_ _ | refine blk_drew ?_ | refine blk_alloc ?_ _)); refine blk_put (cs := #[.slice none 0 0]) ?_ 0 _ rfl; (with_reducible repeat (first | refine blk_drewN ?_ _ | refine blk_drew ?_ | refine blk_alloc ?_ _)); exact BK584.out) hb); have n3_ := Aside0.mk (below_step (by repeat (first | (with_reducible first | exact HB.out | apply below_alloc | apply pw_below_drewN | apply below_drew1 | refine below_set ?_ GE584.out) | exact HB.out)) hb); clear HO578; clear HO581; clear BK584; clear HB; have HO578 := n0_; have HO581 := n1_; have BK584 := n2_; have HB := n3_; clear n0_ n1_ n2_ n3_; (try clear hb); (try clear hb2); (try clear hk); (try clear hi)))
      go_meet
      case rel => exact ⟨_, (!t583), (by first | rfl | (simp; done) | (simp [*]; done) | (simp [i64_w]; done) | (simp [*, i64_w]; done)), H', ⟨by first | omega | exact Nat.le_refl _⟩, ⟨by (with_reducible repeat (first | apply Kd.V_alloc | apply Kd.V_drewN | apply Kd.V_drew)); exact Kd.V_mono HO578.out (fun _ hk => hk.2)⟩, ⟨by (with_reducible repeat (first | apply Kd.V_alloc | apply Kd.V_drewN | apply Kd.V_drew)); exact Kd.V_mono HO581.out (fun _ hk => hk.2)⟩, ⟨by (with_reducible repeat (first | refine blk_drewN ?_ _ | refine blk_drew ?_ | refine blk_alloc ?_ _)); exact BK584.out⟩, ⟨by repeat (first | (with_reducible first | exact HB.out | apply below_alloc | apply pw_below_drewN | apply below_drew1 | refine below_set ?_ GE584.out) | exact HB.out)⟩⟩
    · replace c11 := Bool.eq_false_iff.mpr c11
      subst c11
      have H1 : (heraldlaw04_NatShifts.j0 k a1 a2 t576 t582 true t579) = some r := by rw [if_neg (show ¬ (false = true) by decide)] at H; exact H
      clear H
      have H := H1
      clear H1
      have H' := Aside0.mk H
      clear H
      go_wp2_with (first | ((with_reducible refine gate_callee (f := 12) rfl ?_); refine goesL_ (some 24) rfl rfl Tryd.func12 (by kernel_rfl) rfl #[] rfl (by (try simp only [List.map_toArray, List.map_cons, List.map_nil]); first | done | rfl | (simp only [List.length_drop, List.length_take]; rfl)) ?_; (with_reducible refine (heraldlaw04_awake.calls k  false _ A10.out).mono ?_); rintro e w13 ⟨rfl, hb⟩; refine ⟨_, rfl, ?_⟩; have n0_ := Aside0.mk (Kd.V_below (by (with_reducible repeat (first | apply Kd.V_alloc | apply Kd.V_drewN | apply Kd.V_drew)); exact (Kd.V_mono (Kd.V_far (p := ⟨gb584, 0, none⟩) (Kd.V_mono HO578.out (fun k_ hk => (⟨hk, hk.2⟩ : _ ∧ k_ ≠ gb584))) (fun _ hk => hk.2) (.slice Ao8 t579.length co8)) (fun _ h_ => h_.1))) hb); have n1_ := Aside0.mk (Kd.V_below (by (with_reducible repeat (first | apply Kd.V_alloc | apply Kd.V_drewN | apply Kd.V_drew)); exact (Kd.V_mono (Kd.V_far (p := ⟨gb584, 0, none⟩) (Kd.V_mono HO581.out (fun k_ hk => (⟨hk, hk.2⟩ : _ ∧ k_ ≠ gb584))) (fun _ hk => hk.2) (.slice Ao8 t579.length co8)) (fun _ h_ => h_.1))) hb); have n2_ := Aside0.mk (blk_below (g := gb584) (o := .cells #[.slice Ao8 t579.length co8] 26 (0, 0)) (by (with_reducible repeat (first | refine blk_drewN ?_ _ | refine blk_drew ?_ | refine blk_alloc ?_ _)); refine blk_put (cs := #[.slice none 0 0]) ?_ 0 _ rfl; (with_reducible repeat (first | refine blk_drewN ?_ _ | refine blk_drew ?_ | refine blk_alloc ?_ _)); exact BK584.out) hb); have n3_ := Aside0.mk (below_step (by repeat (first | (with_reducible first | exact HB.out | apply below_alloc | apply pw_below_drewN | apply below_drew1 | refine below_set ?_ GE584.out) | exact HB.out)) hb); clear HO578; clear HO581; clear BK584; clear HB; have HO578 := n0_; have HO581 := n1_; have BK584 := n2_; have HB := n3_; clear n0_ n1_ n2_ n3_; (try clear hb); (try clear hb2); (try clear hk); (try clear hi)))
      go_meet
      case rel => exact ⟨_, (true), (by first | rfl | (simp; done) | (simp [*]; done) | (simp [i64_w]; done) | (simp [*, i64_w]; done)), H', ⟨by first | omega | exact Nat.le_refl _⟩, ⟨by (with_reducible repeat (first | apply Kd.V_alloc | apply Kd.V_drewN | apply Kd.V_drew)); exact Kd.V_mono HO578.out (fun _ hk => hk.2)⟩, ⟨by (with_reducible repeat (first | apply Kd.V_alloc | apply Kd.V_drewN | apply Kd.V_drew)); exact Kd.V_mono HO581.out (fun _ hk => hk.2)⟩, ⟨by (with_reducible repeat (first | refine blk_drewN ?_ _ | refine blk_drew ?_ | refine blk_alloc ?_ _)); exact BK584.out⟩, ⟨by repeat (first | (with_reducible first | exact HB.out | apply below_alloc | apply pw_below_drewN | apply below_drew1 | refine below_set ?_ GE584.out) | exact HB.out)⟩⟩
  case rest =>
    clear HC5
    try clear c1
    try clear c2
    try clear p2
    try clear c7
    try clear c11
    try clear c12
    try clear hcz9_0
    try clear hfz9_0
    obtain ⟨kq, x29_4, rfl, HA, HJ4, HO_7, HO_585000, BK584, HB⟩ := hcut
    cases kq with
    | zero => exact absurd HA.out (by simp [heraldlaw04_NatShifts.j0])
    | succ kj4 =>
      have H := HA.out
      clear HA
      simp only [heraldlaw04_NatShifts.j0] at H
      by_cases c14 : x29_4 = true
      · subst c14
        have H1 : (some false) = some r := by rw [if_pos rfl] at H; exact H
        clear H
        have H := H1
        clear H1
        obtain rfl := Option.some.inj H
        go_wp2
        go_ret
        exact ⟨by first | rfl | (simp [errW_none, errW_some] <;> rfl) | (simp [*, errW_none, errW_some] <;> rfl), by repeat (first | (with_reducible first | exact HB.out | apply below_alloc | apply pw_below_drewN | apply below_drew1 | refine below_set ?_ GE584.out) | exact HB.out)⟩
      · replace c14 := Bool.eq_false_iff.mpr c14
        subst c14
        have H1 : (if t582 = true then ((nat_Nat_Up.f kj4 t579 a1).bind fun bt586 => (if a1 ≥ 0 then ((heraldref04_Up.f kj4 t576 a1).bind fun bt594 => (if bt594.2 = true then (heraldlaw04_NatShifts.j1 kj4 a1 a2 t576 bt586.2 bt594.1 0 t579 bt586.1) else (heraldlaw04_NatShifts.j1 kj4 a1 a2 t576 bt586.2 ([] : List Int) 41 t579 bt586.1))) else (heraldlaw04_NatShifts.j1 kj4 a1 a2 t576 bt586.2 (([] : List Int)) 1 t579 bt586.1))) else (some true)) = some r := by rw [if_neg (show ¬ (false = true) by decide)] at H; exact H
        clear H
        have H := H1
        clear H1
        by_cases c15 : t582 = true
        · subst c15
          have H1 : ((nat_Nat_Up.f kj4 t579 a1).bind fun bt586 => (if a1 ≥ 0 then ((heraldref04_Up.f kj4 t576 a1).bind fun bt594 => (if bt594.2 = true then (heraldlaw04_NatShifts.j1 kj4 a1 a2 t576 bt586.2 bt594.1 0 t579 bt586.1) else (heraldlaw04_NatShifts.j1 kj4 a1 a2 t576 bt586.2 ([] : List Int) 41 t579 bt586.1))) else (heraldlaw04_NatShifts.j1 kj4 a1 a2 t576 bt586.2 (([] : List Int)) 1 t579 bt586.1))) = some r := by rw [if_pos rfl] at H; exact H
          clear H
          have H := H1
          clear H1
          replace H := Option.bind_eq_some_iff.mp H
          obtain ⟨⟨t586, t589⟩, A160, H⟩ := H
          replace H : (if a1 ≥ 0 then ((heraldref04_Up.f kj4 t576 a1).bind fun bt594 => (if bt594.2 = true then (heraldlaw04_NatShifts.j1 kj4 a1 a2 t576 t589 bt594.1 0 t579 t586) else (heraldlaw04_NatShifts.j1 kj4 a1 a2 t576 t589 ([] : List Int) 41 t579 t586))) else (heraldlaw04_NatShifts.j1 kj4 a1 a2 t576 t589 (([] : List Int)) 1 t579 t586)) = some r := H
          have A16 := Aside0.mk A160
          clear A160
          obtain ⟨y591, hy591⟩ : ∃ y_ : List Int, y_ = (([] : List Int)) := ⟨_, rfl⟩
          replace H : (if a1 ≥ 0 then ((heraldref04_Up.f kj4 t576 a1).bind fun bt594 => (if bt594.2 = true then (heraldlaw04_NatShifts.j1 kj4 a1 a2 t576 t589 bt594.1 0 t579 t586) else (heraldlaw04_NatShifts.j1 kj4 a1 a2 t576 t589 ([] : List Int) 41 t579 t586))) else (heraldlaw04_NatShifts.j1 kj4 a1 a2 t576 t589 y591 1 t579 t586)) = some r := by first | (rw [hy591]; with_reducible exact H) | (have H2_ := (Option.bind_some _ _).symm.trans H; rw [hy591]; with_reducible exact H2_) | (have H2_ := (Option.bind_some _ _).symm.trans H; with_reducible exact H2_) | with_reducible exact H | (rw [hy591]; exact H) | exact H
          have Ny591 := Aside0.mk hy591
          clear hy591
          have HC17 := Aside0.mk H
          clear H
          have hcz18_0 : wc.cell? ⟨gb584, 0, none⟩ = some (.slice Ao8 t579.length co8) := (blk_cell BK584.out 0).trans rfl
          have hfz18_0 := blk_frozen BK584.out 0
          go_upto_if 40 with (first | ((with_reducible refine gate_callee (f := 34) rfl ?_); refine goesL_ (some 35) rfl rfl Tryd.func34 (by kernel_rfl) rfl #[.agg #[.slice Ao8 t579.length co8], .int .i64 a1] rfl (by (try simp only [List.map_toArray, List.map_cons, List.map_nil]); first | done | rfl | (simp only [List.length_drop, List.length_take]; rfl)) ?_; (with_reducible refine (nat_Nat_Up.calls kj4 _ _ t579 a1 t586 t589 _ ?side1 ?side2 A16.out).mono ?_); (case side1 => repeat (first | exact (Kd.V_reads' HO_585000.out).2.2 | (with_reducible refine Kd.C_alloc ?_ _) | (with_reducible refine Kd.C_drewN ?_ _) | (with_reducible refine Kd.C_drew ?_))); (case side2 => exact (Kd.V_reads' HO_585000.out).2.1); rintro e w19 ⟨v587, rfl, ho0, hb⟩; refine ⟨_, rfl, ?_⟩; have n0_ := Aside0.mk (Kd.V_below (by (with_reducible repeat (first | apply Kd.V_alloc | apply Kd.V_drewN | apply Kd.V_drew)); exact HO_7.out) hb); have n1_ := Aside0.mk (Kd.V_below (by (with_reducible repeat (first | apply Kd.V_alloc | apply Kd.V_drewN | apply Kd.V_drew)); exact HO_585000.out) hb); have n2_ := Aside0.mk (Kd.V_lower (Kd.V_mono (ok' := fun k_ => k_ ≠ gb584) ho0 (fun k_ hk_ => (Kd.freshB (g := gb584) (o := .cells #[.slice Ao8 t579.length co8] 26 (0, 0)) (by (with_reducible repeat (first | refine blk_drewN ?_ _ | refine blk_drew ?_ | refine blk_alloc ?_ _)); exact BK584.out) k_ hk_))) (below_size (by repeat (first | (with_reducible first | exact HB.out | apply below_alloc | apply pw_below_drewN | apply below_drew1 | refine below_set ?_ GE584.out) | exact HB.out)))); have n3_ := Aside0.mk (blk_below (g := gb584) (o := .cells #[.slice Ao8 t579.length co8] 26 (0, 0)) (by (with_reducible repeat (first | refine blk_drewN ?_ _ | refine blk_drew ?_ | refine blk_alloc ?_ _)); exact BK584.out) hb); have n4_ := Aside0.mk (below_step (by repeat (first | (with_reducible first | exact HB.out | apply below_alloc | apply pw_below_drewN | apply below_drew1 | refine below_set ?_ GE584.out) | exact HB.out)) hb); clear HO_7; clear HO_585000; clear BK584; clear HB; have HO_7 := n0_; have HO_585000 := n1_; have HO588 := n2_; have BK584 := n3_; have HB := n4_; clear n0_ n1_ n2_ n3_ n4_; (try clear hb); (try clear hb2); (try clear hk); (try clear hi); (try clear ho0)) | ((with_reducible refine gate_dst (N := 11) rfl ?_); refine box_event ?hg (N := 11) ?hd (cs := #[.slice none 0 0]) (t := 26) ?hr ?_; (case hd => rfl); (case hg => rfl); (case hr => first | (go_simp; done) | (go_simp; rfl)); intro gb590 hg w20 hbox hb; have n0_ := Aside0.mk (Kd.V_below (Kd.V_elderB (by (with_reducible repeat (first | apply Kd.V_alloc | apply Kd.V_drewN | apply Kd.V_drew)); exact HO_7.out) gb590 (Nat.le_of_eq hg.symm)) hb); have n1_ := Aside0.mk (Kd.V_below (Kd.V_elderB (by (with_reducible repeat (first | apply Kd.V_alloc | apply Kd.V_drewN | apply Kd.V_drew)); exact HO_585000.out) gb590 (Nat.le_of_eq hg.symm)) hb); have n2_ := Aside0.mk (Kd.V_below (Kd.V_elderB (by (with_reducible repeat (first | apply Kd.V_alloc | apply Kd.V_drewN | apply Kd.V_drew)); exact HO588.out) gb590 (Nat.le_of_eq hg.symm)) hb); have n3_ := Aside0.mk (blk_below (g := gb584) (o := .cells #[.slice Ao8 t579.length co8] 26 (0, 0)) (by (with_reducible repeat (first | refine blk_drewN ?_ _ | refine blk_drew ?_ | refine blk_alloc ?_ _)); exact BK584.out) hb); have n4_ := Aside0.mk (below_step (by repeat (first | (with_reducible first | exact HB.out | apply below_alloc | apply pw_below_drewN | apply below_drew1 | refine below_set ?_ GE584.out) | exact HB.out)) hb); have n5_ := Aside0.mk (hbox); have n6_ := Aside0.mk ((by rw [hg]; exact (below_size (by repeat (first | (with_reducible first | exact HB.out | apply below_alloc | apply pw_below_drewN | apply below_drew1 | refine below_set ?_ GE584.out) | exact HB.out))) : w.heap.size ≤ gb590)); have n7_ := Aside0.mk ((by rw [hg]; exact (below_size (by repeat (first | (with_reducible first | exact HB.out | apply below_alloc | apply pw_below_drewN | apply below_drew1 | refine below_set ?_ GE584.out) | exact HB.out))) : w.heap.size ≤ gb590)); have n8_ := Aside0.mk ((by rw [hg]; exact Nat.ne_of_lt (blk_lt (g := gb584) (o := .cells #[.slice Ao8 t579.length co8] 26 (0, 0)) (by (with_reducible repeat (first | refine blk_drewN ?_ _ | refine blk_drew ?_ | refine blk_alloc ?_ _)); exact BK584.out)) : gb584 ≠ gb590)); have n9_ := Aside0.mk ((by rw [hg]; exact Nat.ne_of_gt (blk_lt (g := gb584) (o := .cells #[.slice Ao8 t579.length co8] 26 (0, 0)) (by (with_reducible repeat (first | refine blk_drewN ?_ _ | refine blk_drew ?_ | refine blk_alloc ?_ _)); exact BK584.out)) : gb590 ≠ gb584)); clear HO_7; clear HO_585000; clear HO588; clear BK584; clear HB; have HO_7 := n0_; have HO_585000 := n1_; have HO588 := n2_; have BK584 := n3_; have HB := n4_; have BK590 := n5_; have GW590 := n6_; have GE590 := n7_; have NB584_590 := n8_; have NB590_584 := n9_; clear n0_ n1_ n2_ n3_ n4_ n5_ n6_ n7_ n8_ n9_; clear hb hbox hg; obtain ⟨Ao21, co21, eo21⟩ := Kd.V_slice HO588.out; subst eo21; have hnb22 := NB590_584.out; have hnc22 := NB584_590.out; have hcz23_0 : w20.cell? ⟨gb590, 0, none⟩ = some (.slice none 0 0) := (blk_cell BK590.out 0).trans rfl; have hfz23_0 := blk_frozen BK590.out 0) | ((with_reducible refine gate_dst (N := 38) rfl ?_); refine Kd.R_lit (Kd.int .i64) _ 3 ?hg (N := 38) ?hd (xs := ([] : List Int)) (inner := []) (ok := fun _ => True) (okp := fun _ => True) ?hr ?hp (fun _ hk => hk) trivial (Below.refl _ _) (Nat.le_refl _) (by simp) ?_; (case hd => rfl); (case hg => rfl); (case hr => first | (go_simp; done) | (go_simp; rfl)); (case hp => exact (Reps.none _ _)); intro v592 w24 ho25 hb hg_ hnew_; clear hg_ hnew_; (first | rw [← Ny591.out] at ho25 | (simp only [Int.reduceToNat] at ho25; rw [← Ny591.out] at ho25)); have n0_ := Aside0.mk (Kd.V_elder' (by (with_reducible repeat (first | apply Kd.V_alloc | apply Kd.V_drewN | apply Kd.V_drew)); exact (Kd.V_mono (Kd.V_far (p := ⟨gb590, 0, none⟩) (Kd.V_mono HO_7.out (fun k_ hk => (⟨hk, hk.2⟩ : _ ∧ k_ ≠ gb590))) (fun _ hk => hk.2) (.slice Ao21 t586.length co21)) (fun _ h_ => h_.1))) (Kd.R_base ho25) hb); have n1_ := Aside0.mk (Kd.V_elder' (by (with_reducible repeat (first | apply Kd.V_alloc | apply Kd.V_drewN | apply Kd.V_drew)); exact (Kd.V_mono (Kd.V_far (p := ⟨gb590, 0, none⟩) (Kd.V_mono HO_585000.out (fun k_ hk => (⟨hk, hk.2⟩ : _ ∧ k_ ≠ gb590))) (fun _ hk => hk.2) (.slice Ao21 t586.length co21)) (fun _ h_ => h_.1))) (Kd.R_base ho25) hb); have n2_ := Aside0.mk (Kd.V_elder' (by (with_reducible repeat (first | apply Kd.V_alloc | apply Kd.V_drewN | apply Kd.V_drew)); exact (Kd.V_mono (Kd.V_far (p := ⟨gb590, 0, none⟩) (Kd.V_mono HO588.out (fun k_ hk => (⟨hk, hk.2⟩ : _ ∧ k_ ≠ gb590))) (fun _ hk => hk.2) (.slice Ao21 t586.length co21)) (fun _ h_ => h_.1))) (Kd.R_base ho25) hb); have n3_ := Aside0.mk (Kd.R_lower ho25 (below_size (by repeat (first | (with_reducible first | exact HB.out | apply below_alloc | apply pw_below_drewN | apply below_drew1 | refine below_set ?_ GE584.out | refine below_set ?_ GE590.out) | exact HB.out)))); have n4_ := Aside0.mk (blk_below (g := gb584) (o := .cells #[.slice Ao8 t579.length co8] 26 (0, 0)) (by (with_reducible repeat (first | refine blk_drewN ?_ _ | refine blk_drew ?_ | refine blk_alloc ?_ _)); refine blk_far ?_ NB584_590.out _; (with_reducible repeat (first | refine blk_drewN ?_ _ | refine blk_drew ?_ | refine blk_alloc ?_ _)); exact BK584.out) hb); have n5_ := Aside0.mk (blk_below (g := gb590) (o := .cells #[.slice Ao21 t586.length co21] 26 (0, 0)) (by (with_reducible repeat (first | refine blk_drewN ?_ _ | refine blk_drew ?_ | refine blk_alloc ?_ _)); refine blk_put (cs := #[.slice none 0 0]) ?_ 0 _ rfl; (with_reducible repeat (first | refine blk_drewN ?_ _ | refine blk_drew ?_ | refine blk_alloc ?_ _)); exact BK590.out) hb); have n6_ := Aside0.mk (below_step (by repeat (first | (with_reducible first | exact HB.out | apply below_alloc | apply pw_below_drewN | apply below_drew1 | refine below_set ?_ GE584.out | refine below_set ?_ GE590.out) | exact HB.out)) hb); clear HO_7; clear HO_585000; clear HO588; clear BK584; clear BK590; clear HB; have HO_7 := n0_; have HO_585000 := n1_; have HO588 := n2_; have HO593 := n3_; have BK584 := n4_; have BK590 := n5_; have HB := n6_; clear n0_ n1_ n2_ n3_ n4_ n5_ n6_; clear hb ho25))
          (try simp only [Act.put, List.setIfInBounds_toArray, List.set_cons_zero, List.set_cons_succ])
          go_cut [13, 14] (fun v13 v14 wc => ∃ (kq : Nat) (x13_16 : List Int) (x14_16 : Int), v14 = .int .i64 x14_16 ∧ Aside0 (heraldlaw04_NatShifts.j1 kq a1 a2 t576 t589 x13_16 x14_16 t579 t586 = some r) ∧ Aside0 (kq ≤ kj4) ∧ Aside0 (Kd.V (Kd.int .i64) 3 wc w.heap.size (fun k_ => k_ ≠ gb584 ∧ k_ ≠ gb590) v577 t576) ∧ Aside0 (Kd.V (Kd.int .i64) 3 wc w.heap.size (fun k_ => k_ ≠ gb584 ∧ k_ ≠ gb590) v13 x13_16) ∧ Aside0 (Kd.V (Kd.int .u32) 79 wc w.heap.size (fun k_ => k_ ≠ gb584 ∧ k_ ≠ gb590) (.slice Ao8 t579.length co8) t579) ∧ Aside0 (Kd.V (Kd.int .u32) 79 wc w.heap.size (fun k_ => k_ ≠ gb584 ∧ k_ ≠ gb590) (.slice Ao21 t586.length co21) t586) ∧ Aside0 (wc.heap[gb584]? = some (.cells #[(.slice Ao8 t579.length co8)] 26 (0, 0))) ∧ Aside0 (wc.heap[gb590]? = some (.cells #[(.slice Ao21 t586.length co21)] 26 (0, 0))) ∧ Aside0 (Below w.heap.size w wc))
          case first =>
            have H := HC17.out
            clear HC17
            by_cases c26 : a1 ≥ 0
            · rw [if_pos c26] at H
              have c26b0 : decide (0 ≤ a1) = true := decide_eq_true c26
              clear c26
              (first | rw [c26b0] | (simp only [i64_w, i32_w]; rw [c26b0]) | skip)
              replace H := Option.bind_eq_some_iff.mp H
              obtain ⟨⟨t594, t597⟩, A270, H⟩ := H
              replace H : (if t597 = true then (heraldlaw04_NatShifts.j1 kj4 a1 a2 t576 t589 t594 0 t579 t586) else (heraldlaw04_NatShifts.j1 kj4 a1 a2 t576 t589 ([] : List Int) 41 t579 t586)) = some r := H
              have A27 := Aside0.mk A270
              clear A270
              by_cases c28 : t597 = true
              · subst c28
                have H1 : (heraldlaw04_NatShifts.j1 kj4 a1 a2 t576 t589 t594 0 t579 t586) = some r := by rw [if_pos rfl] at H; exact H
                clear H
                have H := H1
                clear H1
                have H' := Aside0.mk H
                clear H
                obtain ⟨Ao29, co29, eo29⟩ := Kd.V_slice HO_7.out
                subst eo29
                go_wp2_with (first | ((with_reducible refine gate_callee (f := 35) rfl ?_); refine goesL_ (some 44) rfl rfl Tryd.func35 (by kernel_rfl) rfl #[.slice Ao29 t576.length co29, .int .i64 a1] rfl (by (try simp only [List.map_toArray, List.map_cons, List.map_nil]); first | done | rfl | (simp only [List.length_drop, List.length_take]; rfl)) ?_; (with_reducible refine (heraldref04_Up.calls kj4 (fun k_ => ((k_ ≠ gb584 ∧ k_ ≠ gb590) ∧ some k_ ≠ (v592 : Value).ownBlock)) _ _ t576 a1 t594 true _ ?side1 A27.out).mono ?_); (case side1 => exact HO_7.out); rintro e w30 ⟨v595, rfl, ho0, hb⟩; refine ⟨_, rfl, ?_⟩; have n0_ := Aside0.mk (Kd.V_below (by (with_reducible repeat (first | apply Kd.V_alloc | apply Kd.V_drewN | apply Kd.V_drew)); exact HO_7.out) hb); have n1_ := Aside0.mk (Kd.V_below (by (with_reducible repeat (first | apply Kd.V_alloc | apply Kd.V_drewN | apply Kd.V_drew)); exact HO_585000.out) hb); have n2_ := Aside0.mk (Kd.V_below (by (with_reducible repeat (first | apply Kd.V_alloc | apply Kd.V_drewN | apply Kd.V_drew)); exact HO588.out) hb); have n3_ := Aside0.mk (Kd.R_below (by (with_reducible repeat (first | apply Kd.R_alloc | apply Kd.R_drewN | apply Kd.R_drew)); exact HO593.out) hb); have n4_ := Aside0.mk (Kd.V_lower (Kd.V_mono (ok' := fun k_ => some k_ ≠ (v592 : Value).ownBlock ∧ k_ ≠ gb584 ∧ k_ ≠ gb590) ho0 (fun k_ hk_ => ⟨Or.elim hk_ (fun hs_ => hs_.2) (fun hn_ => (Kd.fresh' (Kd.R_lt (by (with_reducible repeat (first | apply Kd.R_alloc | apply Kd.R_drewN | apply Kd.R_drew)); exact HO593.out)) k_ hn_)), Or.elim hk_ (fun hs_ => hs_.1.1) (fun hn_ => (Kd.freshB (g := gb584) (o := .cells #[.slice Ao8 t579.length co8] 26 (0, 0)) (by (with_reducible repeat (first | refine blk_drewN ?_ _ | refine blk_drew ?_ | refine blk_alloc ?_ _)); exact BK584.out) k_ hn_)), Or.elim hk_ (fun hs_ => hs_.1.2) (fun hn_ => (Kd.freshB (g := gb590) (o := .cells #[.slice Ao21 t586.length co21] 26 (0, 0)) (by (with_reducible repeat (first | refine blk_drewN ?_ _ | refine blk_drew ?_ | refine blk_alloc ?_ _)); exact BK590.out) k_ hn_))⟩)) (below_size (by repeat (first | (with_reducible first | exact HB.out | apply below_alloc | apply pw_below_drewN | apply below_drew1 | refine below_set ?_ GE584.out | refine below_set ?_ GE590.out) | exact HB.out)))); have n5_ := Aside0.mk (blk_below (g := gb584) (o := .cells #[.slice Ao8 t579.length co8] 26 (0, 0)) (by (with_reducible repeat (first | refine blk_drewN ?_ _ | refine blk_drew ?_ | refine blk_alloc ?_ _)); exact BK584.out) hb); have n6_ := Aside0.mk (blk_below (g := gb590) (o := .cells #[.slice Ao21 t586.length co21] 26 (0, 0)) (by (with_reducible repeat (first | refine blk_drewN ?_ _ | refine blk_drew ?_ | refine blk_alloc ?_ _)); exact BK590.out) hb); have n7_ := Aside0.mk (below_step (by repeat (first | (with_reducible first | exact HB.out | apply below_alloc | apply pw_below_drewN | apply below_drew1 | refine below_set ?_ GE584.out | refine below_set ?_ GE590.out) | exact HB.out)) hb); clear HO_7; clear HO_585000; clear HO588; clear HO593; clear BK584; clear BK590; clear HB; have HO_7 := n0_; have HO_585000 := n1_; have HO588 := n2_; have HO593 := n3_; have HO596 := n4_; have BK584 := n5_; have BK590 := n6_; have HB := n7_; clear n0_ n1_ n2_ n3_ n4_ n5_ n6_ n7_; (try clear hb); (try clear hb2); (try clear hk); (try clear hi); (try clear ho0)))
                go_meet
                case rel => exact ⟨_, (t594), (0), (by first | rfl | (simp; done) | (simp [*]; done) | (simp [i64_w]; done) | (simp [*, i64_w]; done)), H', ⟨by have := HJ4.out; first | omega | exact Nat.le_refl _⟩, ⟨by (with_reducible repeat (first | apply Kd.V_alloc | apply Kd.V_drewN | apply Kd.V_drew)); exact Kd.V_mono HO_7.out (fun _ hk => ⟨hk.1.1, hk.1.2⟩)⟩, ⟨by (with_reducible repeat (first | apply Kd.V_alloc | apply Kd.V_drewN | apply Kd.V_drew)); exact Kd.V_mono HO596.out (fun _ hk => ⟨hk.2.1, hk.2.2⟩)⟩, ⟨by (with_reducible repeat (first | apply Kd.V_alloc | apply Kd.V_drewN | apply Kd.V_drew)); exact Kd.V_mono HO_585000.out (fun _ hk => ⟨hk.1.1, hk.1.2⟩)⟩, ⟨by (with_reducible repeat (first | apply Kd.V_alloc | apply Kd.V_drewN | apply Kd.V_drew)); exact Kd.V_mono HO588.out (fun _ hk => ⟨hk.1.1, hk.1.2⟩)⟩, ⟨by (with_reducible repeat (first | refine blk_drewN ?_ _ | refine blk_drew ?_ | refine blk_alloc ?_ _)); exact BK584.out⟩, ⟨by (with_reducible repeat (first | refine blk_drewN ?_ _ | refine blk_drew ?_ | refine blk_alloc ?_ _)); exact BK590.out⟩, ⟨by repeat (first | (with_reducible first | exact HB.out | apply below_alloc | apply pw_below_drewN | apply below_drew1 | refine below_set ?_ GE584.out | refine below_set ?_ GE590.out) | exact HB.out)⟩⟩
              · replace c28 := Bool.eq_false_iff.mpr c28
                subst c28
                have H1 : (heraldlaw04_NatShifts.j1 kj4 a1 a2 t576 t589 ([] : List Int) 41 t579 t586) = some r := by rw [if_neg (show ¬ (false = true) by decide)] at H; exact H
                clear H
                have H := H1
                clear H1
                have H' := Aside0.mk H
                clear H
                obtain ⟨Ao31, co31, eo31⟩ := Kd.V_slice HO_7.out
                subst eo31
                go_wp2_with (first | ((with_reducible refine gate_callee (f := 35) rfl ?_); refine goesL_ (some 44) rfl rfl Tryd.func35 (by kernel_rfl) rfl #[.slice Ao31 t576.length co31, .int .i64 a1] rfl (by (try simp only [List.map_toArray, List.map_cons, List.map_nil]); first | done | rfl | (simp only [List.length_drop, List.length_take]; rfl)) ?_; (with_reducible refine (heraldref04_Up.calls kj4 (fun k_ => ((k_ ≠ gb584 ∧ k_ ≠ gb590) ∧ some k_ ≠ (v592 : Value).ownBlock)) _ _ t576 a1 t594 false _ ?side1 A27.out).mono ?_); (case side1 => exact HO_7.out); rintro e w32 ⟨v595, rfl, ho0, hb⟩; refine ⟨_, rfl, ?_⟩; have n0_ := Aside0.mk (Kd.V_below (by (with_reducible repeat (first | apply Kd.V_alloc | apply Kd.V_drewN | apply Kd.V_drew)); exact HO_7.out) hb); have n1_ := Aside0.mk (Kd.V_below (by (with_reducible repeat (first | apply Kd.V_alloc | apply Kd.V_drewN | apply Kd.V_drew)); exact HO_585000.out) hb); have n2_ := Aside0.mk (Kd.V_below (by (with_reducible repeat (first | apply Kd.V_alloc | apply Kd.V_drewN | apply Kd.V_drew)); exact HO588.out) hb); have n3_ := Aside0.mk (Kd.R_below (by (with_reducible repeat (first | apply Kd.R_alloc | apply Kd.R_drewN | apply Kd.R_drew)); exact HO593.out) hb); have n4_ := Aside0.mk (Kd.V_lower (Kd.V_mono (ok' := fun k_ => some k_ ≠ (v592 : Value).ownBlock ∧ k_ ≠ gb584 ∧ k_ ≠ gb590) ho0 (fun k_ hk_ => ⟨Or.elim hk_ (fun hs_ => hs_.2) (fun hn_ => (Kd.fresh' (Kd.R_lt (by (with_reducible repeat (first | apply Kd.R_alloc | apply Kd.R_drewN | apply Kd.R_drew)); exact HO593.out)) k_ hn_)), Or.elim hk_ (fun hs_ => hs_.1.1) (fun hn_ => (Kd.freshB (g := gb584) (o := .cells #[.slice Ao8 t579.length co8] 26 (0, 0)) (by (with_reducible repeat (first | refine blk_drewN ?_ _ | refine blk_drew ?_ | refine blk_alloc ?_ _)); exact BK584.out) k_ hn_)), Or.elim hk_ (fun hs_ => hs_.1.2) (fun hn_ => (Kd.freshB (g := gb590) (o := .cells #[.slice Ao21 t586.length co21] 26 (0, 0)) (by (with_reducible repeat (first | refine blk_drewN ?_ _ | refine blk_drew ?_ | refine blk_alloc ?_ _)); exact BK590.out) k_ hn_))⟩)) (below_size (by repeat (first | (with_reducible first | exact HB.out | apply below_alloc | apply pw_below_drewN | apply below_drew1 | refine below_set ?_ GE584.out | refine below_set ?_ GE590.out) | exact HB.out)))); have n5_ := Aside0.mk (blk_below (g := gb584) (o := .cells #[.slice Ao8 t579.length co8] 26 (0, 0)) (by (with_reducible repeat (first | refine blk_drewN ?_ _ | refine blk_drew ?_ | refine blk_alloc ?_ _)); exact BK584.out) hb); have n6_ := Aside0.mk (blk_below (g := gb590) (o := .cells #[.slice Ao21 t586.length co21] 26 (0, 0)) (by (with_reducible repeat (first | refine blk_drewN ?_ _ | refine blk_drew ?_ | refine blk_alloc ?_ _)); exact BK590.out) hb); have n7_ := Aside0.mk (below_step (by repeat (first | (with_reducible first | exact HB.out | apply below_alloc | apply pw_below_drewN | apply below_drew1 | refine below_set ?_ GE584.out | refine below_set ?_ GE590.out) | exact HB.out)) hb); clear HO_7; clear HO_585000; clear HO588; clear HO593; clear BK584; clear BK590; clear HB; have HO_7 := n0_; have HO_585000 := n1_; have HO588 := n2_; have HO593 := n3_; have HO596 := n4_; have BK584 := n5_; have BK590 := n6_; have HB := n7_; clear n0_ n1_ n2_ n3_ n4_ n5_ n6_ n7_; (try clear hb); (try clear hb2); (try clear hk); (try clear hi); (try clear ho0)))
                go_meet
                case rel => exact ⟨_, (([] : List Int)), (41), (by first | rfl | (simp; done) | (simp [*]; done) | (simp [i64_w]; done) | (simp [*, i64_w]; done)), H', ⟨by have := HJ4.out; first | omega | exact Nat.le_refl _⟩, ⟨by (with_reducible repeat (first | apply Kd.V_alloc | apply Kd.V_drewN | apply Kd.V_drew)); exact Kd.V_mono HO_7.out (fun _ hk => ⟨hk.1.1, hk.1.2⟩)⟩, ⟨Kd.R_V (base := w.heap.size) (by first | exact Kd.R_nil _ _ _ _ (fun _ => False) | exact Kd.R_nil _ _ _ _ _ | exact Kd.N_nil _ _ _ _ _ | exact Kd.V_nil _ _ _ _ _ | exact Kd.Q_nil _ _ _ _ _ | exact Kd.S_nil _ _ _ _ _)⟩, ⟨by (with_reducible repeat (first | apply Kd.V_alloc | apply Kd.V_drewN | apply Kd.V_drew)); exact Kd.V_mono HO_585000.out (fun _ hk => ⟨hk.1.1, hk.1.2⟩)⟩, ⟨by (with_reducible repeat (first | apply Kd.V_alloc | apply Kd.V_drewN | apply Kd.V_drew)); exact Kd.V_mono HO588.out (fun _ hk => ⟨hk.1.1, hk.1.2⟩)⟩, ⟨by (with_reducible repeat (first | refine blk_drewN ?_ _ | refine blk_drew ?_ | refine blk_alloc ?_ _)); exact BK584.out⟩, ⟨by (with_reducible repeat (first | refine blk_drewN ?_ _ | refine blk_drew ?_ | refine blk_alloc ?_ _)); exact BK590.out⟩, ⟨by repeat (first | (with_reducible first | exact HB.out | apply below_alloc | apply pw_below_drewN | apply below_drew1 | refine below_set ?_ GE584.out | refine below_set ?_ GE590.out) | exact HB.out)⟩⟩
            · rw [if_neg c26] at H
              have c26b0 : decide (0 ≤ a1) = false := decide_eq_false c26
              clear c26
              (first | rw [c26b0] | (simp only [i64_w, i32_w]; rw [c26b0]) | skip)
              have H' := Aside0.mk H
              clear H
              go_wp2
              go_meet
              case rel => exact ⟨_, (y591), (1), (by first | rfl | (simp; done) | (simp [*]; done) | (simp [i64_w]; done) | (simp [*, i64_w]; done)), H', ⟨by have := HJ4.out; first | omega | exact Nat.le_refl _⟩, ⟨by (with_reducible repeat (first | apply Kd.V_alloc | apply Kd.V_drewN | apply Kd.V_drew)); exact Kd.V_mono HO_7.out (fun _ hk => ⟨hk.1.1, hk.1.2⟩)⟩, ⟨Kd.R_V (by (with_reducible repeat (first | apply Kd.R_alloc | apply Kd.R_drewN | apply Kd.R_drew)); exact Kd.R_mono (Kd.R_types (Kd.R_types HO593.out BK584.out (by decide)) BK590.out (by decide)) (fun _ hk => ⟨hk.1.2, hk.2⟩))⟩, ⟨by (with_reducible repeat (first | apply Kd.V_alloc | apply Kd.V_drewN | apply Kd.V_drew)); exact Kd.V_mono HO_585000.out (fun _ hk => ⟨hk.1.1, hk.1.2⟩)⟩, ⟨by (with_reducible repeat (first | apply Kd.V_alloc | apply Kd.V_drewN | apply Kd.V_drew)); exact Kd.V_mono HO588.out (fun _ hk => ⟨hk.1.1, hk.1.2⟩)⟩, ⟨by (with_reducible repeat (first | refine blk_drewN ?_ _ | refine blk_drew ?_ | refine blk_alloc ?_ _)); exact BK584.out⟩, ⟨by (with_reducible repeat (first | refine blk_drewN ?_ _ | refine blk_drew ?_ | refine blk_alloc ?_ _)); exact BK590.out⟩, ⟨by repeat (first | (with_reducible first | exact HB.out | apply below_alloc | apply pw_below_drewN | apply below_drew1 | refine below_set ?_ GE584.out | refine below_set ?_ GE590.out) | exact HB.out)⟩⟩
          case rest =>
            clear HC17
            try clear c1
            try clear c2
            try clear p2
            try clear c3
            try clear c7
            try clear c11
            try clear c12
            try clear c14
            try clear c15
            try clear c21
            try clear c22
            try clear c26
            try clear c26b0
            try clear c28
            try clear hcz18_0
            try clear hcz23_0
            try clear hcz9_0
            try clear hfz18_0
            try clear hfz23_0
            try clear hfz9_0
            try clear p2
            obtain ⟨kq, x13_16, x14_16, rfl, HA, HJ16, HO_7, HO_13, HO_585000, HO_591000, BK584, BK590, HB⟩ := hcut
            cases kq with
            | zero => exact absurd HA.out (by simp [heraldlaw04_NatShifts.j1])
            | succ kj16 =>
              have H := HA.out
              clear HA
              simp only [heraldlaw04_NatShifts.j1] at H
              replace H := Option.bind_eq_some_iff.mp H
              obtain ⟨t598, A330, H⟩ := H
              replace H : (if t598 = true then ((nat_Nat_Down.f kj16 t579 a1).bind fun bt599 => (if a1 ≥ 0 then ((heraldref04_Down.f kj16 t576 a1).bind fun t603 => (heraldlaw04_NatShifts.j2 kj16 a2 t576 bt599.2 t603 0 t579 bt599.1)) else (heraldlaw04_NatShifts.j2 kj16 a2 t576 bt599.2 ([] : List Int) 1 t579 bt599.1))) else (some false)) = some r := H
              have A33 := Aside0.mk A330
              clear A330
              by_cases c34 : t598 = true
              · subst c34
                have H1 : ((nat_Nat_Down.f kj16 t579 a1).bind fun bt599 => (if a1 ≥ 0 then ((heraldref04_Down.f kj16 t576 a1).bind fun t603 => (heraldlaw04_NatShifts.j2 kj16 a2 t576 bt599.2 t603 0 t579 bt599.1)) else (heraldlaw04_NatShifts.j2 kj16 a2 t576 bt599.2 ([] : List Int) 1 t579 bt599.1))) = some r := by rw [if_pos rfl] at H; exact H
                clear H
                have H := H1
                clear H1
                replace H := Option.bind_eq_some_iff.mp H
                obtain ⟨⟨t599, t602⟩, A350, H⟩ := H
                replace H : (if a1 ≥ 0 then ((heraldref04_Down.f kj16 t576 a1).bind fun t603 => (heraldlaw04_NatShifts.j2 kj16 a2 t576 t602 t603 0 t579 t599)) else (heraldlaw04_NatShifts.j2 kj16 a2 t576 t602 ([] : List Int) 1 t579 t599)) = some r := H
                have A35 := Aside0.mk A350
                clear A350
                have HC36 := Aside0.mk H
                clear H
                have hnb37 := NB590_584.out
                have hnc37 := NB584_590.out
                have hcz38_0 : wc.cell? ⟨gb590, 0, none⟩ = some (.slice Ao21 t586.length co21) := (blk_cell BK590.out 0).trans rfl
                have hfz38_0 := blk_frozen BK590.out 0
                obtain ⟨Ao39, co39, eo39⟩ := Kd.V_slice HO_13.out
                subst eo39
                go_upto_if 63 with (first | ((with_reducible refine gate_callee (f := 14) rfl ?_); refine goesL_ (some 54) rfl rfl Tryd.func14 (by kernel_rfl) rfl #[.agg #[.slice Ao21 t586.length co21], .int .i64 t589, .slice Ao39 x13_16.length co39, .int .i64 x14_16] rfl (by (try simp only [List.map_toArray, List.map_cons, List.map_nil]); first | done | rfl | (simp only [List.length_drop, List.length_take]; rfl)) ?_; (with_reducible refine (heraldlaw04_is.calls kj16 _ _ t586 t589 _ _ x13_16 x14_16 true _ ?side1 ?side2 ?side3 ?side4 A33.out).mono ?_); (case side1 => repeat (first | exact (Kd.V_reads' HO_591000.out).2.2 | (with_reducible refine Kd.C_alloc ?_ _) | (with_reducible refine Kd.C_drewN ?_ _) | (with_reducible refine Kd.C_drew ?_))); (case side2 => exact (Kd.V_reads' HO_591000.out).2.1); (case side3 => repeat (first | exact (Kd.V_reads' HO_13.out).2.2 | (with_reducible refine Kd.C_alloc ?_ _) | (with_reducible refine Kd.C_drewN ?_ _) | (with_reducible refine Kd.C_drew ?_))); (case side4 => exact (Kd.V_reads' HO_13.out).2.1); rintro e w40 ⟨rfl, hb⟩; refine ⟨_, rfl, ?_⟩; have n0_ := Aside0.mk (Kd.V_below (by (with_reducible repeat (first | apply Kd.V_alloc | apply Kd.V_drewN | apply Kd.V_drew)); exact HO_7.out) hb); have n1_ := Aside0.mk (Kd.V_below (by (with_reducible repeat (first | apply Kd.V_alloc | apply Kd.V_drewN | apply Kd.V_drew)); exact HO_13.out) hb); have n2_ := Aside0.mk (Kd.V_below (by (with_reducible repeat (first | apply Kd.V_alloc | apply Kd.V_drewN | apply Kd.V_drew)); exact HO_585000.out) hb); have n3_ := Aside0.mk (Kd.V_below (by (with_reducible repeat (first | apply Kd.V_alloc | apply Kd.V_drewN | apply Kd.V_drew)); exact HO_591000.out) hb); have n4_ := Aside0.mk (blk_below (g := gb584) (o := .cells #[.slice Ao8 t579.length co8] 26 (0, 0)) (by (with_reducible repeat (first | refine blk_drewN ?_ _ | refine blk_drew ?_ | refine blk_alloc ?_ _)); exact BK584.out) hb); have n5_ := Aside0.mk (blk_below (g := gb590) (o := .cells #[.slice Ao21 t586.length co21] 26 (0, 0)) (by (with_reducible repeat (first | refine blk_drewN ?_ _ | refine blk_drew ?_ | refine blk_alloc ?_ _)); exact BK590.out) hb); have n6_ := Aside0.mk (below_step (by repeat (first | (with_reducible first | exact HB.out | apply below_alloc | apply pw_below_drewN | apply below_drew1 | refine below_set ?_ GE584.out | refine below_set ?_ GE590.out) | exact HB.out)) hb); clear HO_7; clear HO_13; clear HO_585000; clear HO_591000; clear BK584; clear BK590; clear HB; have HO_7 := n0_; have HO_13 := n1_; have HO_585000 := n2_; have HO_591000 := n3_; have BK584 := n4_; have BK590 := n5_; have HB := n6_; clear n0_ n1_ n2_ n3_ n4_ n5_ n6_; (try clear hb); (try clear hb2); (try clear hk); (try clear hi); have hcz41_0 : w40.cell? ⟨gb584, 0, none⟩ = some (.slice Ao8 t579.length co8) := (blk_cell BK584.out 0).trans rfl; have hfz41_0 := blk_frozen BK584.out 0) | ((with_reducible refine gate_callee (f := 36) rfl ?_); refine goesL_ (some 59) rfl rfl Tryd.func36 (by kernel_rfl) rfl #[.agg #[.slice Ao8 t579.length co8], .int .i64 a1] rfl (by (try simp only [List.map_toArray, List.map_cons, List.map_nil]); first | done | rfl | (simp only [List.length_drop, List.length_take]; rfl)) ?_; (with_reducible refine (nat_Nat_Down.calls kj16 _ _ t579 a1 t599 t602 _ ?side1 ?side2 A35.out).mono ?_); (case side1 => repeat (first | exact (Kd.V_reads' HO_585000.out).2.2 | (with_reducible refine Kd.C_alloc ?_ _) | (with_reducible refine Kd.C_drewN ?_ _) | (with_reducible refine Kd.C_drew ?_))); (case side2 => exact (Kd.V_reads' HO_585000.out).2.1); rintro e w42 ⟨v600, rfl, ho0, hb⟩; refine ⟨_, rfl, ?_⟩; have n0_ := Aside0.mk (Kd.V_below (by (with_reducible repeat (first | apply Kd.V_alloc | apply Kd.V_drewN | apply Kd.V_drew)); exact HO_7.out) hb); have n1_ := Aside0.mk (Kd.V_below (by (with_reducible repeat (first | apply Kd.V_alloc | apply Kd.V_drewN | apply Kd.V_drew)); exact HO_13.out) hb); have n2_ := Aside0.mk (Kd.V_below (by (with_reducible repeat (first | apply Kd.V_alloc | apply Kd.V_drewN | apply Kd.V_drew)); exact HO_585000.out) hb); have n3_ := Aside0.mk (Kd.V_below (by (with_reducible repeat (first | apply Kd.V_alloc | apply Kd.V_drewN | apply Kd.V_drew)); exact HO_591000.out) hb); have n4_ := Aside0.mk (Kd.V_lower (Kd.V_mono (ok' := fun k_ => k_ ≠ gb584 ∧ k_ ≠ gb590) ho0 (fun k_ hk_ => ⟨(Kd.freshB (g := gb584) (o := .cells #[.slice Ao8 t579.length co8] 26 (0, 0)) (by (with_reducible repeat (first | refine blk_drewN ?_ _ | refine blk_drew ?_ | refine blk_alloc ?_ _)); exact BK584.out) k_ hk_), (Kd.freshB (g := gb590) (o := .cells #[.slice Ao21 t586.length co21] 26 (0, 0)) (by (with_reducible repeat (first | refine blk_drewN ?_ _ | refine blk_drew ?_ | refine blk_alloc ?_ _)); exact BK590.out) k_ hk_)⟩)) (below_size (by repeat (first | (with_reducible first | exact HB.out | apply below_alloc | apply pw_below_drewN | apply below_drew1 | refine below_set ?_ GE584.out | refine below_set ?_ GE590.out) | exact HB.out)))); have n5_ := Aside0.mk (blk_below (g := gb584) (o := .cells #[.slice Ao8 t579.length co8] 26 (0, 0)) (by (with_reducible repeat (first | refine blk_drewN ?_ _ | refine blk_drew ?_ | refine blk_alloc ?_ _)); exact BK584.out) hb); have n6_ := Aside0.mk (blk_below (g := gb590) (o := .cells #[.slice Ao21 t586.length co21] 26 (0, 0)) (by (with_reducible repeat (first | refine blk_drewN ?_ _ | refine blk_drew ?_ | refine blk_alloc ?_ _)); exact BK590.out) hb); have n7_ := Aside0.mk (below_step (by repeat (first | (with_reducible first | exact HB.out | apply below_alloc | apply pw_below_drewN | apply below_drew1 | refine below_set ?_ GE584.out | refine below_set ?_ GE590.out) | exact HB.out)) hb); clear HO_7; clear HO_13; clear HO_585000; clear HO_591000; clear BK584; clear BK590; clear HB; have HO_7 := n0_; have HO_13 := n1_; have HO_585000 := n2_; have HO_591000 := n3_; have HO601 := n4_; have BK584 := n5_; have BK590 := n6_; have HB := n7_; clear n0_ n1_ n2_ n3_ n4_ n5_ n6_ n7_; (try clear hb); (try clear hb2); (try clear hk); (try clear hi); (try clear ho0); obtain ⟨Ao43, co43, eo43⟩ := Kd.V_slice HO601.out; subst eo43; have hcz44_0 : w42.cell? ⟨gb590, 0, none⟩ = some (.slice Ao21 t586.length co21) := (blk_cell BK590.out 0).trans rfl; have hfz44_0 := blk_frozen BK590.out 0))
                (try simp only [Act.put, List.setIfInBounds_toArray, List.set_cons_zero, List.set_cons_succ])
                go_cut [13, 14] (fun v13 v14 wc => ∃ (kq : Nat) (x13_35 : List Int) (x14_35 : Int), v14 = .int .i64 x14_35 ∧ Aside0 (heraldlaw04_NatShifts.j2 kq a2 t576 t602 x13_35 x14_35 t579 t599 = some r) ∧ Aside0 (kq ≤ kj16) ∧ Aside0 (Kd.V (Kd.int .i64) 3 wc w.heap.size (fun k_ => k_ ≠ gb584 ∧ k_ ≠ gb590) v577 t576) ∧ Aside0 (Kd.V (Kd.int .i64) 3 wc w.heap.size (fun k_ => k_ ≠ gb584 ∧ k_ ≠ gb590) v13 x13_35) ∧ Aside0 (Kd.V (Kd.int .u32) 79 wc w.heap.size (fun k_ => k_ ≠ gb584 ∧ k_ ≠ gb590) (.slice Ao8 t579.length co8) t579) ∧ Aside0 (Kd.V (Kd.int .u32) 79 wc w.heap.size (fun k_ => k_ ≠ gb584 ∧ k_ ≠ gb590) (.slice Ao43 t599.length co43) t599) ∧ Aside0 (wc.heap[gb584]? = some (.cells #[(.slice Ao8 t579.length co8)] 26 (0, 0))) ∧ Aside0 (wc.heap[gb590]? = some (.cells #[(.slice Ao43 t599.length co43)] 26 (0, 0))) ∧ Aside0 (Below w.heap.size w wc))
                case first =>
                  have H := HC36.out
                  clear HC36
                  by_cases c45 : a1 ≥ 0
                  · rw [if_pos c45] at H
                    have c45b0 : decide (0 ≤ a1) = true := decide_eq_true c45
                    clear c45
                    (first | rw [c45b0] | (simp only [i64_w, i32_w]; rw [c45b0]) | skip)
                    replace H := Option.bind_eq_some_iff.mp H
                    obtain ⟨t603, A460, H⟩ := H
                    replace H : (heraldlaw04_NatShifts.j2 kj16 a2 t576 t602 t603 0 t579 t599) = some r := H
                    have A46 := Aside0.mk A460
                    clear A460
                    have H' := Aside0.mk H
                    clear H
                    obtain ⟨Ao47, co47, eo47⟩ := Kd.V_slice HO_7.out
                    subst eo47
                    go_wp2_with (first | ((with_reducible refine gate_callee (f := 37) rfl ?_); refine goesL_ (some 66) rfl rfl Tryd.func37 (by kernel_rfl) rfl #[.slice Ao47 t576.length co47, .int .i64 a1] rfl (by (try simp only [List.map_toArray, List.map_cons, List.map_nil]); first | done | rfl | (simp only [List.length_drop, List.length_take]; rfl)) ?_; (with_reducible refine (heraldref04_Down.calls kj16 _ _ t576 a1 t603 _ ?side1 ?side2 A46.out).mono ?_); (case side1 => refine (Kd.V_reads' (e := 3) (base := w.heap.size) (ok := fun k_ => (k_ ≠ gb584 ∧ k_ ≠ gb590)) (n := t576.length) (c := co47) ?_).2.2; exact (by (with_reducible repeat (first | apply Kd.V_alloc | apply Kd.V_drewN | apply Kd.V_drew)); exact (Kd.V_mono (Kd.V_far (p := ⟨gb590, 0, none⟩) (Kd.V_mono HO_7.out (fun k_ hk => (⟨hk, hk.2⟩ : _ ∧ k_ ≠ gb590))) (fun _ hk => hk.2) (.slice Ao43 t599.length co43)) (fun _ h_ => h_.1)))); (case side2 => exact (Kd.V_reads' HO_7.out).2.1); rintro e w48 ⟨v604, rfl, ho0, hb⟩; refine ⟨_, rfl, ?_⟩; have n0_ := Aside0.mk (Kd.V_below (by (with_reducible repeat (first | apply Kd.V_alloc | apply Kd.V_drewN | apply Kd.V_drew)); exact (Kd.V_mono (Kd.V_far (p := ⟨gb590, 0, none⟩) (Kd.V_mono HO_7.out (fun k_ hk => (⟨hk, hk.2⟩ : _ ∧ k_ ≠ gb590))) (fun _ hk => hk.2) (.slice Ao43 t599.length co43)) (fun _ h_ => h_.1))) hb); have n1_ := Aside0.mk (Kd.V_below (by (with_reducible repeat (first | apply Kd.V_alloc | apply Kd.V_drewN | apply Kd.V_drew)); exact (Kd.V_mono (Kd.V_far (p := ⟨gb590, 0, none⟩) (Kd.V_mono HO_13.out (fun k_ hk => (⟨hk, hk.2⟩ : _ ∧ k_ ≠ gb590))) (fun _ hk => hk.2) (.slice Ao43 t599.length co43)) (fun _ h_ => h_.1))) hb); have n2_ := Aside0.mk (Kd.V_below (by (with_reducible repeat (first | apply Kd.V_alloc | apply Kd.V_drewN | apply Kd.V_drew)); exact (Kd.V_mono (Kd.V_far (p := ⟨gb590, 0, none⟩) (Kd.V_mono HO_585000.out (fun k_ hk => (⟨hk, hk.2⟩ : _ ∧ k_ ≠ gb590))) (fun _ hk => hk.2) (.slice Ao43 t599.length co43)) (fun _ h_ => h_.1))) hb); have n3_ := Aside0.mk (Kd.V_below (by (with_reducible repeat (first | apply Kd.V_alloc | apply Kd.V_drewN | apply Kd.V_drew)); exact (Kd.V_mono (Kd.V_far (p := ⟨gb590, 0, none⟩) (Kd.V_mono HO_591000.out (fun k_ hk => (⟨hk, hk.2⟩ : _ ∧ k_ ≠ gb590))) (fun _ hk => hk.2) (.slice Ao43 t599.length co43)) (fun _ h_ => h_.1))) hb); have n4_ := Aside0.mk (Kd.V_below (by (with_reducible repeat (first | apply Kd.V_alloc | apply Kd.V_drewN | apply Kd.V_drew)); exact (Kd.V_mono (Kd.V_far (p := ⟨gb590, 0, none⟩) (Kd.V_mono HO601.out (fun k_ hk => (⟨hk, hk.2⟩ : _ ∧ k_ ≠ gb590))) (fun _ hk => hk.2) (.slice Ao43 t599.length co43)) (fun _ h_ => h_.1))) hb); have n5_ := Aside0.mk (Kd.V_lower (Kd.V_mono (ok' := fun k_ => k_ ≠ gb584 ∧ k_ ≠ gb590) ho0 (fun k_ hk_ => ⟨(Kd.freshB (g := gb584) (o := .cells #[.slice Ao8 t579.length co8] 26 (0, 0)) (by (with_reducible repeat (first | refine blk_drewN ?_ _ | refine blk_drew ?_ | refine blk_alloc ?_ _)); refine blk_far ?_ NB584_590.out _; (with_reducible repeat (first | refine blk_drewN ?_ _ | refine blk_drew ?_ | refine blk_alloc ?_ _)); exact BK584.out) k_ hk_), (Kd.freshB (g := gb590) (o := .cells #[.slice Ao43 t599.length co43] 26 (0, 0)) (by (with_reducible repeat (first | refine blk_drewN ?_ _ | refine blk_drew ?_ | refine blk_alloc ?_ _)); refine blk_put (cs := #[.slice Ao21 t586.length co21]) ?_ 0 _ rfl; (with_reducible repeat (first | refine blk_drewN ?_ _ | refine blk_drew ?_ | refine blk_alloc ?_ _)); exact BK590.out) k_ hk_)⟩)) (below_size (by repeat (first | (with_reducible first | exact HB.out | apply below_alloc | apply pw_below_drewN | apply below_drew1 | refine below_set ?_ GE584.out | refine below_set ?_ GE590.out) | exact HB.out)))); have n6_ := Aside0.mk (blk_below (g := gb584) (o := .cells #[.slice Ao8 t579.length co8] 26 (0, 0)) (by (with_reducible repeat (first | refine blk_drewN ?_ _ | refine blk_drew ?_ | refine blk_alloc ?_ _)); refine blk_far ?_ NB584_590.out _; (with_reducible repeat (first | refine blk_drewN ?_ _ | refine blk_drew ?_ | refine blk_alloc ?_ _)); exact BK584.out) hb); have n7_ := Aside0.mk (blk_below (g := gb590) (o := .cells #[.slice Ao43 t599.length co43] 26 (0, 0)) (by (with_reducible repeat (first | refine blk_drewN ?_ _ | refine blk_drew ?_ | refine blk_alloc ?_ _)); refine blk_put (cs := #[.slice Ao21 t586.length co21]) ?_ 0 _ rfl; (with_reducible repeat (first | refine blk_drewN ?_ _ | refine blk_drew ?_ | refine blk_alloc ?_ _)); exact BK590.out) hb); have n8_ := Aside0.mk (below_step (by repeat (first | (with_reducible first | exact HB.out | apply below_alloc | apply pw_below_drewN | apply below_drew1 | refine below_set ?_ GE584.out | refine below_set ?_ GE590.out) | exact HB.out)) hb); clear HO_7; clear HO_13; clear HO_585000; clear HO_591000; clear HO601; clear BK584; clear BK590; clear HB; have HO_7 := n0_; have HO_13 := n1_; have HO_585000 := n2_; have HO_591000 := n3_; have HO601 := n4_; have HO605 := n5_; have BK584 := n6_; have BK590 := n7_; have HB := n8_; clear n0_ n1_ n2_ n3_ n4_ n5_ n6_ n7_ n8_; (try clear hb); (try clear hb2); (try clear hk); (try clear hi); (try clear ho0)))
                    go_meet
                    case rel => exact ⟨_, (t603), (0), (by first | rfl | (simp; done) | (simp [*]; done) | (simp [i64_w]; done) | (simp [*, i64_w]; done)), H', ⟨by have := HJ4.out; have := HJ16.out; first | omega | exact Nat.le_refl _⟩, ⟨by (with_reducible repeat (first | apply Kd.V_alloc | apply Kd.V_drewN | apply Kd.V_drew)); exact HO_7.out⟩, ⟨by (with_reducible repeat (first | apply Kd.V_alloc | apply Kd.V_drewN | apply Kd.V_drew)); exact HO605.out⟩, ⟨by (with_reducible repeat (first | apply Kd.V_alloc | apply Kd.V_drewN | apply Kd.V_drew)); exact HO_585000.out⟩, ⟨by (with_reducible repeat (first | apply Kd.V_alloc | apply Kd.V_drewN | apply Kd.V_drew)); exact HO601.out⟩, ⟨by (with_reducible repeat (first | refine blk_drewN ?_ _ | refine blk_drew ?_ | refine blk_alloc ?_ _)); exact BK584.out⟩, ⟨by (with_reducible repeat (first | refine blk_drewN ?_ _ | refine blk_drew ?_ | refine blk_alloc ?_ _)); exact BK590.out⟩, ⟨by repeat (first | (with_reducible first | exact HB.out | apply below_alloc | apply pw_below_drewN | apply below_drew1 | refine below_set ?_ GE584.out | refine below_set ?_ GE590.out) | exact HB.out)⟩⟩
                  · rw [if_neg c45] at H
                    have c45b0 : decide (0 ≤ a1) = false := decide_eq_false c45
                    clear c45
                    (first | rw [c45b0] | (simp only [i64_w, i32_w]; rw [c45b0]) | skip)
                    have H' := Aside0.mk H
                    clear H
                    go_wp2
                    go_meet
                    case rel => exact ⟨_, (([] : List Int)), (1), (by first | rfl | (simp; done) | (simp [*]; done) | (simp [i64_w]; done) | (simp [*, i64_w]; done)), H', ⟨by have := HJ4.out; have := HJ16.out; first | omega | exact Nat.le_refl _⟩, ⟨by (with_reducible repeat (first | apply Kd.V_alloc | apply Kd.V_drewN | apply Kd.V_drew)); exact Kd.V_mono (Kd.V_far (p := ⟨gb590, 0, none⟩) (Kd.V_mono HO_7.out (fun k_ hk => (⟨hk, hk.2⟩ : _ ∧ k_ ≠ gb590))) (fun _ hk => hk.2) (.slice Ao43 t599.length co43)) (fun _ hk => ⟨hk.1.1, hk.1.2⟩)⟩, ⟨Kd.R_V (base := w.heap.size) (by first | exact Kd.R_nil _ _ _ _ (fun _ => False) | exact Kd.R_nil _ _ _ _ _ | exact Kd.N_nil _ _ _ _ _ | exact Kd.V_nil _ _ _ _ _ | exact Kd.Q_nil _ _ _ _ _ | exact Kd.S_nil _ _ _ _ _)⟩, ⟨by (with_reducible repeat (first | apply Kd.V_alloc | apply Kd.V_drewN | apply Kd.V_drew)); exact Kd.V_mono (Kd.V_far (p := ⟨gb590, 0, none⟩) (Kd.V_mono HO_585000.out (fun k_ hk => (⟨hk, hk.2⟩ : _ ∧ k_ ≠ gb590))) (fun _ hk => hk.2) (.slice Ao43 t599.length co43)) (fun _ hk => ⟨hk.1.1, hk.1.2⟩)⟩, ⟨by (with_reducible repeat (first | apply Kd.V_alloc | apply Kd.V_drewN | apply Kd.V_drew)); exact Kd.V_mono (Kd.V_far (p := ⟨gb590, 0, none⟩) (Kd.V_mono HO601.out (fun k_ hk => (⟨hk, hk.2⟩ : _ ∧ k_ ≠ gb590))) (fun _ hk => hk.2) (.slice Ao43 t599.length co43)) (fun _ hk => ⟨hk.1.1, hk.1.2⟩)⟩, ⟨by (with_reducible repeat (first | refine blk_drewN ?_ _ | refine blk_drew ?_ | refine blk_alloc ?_ _)); refine blk_far ?_ NB584_590.out _; (with_reducible repeat (first | refine blk_drewN ?_ _ | refine blk_drew ?_ | refine blk_alloc ?_ _)); exact BK584.out⟩, ⟨by (with_reducible repeat (first | refine blk_drewN ?_ _ | refine blk_drew ?_ | refine blk_alloc ?_ _)); refine blk_put (cs := #[.slice Ao21 t586.length co21]) ?_ 0 _ rfl; (with_reducible repeat (first | refine blk_drewN ?_ _ | refine blk_drew ?_ | refine blk_alloc ?_ _)); exact BK590.out⟩, ⟨by repeat (first | (with_reducible first | exact HB.out | apply below_alloc | apply pw_below_drewN | apply below_drew1 | refine below_set ?_ GE584.out | refine below_set ?_ GE590.out) | exact HB.out)⟩⟩
                case rest =>
                  clear HC36
                  try clear c1
                  try clear c2
                  try clear p2
                  try clear c3
                  try clear c4
                  try clear c7
                  try clear c11
                  try clear c12
                  try clear c14
                  try clear c15
                  try clear c21
                  try clear c22
                  try clear c26
                  try clear c26b0
                  try clear c28
                  try clear c34
                  try clear c35
                  try clear c36
                  try clear c37
                  try clear c45
                  try clear c45b0
                  try clear hcz18_0
                  try clear hcz23_0
                  try clear hcz38_0
                  try clear hcz41_0
                  try clear hcz44_0
                  try clear hcz9_0
                  try clear hfz18_0
                  try clear hfz23_0
                  try clear hfz38_0
                  try clear hfz41_0
                  try clear hfz44_0
                  try clear hfz9_0
                  try clear p2
                  obtain ⟨kq, x13_35, x14_35, rfl, HA, HJ35, HO_7, HO_13, HO_585000, HO_591000, BK584, BK590, HB⟩ := hcut
                  cases kq with
                  | zero => exact absurd HA.out (by simp [heraldlaw04_NatShifts.j2])
                  | succ kj35 =>
                    have H := HA.out
                    clear HA
                    simp only [heraldlaw04_NatShifts.j2] at H
                    replace H := Option.bind_eq_some_iff.mp H
                    obtain ⟨t606, A490, H⟩ := H
                    replace H : (if t606 = true then ((nat_Nat_Power.f kj35 t579 a2).bind fun bt607 => ((heraldref04_Power.f kj35 t576 a2).bind fun bt611 => ((heraldlaw04_is.f kj35 bt607.1 bt607.2 bt611.1 bt611.2).bind fun t615 => (if t615 = true then ((nat_Nat_Text.f kj35 t579).bind fun t616 => ((heraldref04_Text.f kj35 t576).bind fun t617 => (some (t616.toList == t617.toList)))) else (some false))))) else (some false)) = some r := H
                    have A49 := Aside0.mk A490
                    clear A490
                    by_cases c50 : t606 = true
                    · subst c50
                      have H1 : ((nat_Nat_Power.f kj35 t579 a2).bind fun bt607 => ((heraldref04_Power.f kj35 t576 a2).bind fun bt611 => ((heraldlaw04_is.f kj35 bt607.1 bt607.2 bt611.1 bt611.2).bind fun t615 => (if t615 = true then ((nat_Nat_Text.f kj35 t579).bind fun t616 => ((heraldref04_Text.f kj35 t576).bind fun t617 => (some (t616.toList == t617.toList)))) else (some false))))) = some r := by rw [if_pos rfl] at H; exact H
                      clear H
                      have H := H1
                      clear H1
                      replace H := Option.bind_eq_some_iff.mp H
                      obtain ⟨⟨t607, t610⟩, A510, H⟩ := H
                      replace H : ((heraldref04_Power.f kj35 t576 a2).bind fun bt611 => ((heraldlaw04_is.f kj35 t607 t610 bt611.1 bt611.2).bind fun t615 => (if t615 = true then ((nat_Nat_Text.f kj35 t579).bind fun t616 => ((heraldref04_Text.f kj35 t576).bind fun t617 => (some (t616.toList == t617.toList)))) else (some false)))) = some r := H
                      have A51 := Aside0.mk A510
                      clear A510
                      replace H := Option.bind_eq_some_iff.mp H
                      obtain ⟨⟨t611, t614⟩, A520, H⟩ := H
                      replace H : ((heraldlaw04_is.f kj35 t607 t610 t611 t614).bind fun t615 => (if t615 = true then ((nat_Nat_Text.f kj35 t579).bind fun t616 => ((heraldref04_Text.f kj35 t576).bind fun t617 => (some (t616.toList == t617.toList)))) else (some false))) = some r := H
                      have A52 := Aside0.mk A520
                      clear A520
                      replace H := Option.bind_eq_some_iff.mp H
                      obtain ⟨t615, A530, H⟩ := H
                      replace H : (if t615 = true then ((nat_Nat_Text.f kj35 t579).bind fun t616 => ((heraldref04_Text.f kj35 t576).bind fun t617 => (some (t616.toList == t617.toList)))) else (some false)) = some r := H
                      have A53 := Aside0.mk A530
                      clear A530
                      by_cases c54 : t615 = true
                      · subst c54
                        have H1 : ((nat_Nat_Text.f kj35 t579).bind fun t616 => ((heraldref04_Text.f kj35 t576).bind fun t617 => (some (t616.toList == t617.toList)))) = some r := by rw [if_pos rfl] at H; exact H
                        clear H
                        have H := H1
                        clear H1
                        replace H := Option.bind_eq_some_iff.mp H
                        obtain ⟨t616, A550, H⟩ := H
                        replace H : ((heraldref04_Text.f kj35 t576).bind fun t617 => (some (t616.toList == t617.toList))) = some r := H
                        have A55 := Aside0.mk A550
                        clear A550
                        replace H := Option.bind_eq_some_iff.mp H
                        obtain ⟨t617, A560, H⟩ := H
                        replace H : (some (t616.toList == t617.toList)) = some r := H
                        have A56 := Aside0.mk A560
                        clear A560
                        obtain rfl := Option.some.inj H
                        have hnb57 := NB590_584.out
                        have hnc57 := NB584_590.out
                        have hcz58_0 : wc.cell? ⟨gb590, 0, none⟩ = some (.slice Ao43 t599.length co43) := (blk_cell BK590.out 0).trans rfl
                        have hfz58_0 := blk_frozen BK590.out 0
                        obtain ⟨Ao59, co59, eo59⟩ := Kd.V_slice HO_13.out
                        subst eo59
                        go_wp2_with (first | ((with_reducible refine gate_callee (f := 14) rfl ?_); refine goesL_ (some 71) rfl rfl Tryd.func14 (by kernel_rfl) rfl #[.agg #[.slice Ao43 t599.length co43], .int .i64 t602, .slice Ao59 x13_35.length co59, .int .i64 x14_35] rfl (by (try simp only [List.map_toArray, List.map_cons, List.map_nil]); first | done | rfl | (simp only [List.length_drop, List.length_take]; rfl)) ?_; (with_reducible refine (heraldlaw04_is.calls kj35 _ _ t599 t602 _ _ x13_35 x14_35 true _ ?side1 ?side2 ?side3 ?side4 A49.out).mono ?_); (case side1 => repeat (first | exact (Kd.V_reads' HO_591000.out).2.2 | (with_reducible refine Kd.C_alloc ?_ _) | (with_reducible refine Kd.C_drewN ?_ _) | (with_reducible refine Kd.C_drew ?_))); (case side2 => exact (Kd.V_reads' HO_591000.out).2.1); (case side3 => repeat (first | exact (Kd.V_reads' HO_13.out).2.2 | (with_reducible refine Kd.C_alloc ?_ _) | (with_reducible refine Kd.C_drewN ?_ _) | (with_reducible refine Kd.C_drew ?_))); (case side4 => exact (Kd.V_reads' HO_13.out).2.1); rintro e w60 ⟨rfl, hb⟩; refine ⟨_, rfl, ?_⟩; have n0_ := Aside0.mk (Kd.V_below (by (with_reducible repeat (first | apply Kd.V_alloc | apply Kd.V_drewN | apply Kd.V_drew)); exact HO_7.out) hb); have n1_ := Aside0.mk (Kd.V_below (by (with_reducible repeat (first | apply Kd.V_alloc | apply Kd.V_drewN | apply Kd.V_drew)); exact HO_13.out) hb); have n2_ := Aside0.mk (Kd.V_below (by (with_reducible repeat (first | apply Kd.V_alloc | apply Kd.V_drewN | apply Kd.V_drew)); exact HO_585000.out) hb); have n3_ := Aside0.mk (Kd.V_below (by (with_reducible repeat (first | apply Kd.V_alloc | apply Kd.V_drewN | apply Kd.V_drew)); exact HO_591000.out) hb); have n4_ := Aside0.mk (blk_below (g := gb584) (o := .cells #[.slice Ao8 t579.length co8] 26 (0, 0)) (by (with_reducible repeat (first | refine blk_drewN ?_ _ | refine blk_drew ?_ | refine blk_alloc ?_ _)); exact BK584.out) hb); have n5_ := Aside0.mk (blk_below (g := gb590) (o := .cells #[.slice Ao43 t599.length co43] 26 (0, 0)) (by (with_reducible repeat (first | refine blk_drewN ?_ _ | refine blk_drew ?_ | refine blk_alloc ?_ _)); exact BK590.out) hb); have n6_ := Aside0.mk (below_step (by repeat (first | (with_reducible first | exact HB.out | apply below_alloc | apply pw_below_drewN | apply below_drew1 | refine below_set ?_ GE584.out | refine below_set ?_ GE590.out) | exact HB.out)) hb); clear HO_7; clear HO_13; clear HO_585000; clear HO_591000; clear BK584; clear BK590; clear HB; have HO_7 := n0_; have HO_13 := n1_; have HO_585000 := n2_; have HO_591000 := n3_; have BK584 := n4_; have BK590 := n5_; have HB := n6_; clear n0_ n1_ n2_ n3_ n4_ n5_ n6_; (try clear hb); (try clear hb2); (try clear hk); (try clear hi); have hcz61_0 : w60.cell? ⟨gb584, 0, none⟩ = some (.slice Ao8 t579.length co8) := (blk_cell BK584.out 0).trans rfl; have hfz61_0 := blk_frozen BK584.out 0) | ((with_reducible refine gate_callee (f := 38) rfl ?_); refine goesL_ (some 76) rfl rfl Tryd.func38 (by kernel_rfl) rfl #[.agg #[.slice Ao8 t579.length co8], .int .i64 a2] rfl (by (try simp only [List.map_toArray, List.map_cons, List.map_nil]); first | done | rfl | (simp only [List.length_drop, List.length_take]; rfl)) ?_; (with_reducible refine (nat_Nat_Power.calls kj35 (fun k_ => (k_ ≠ gb584 ∧ k_ ≠ gb590)) _ _ t579 a2 t607 t610 _ ?side1 A51.out).mono ?_); (case side1 => exact HO_585000.out); rintro e w62 ⟨v608, rfl, ho0, hb⟩; refine ⟨_, rfl, ?_⟩; have n0_ := Aside0.mk (Kd.V_below (by (with_reducible repeat (first | apply Kd.V_alloc | apply Kd.V_drewN | apply Kd.V_drew)); exact HO_7.out) hb); have n1_ := Aside0.mk (Kd.V_below (by (with_reducible repeat (first | apply Kd.V_alloc | apply Kd.V_drewN | apply Kd.V_drew)); exact HO_13.out) hb); have n2_ := Aside0.mk (Kd.V_below (by (with_reducible repeat (first | apply Kd.V_alloc | apply Kd.V_drewN | apply Kd.V_drew)); exact HO_585000.out) hb); have n3_ := Aside0.mk (Kd.V_below (by (with_reducible repeat (first | apply Kd.V_alloc | apply Kd.V_drewN | apply Kd.V_drew)); exact HO_591000.out) hb); have n4_ := Aside0.mk (Kd.V_lower (Kd.V_mono (ok' := fun k_ => k_ ≠ gb584 ∧ k_ ≠ gb590) ho0 (fun k_ hk_ => ⟨Or.elim hk_ (fun hs_ => hs_.1) (fun hn_ => (Kd.freshB (g := gb584) (o := .cells #[.slice Ao8 t579.length co8] 26 (0, 0)) (by (with_reducible repeat (first | refine blk_drewN ?_ _ | refine blk_drew ?_ | refine blk_alloc ?_ _)); exact BK584.out) k_ hn_)), Or.elim hk_ (fun hs_ => hs_.2) (fun hn_ => (Kd.freshB (g := gb590) (o := .cells #[.slice Ao43 t599.length co43] 26 (0, 0)) (by (with_reducible repeat (first | refine blk_drewN ?_ _ | refine blk_drew ?_ | refine blk_alloc ?_ _)); exact BK590.out) k_ hn_))⟩)) (below_size (by repeat (first | (with_reducible first | exact HB.out | apply below_alloc | apply pw_below_drewN | apply below_drew1 | refine below_set ?_ GE584.out | refine below_set ?_ GE590.out) | exact HB.out)))); have n5_ := Aside0.mk (blk_below (g := gb584) (o := .cells #[.slice Ao8 t579.length co8] 26 (0, 0)) (by (with_reducible repeat (first | refine blk_drewN ?_ _ | refine blk_drew ?_ | refine blk_alloc ?_ _)); exact BK584.out) hb); have n6_ := Aside0.mk (blk_below (g := gb590) (o := .cells #[.slice Ao43 t599.length co43] 26 (0, 0)) (by (with_reducible repeat (first | refine blk_drewN ?_ _ | refine blk_drew ?_ | refine blk_alloc ?_ _)); exact BK590.out) hb); have n7_ := Aside0.mk (below_step (by repeat (first | (with_reducible first | exact HB.out | apply below_alloc | apply pw_below_drewN | apply below_drew1 | refine below_set ?_ GE584.out | refine below_set ?_ GE590.out) | exact HB.out)) hb); clear HO_7; clear HO_13; clear HO_585000; clear HO_591000; clear BK584; clear BK590; clear HB; have HO_7 := n0_; have HO_13 := n1_; have HO_585000 := n2_; have HO_591000 := n3_; have HO609 := n4_; have BK584 := n5_; have BK590 := n6_; have HB := n7_; clear n0_ n1_ n2_ n3_ n4_ n5_ n6_ n7_; (try clear hb); (try clear hb2); (try clear hk); (try clear hi); (try clear ho0); obtain ⟨Ao63, co63, eo63⟩ := Kd.V_slice HO609.out; subst eo63; have hcz64_0 : w62.cell? ⟨gb590, 0, none⟩ = some (.slice Ao43 t599.length co43) := (blk_cell BK590.out 0).trans rfl; have hfz64_0 := blk_frozen BK590.out 0) | ((with_reducible refine gate_store (t := 26) (p := 11) rfl ?_); refine store_event (t := 26) (p := 11) (v := ?vo_w65) (w1 := (w62.setCell ⟨gb590, 0, none⟩ (.slice Ao63 t607.length co63))) ?hg ?ho ?hn ?hr ?_; (case ho => rfl); (case hg => rfl); (case hn => rfl); (case hr => first | (go_simp; done) | (go_simp; rfl)); intro w65 hw; have n0_ : Aside0 (Kd.V (Kd.int .i64) 3 w65 w.heap.size (fun k_ => k_ ≠ gb584 ∧ k_ ≠ gb590) v577 t576) := ⟨(by rw [hw]; exact (by (with_reducible repeat (first | apply Kd.V_alloc | apply Kd.V_drewN | apply Kd.V_drew)); exact Kd.V_mono (Kd.V_far (p := ⟨gb590, 0, none⟩) (Kd.V_mono HO_7.out (fun k_ hk => (⟨hk, hk.2⟩ : _ ∧ k_ ≠ gb590))) (fun _ hk => hk.2) (.slice Ao63 t607.length co63)) (fun _ hk => ⟨hk.1.1, hk.1.2⟩)))⟩; have n1_ : Aside0 (Kd.V (Kd.int .i64) 3 w65 w.heap.size (fun k_ => k_ ≠ gb584 ∧ k_ ≠ gb590) (.slice Ao59 x13_35.length co59) x13_35) := ⟨(by rw [hw]; exact (by (with_reducible repeat (first | apply Kd.V_alloc | apply Kd.V_drewN | apply Kd.V_drew)); exact Kd.V_mono (Kd.V_far (p := ⟨gb590, 0, none⟩) (Kd.V_mono HO_13.out (fun k_ hk => (⟨hk, hk.2⟩ : _ ∧ k_ ≠ gb590))) (fun _ hk => hk.2) (.slice Ao63 t607.length co63)) (fun _ hk => ⟨hk.1.1, hk.1.2⟩)))⟩; have n2_ : Aside0 (Kd.V (Kd.int .u32) 79 w65 w.heap.size (fun k_ => k_ ≠ gb584 ∧ k_ ≠ gb590) (.slice Ao8 t579.length co8) t579) := ⟨(by rw [hw]; exact (by (with_reducible repeat (first | apply Kd.V_alloc | apply Kd.V_drewN | apply Kd.V_drew)); exact Kd.V_mono (Kd.V_far (p := ⟨gb590, 0, none⟩) (Kd.V_mono HO_585000.out (fun k_ hk => (⟨hk, hk.2⟩ : _ ∧ k_ ≠ gb590))) (fun _ hk => hk.2) (.slice Ao63 t607.length co63)) (fun _ hk => ⟨hk.1.1, hk.1.2⟩)))⟩; have n3_ : Aside0 (Kd.V (Kd.int .u32) 79 w65 w.heap.size (fun k_ => k_ ≠ gb584 ∧ k_ ≠ gb590) (.slice Ao43 t599.length co43) t599) := ⟨(by rw [hw]; exact (by (with_reducible repeat (first | apply Kd.V_alloc | apply Kd.V_drewN | apply Kd.V_drew)); exact Kd.V_mono (Kd.V_far (p := ⟨gb590, 0, none⟩) (Kd.V_mono HO_591000.out (fun k_ hk => (⟨hk, hk.2⟩ : _ ∧ k_ ≠ gb590))) (fun _ hk => hk.2) (.slice Ao63 t607.length co63)) (fun _ hk => ⟨hk.1.1, hk.1.2⟩)))⟩; have n4_ : Aside0 (Kd.V (Kd.int .u32) 79 w65 w.heap.size (fun k_ => k_ ≠ gb584 ∧ k_ ≠ gb590) (.slice Ao63 t607.length co63) t607) := ⟨(by rw [hw]; exact (by (with_reducible repeat (first | apply Kd.V_alloc | apply Kd.V_drewN | apply Kd.V_drew)); exact Kd.V_mono (Kd.V_far (p := ⟨gb590, 0, none⟩) (Kd.V_mono HO609.out (fun k_ hk => (⟨hk, hk.2⟩ : _ ∧ k_ ≠ gb590))) (fun _ hk => hk.2) (.slice Ao63 t607.length co63)) (fun _ hk => ⟨hk.1.1, hk.1.2⟩)))⟩; have n5_ : Aside0 (w65.heap[gb584]? = some (.cells #[.slice Ao8 t579.length co8] 26 (0, 0))) := ⟨(by rw [hw]; exact (by (with_reducible repeat (first | refine blk_drewN ?_ _ | refine blk_drew ?_ | refine blk_alloc ?_ _)); refine blk_far ?_ NB584_590.out _; (with_reducible repeat (first | refine blk_drewN ?_ _ | refine blk_drew ?_ | refine blk_alloc ?_ _)); exact BK584.out))⟩; have n6_ : Aside0 (w65.heap[gb590]? = some (.cells #[.slice Ao63 t607.length co63] 26 (0, 0))) := ⟨(by rw [hw]; exact (by (with_reducible repeat (first | refine blk_drewN ?_ _ | refine blk_drew ?_ | refine blk_alloc ?_ _)); refine blk_put (cs := #[.slice Ao43 t599.length co43]) ?_ 0 _ rfl; (with_reducible repeat (first | refine blk_drewN ?_ _ | refine blk_drew ?_ | refine blk_alloc ?_ _)); exact BK590.out))⟩; have n7_ : Aside0 (Below w.heap.size w w65) := ⟨(by rw [hw]; exact (by repeat (first | (with_reducible first | exact HB.out | apply below_alloc | apply pw_below_drewN | apply below_drew1 | refine below_set ?_ GE584.out | refine below_set ?_ GE590.out) | exact HB.out)))⟩; clear hw; clear HO_7; clear HO_13; clear HO_585000; clear HO_591000; clear HO609; clear BK584; clear BK590; clear HB; have HO_7 := n0_; have HO_13 := n1_; have HO_585000 := n2_; have HO_591000 := n3_; have HO609 := n4_; have BK584 := n5_; have BK590 := n6_; have HB := n7_; clear n0_ n1_ n2_ n3_ n4_ n5_ n6_ n7_; obtain ⟨Ao66, co66, eo66⟩ := Kd.V_slice HO_7.out; subst eo66) | ((with_reducible refine gate_callee (f := 39) rfl ?_); refine goesL_ (some 82) rfl rfl Tryd.func39 (by kernel_rfl) rfl #[.slice Ao66 t576.length co66, .int .i64 a2] rfl (by (try simp only [List.map_toArray, List.map_cons, List.map_nil]); first | done | rfl | (simp only [List.length_drop, List.length_take]; rfl)) ?_; (with_reducible refine (heraldref04_Power.calls kj35 (fun k_ => (k_ ≠ gb584 ∧ k_ ≠ gb590)) _ _ t576 a2 t611 t614 _ ?side1 A52.out).mono ?_); (case side1 => exact HO_7.out); rintro e w67 ⟨v612, rfl, ho0, hb⟩; refine ⟨_, rfl, ?_⟩; have n0_ := Aside0.mk (Kd.V_below (by (with_reducible repeat (first | apply Kd.V_alloc | apply Kd.V_drewN | apply Kd.V_drew)); exact HO_7.out) hb); have n1_ := Aside0.mk (Kd.V_below (by (with_reducible repeat (first | apply Kd.V_alloc | apply Kd.V_drewN | apply Kd.V_drew)); exact HO_13.out) hb); have n2_ := Aside0.mk (Kd.V_below (by (with_reducible repeat (first | apply Kd.V_alloc | apply Kd.V_drewN | apply Kd.V_drew)); exact HO_585000.out) hb); have n3_ := Aside0.mk (Kd.V_below (by (with_reducible repeat (first | apply Kd.V_alloc | apply Kd.V_drewN | apply Kd.V_drew)); exact HO_591000.out) hb); have n4_ := Aside0.mk (Kd.V_below (by (with_reducible repeat (first | apply Kd.V_alloc | apply Kd.V_drewN | apply Kd.V_drew)); exact HO609.out) hb); have n5_ := Aside0.mk (Kd.V_lower (Kd.V_mono (ok' := fun k_ => k_ ≠ gb584 ∧ k_ ≠ gb590) ho0 (fun k_ hk_ => ⟨Or.elim hk_ (fun hs_ => hs_.1) (fun hn_ => (Kd.freshB (g := gb584) (o := .cells #[.slice Ao8 t579.length co8] 26 (0, 0)) (by (with_reducible repeat (first | refine blk_drewN ?_ _ | refine blk_drew ?_ | refine blk_alloc ?_ _)); exact BK584.out) k_ hn_)), Or.elim hk_ (fun hs_ => hs_.2) (fun hn_ => (Kd.freshB (g := gb590) (o := .cells #[.slice Ao63 t607.length co63] 26 (0, 0)) (by (with_reducible repeat (first | refine blk_drewN ?_ _ | refine blk_drew ?_ | refine blk_alloc ?_ _)); exact BK590.out) k_ hn_))⟩)) (below_size (by repeat (first | (with_reducible first | exact HB.out | apply below_alloc | apply pw_below_drewN | apply below_drew1 | refine below_set ?_ GE584.out | refine below_set ?_ GE590.out) | exact HB.out)))); have n6_ := Aside0.mk (blk_below (g := gb584) (o := .cells #[.slice Ao8 t579.length co8] 26 (0, 0)) (by (with_reducible repeat (first | refine blk_drewN ?_ _ | refine blk_drew ?_ | refine blk_alloc ?_ _)); exact BK584.out) hb); have n7_ := Aside0.mk (blk_below (g := gb590) (o := .cells #[.slice Ao63 t607.length co63] 26 (0, 0)) (by (with_reducible repeat (first | refine blk_drewN ?_ _ | refine blk_drew ?_ | refine blk_alloc ?_ _)); exact BK590.out) hb); have n8_ := Aside0.mk (below_step (by repeat (first | (with_reducible first | exact HB.out | apply below_alloc | apply pw_below_drewN | apply below_drew1 | refine below_set ?_ GE584.out | refine below_set ?_ GE590.out) | exact HB.out)) hb); clear HO_7; clear HO_13; clear HO_585000; clear HO_591000; clear HO609; clear BK584; clear BK590; clear HB; have HO_7 := n0_; have HO_13 := n1_; have HO_585000 := n2_; have HO_591000 := n3_; have HO609 := n4_; have HO613 := n5_; have BK584 := n6_; have BK590 := n7_; have HB := n8_; clear n0_ n1_ n2_ n3_ n4_ n5_ n6_ n7_ n8_; (try clear hb); (try clear hb2); (try clear hk); (try clear hi); (try clear ho0); have hcz68_0 : w67.cell? ⟨gb590, 0, none⟩ = some (.slice Ao63 t607.length co63) := (blk_cell BK590.out 0).trans rfl; have hfz68_0 := blk_frozen BK590.out 0; obtain ⟨Ao69, co69, eo69⟩ := Kd.V_slice HO613.out; subst eo69) | ((with_reducible refine gate_callee (f := 14) rfl ?_); refine goesL_ (some 89) rfl rfl Tryd.func14 (by kernel_rfl) rfl #[.agg #[.slice Ao63 t607.length co63], .int .i64 t610, .slice Ao69 t611.length co69, .int .i64 t614] rfl (by (try simp only [List.map_toArray, List.map_cons, List.map_nil]); first | done | rfl | (simp only [List.length_drop, List.length_take]; rfl)) ?_; (with_reducible refine (heraldlaw04_is.calls kj35 _ _ t607 t610 _ _ t611 t614 true _ ?side1 ?side2 ?side3 ?side4 A53.out).mono ?_); (case side1 => repeat (first | exact (Kd.V_reads' HO609.out).2.2 | (with_reducible refine Kd.C_alloc ?_ _) | (with_reducible refine Kd.C_drewN ?_ _) | (with_reducible refine Kd.C_drew ?_))); (case side2 => exact (Kd.V_reads' HO609.out).2.1); (case side3 => repeat (first | exact (Kd.V_reads' HO613.out).2.2 | (with_reducible refine Kd.C_alloc ?_ _) | (with_reducible refine Kd.C_drewN ?_ _) | (with_reducible refine Kd.C_drew ?_))); (case side4 => exact (Kd.V_reads' HO613.out).2.1); rintro e w70 ⟨rfl, hb⟩; refine ⟨_, rfl, ?_⟩; have n0_ := Aside0.mk (Kd.V_below (by (with_reducible repeat (first | apply Kd.V_alloc | apply Kd.V_drewN | apply Kd.V_drew)); exact HO_7.out) hb); have n1_ := Aside0.mk (Kd.V_below (by (with_reducible repeat (first | apply Kd.V_alloc | apply Kd.V_drewN | apply Kd.V_drew)); exact HO_13.out) hb); have n2_ := Aside0.mk (Kd.V_below (by (with_reducible repeat (first | apply Kd.V_alloc | apply Kd.V_drewN | apply Kd.V_drew)); exact HO_585000.out) hb); have n3_ := Aside0.mk (Kd.V_below (by (with_reducible repeat (first | apply Kd.V_alloc | apply Kd.V_drewN | apply Kd.V_drew)); exact HO_591000.out) hb); have n4_ := Aside0.mk (Kd.V_below (by (with_reducible repeat (first | apply Kd.V_alloc | apply Kd.V_drewN | apply Kd.V_drew)); exact HO609.out) hb); have n5_ := Aside0.mk (Kd.V_below (by (with_reducible repeat (first | apply Kd.V_alloc | apply Kd.V_drewN | apply Kd.V_drew)); exact HO613.out) hb); have n6_ := Aside0.mk (blk_below (g := gb584) (o := .cells #[.slice Ao8 t579.length co8] 26 (0, 0)) (by (with_reducible repeat (first | refine blk_drewN ?_ _ | refine blk_drew ?_ | refine blk_alloc ?_ _)); exact BK584.out) hb); have n7_ := Aside0.mk (blk_below (g := gb590) (o := .cells #[.slice Ao63 t607.length co63] 26 (0, 0)) (by (with_reducible repeat (first | refine blk_drewN ?_ _ | refine blk_drew ?_ | refine blk_alloc ?_ _)); exact BK590.out) hb); have n8_ := Aside0.mk (below_step (by repeat (first | (with_reducible first | exact HB.out | apply below_alloc | apply pw_below_drewN | apply below_drew1 | refine below_set ?_ GE584.out | refine below_set ?_ GE590.out) | exact HB.out)) hb); clear HO_7; clear HO_13; clear HO_585000; clear HO_591000; clear HO609; clear HO613; clear BK584; clear BK590; clear HB; have HO_7 := n0_; have HO_13 := n1_; have HO_585000 := n2_; have HO_591000 := n3_; have HO609 := n4_; have HO613 := n5_; have BK584 := n6_; have BK590 := n7_; have HB := n8_; clear n0_ n1_ n2_ n3_ n4_ n5_ n6_ n7_ n8_; (try clear hb); (try clear hb2); (try clear hk); (try clear hi); have hcz71_0 : w70.cell? ⟨gb584, 0, none⟩ = some (.slice Ao8 t579.length co8) := (blk_cell BK584.out 0).trans rfl; have hfz71_0 := blk_frozen BK584.out 0) | (go_at_call 20; (with_reducible refine (nat_Nat_Text.calls kj35 (fun k_ => (k_ ≠ gb584 ∧ k_ ≠ gb590)) _ _ t579 t616 _ ?side1 A55.out).mono ?_); (case side1 => exact HO_585000.out); rintro e w72 ⟨rfl, hb⟩; have n0_ := Aside0.mk (Kd.V_below (by (with_reducible repeat (first | apply Kd.V_alloc | apply Kd.V_drewN | apply Kd.V_drew)); exact HO_7.out) hb); have n1_ := Aside0.mk (Kd.V_below (by (with_reducible repeat (first | apply Kd.V_alloc | apply Kd.V_drewN | apply Kd.V_drew)); exact HO_13.out) hb); have n2_ := Aside0.mk (Kd.V_below (by (with_reducible repeat (first | apply Kd.V_alloc | apply Kd.V_drewN | apply Kd.V_drew)); exact HO_585000.out) hb); have n3_ := Aside0.mk (Kd.V_below (by (with_reducible repeat (first | apply Kd.V_alloc | apply Kd.V_drewN | apply Kd.V_drew)); exact HO_591000.out) hb); have n4_ := Aside0.mk (Kd.V_below (by (with_reducible repeat (first | apply Kd.V_alloc | apply Kd.V_drewN | apply Kd.V_drew)); exact HO609.out) hb); have n5_ := Aside0.mk (Kd.V_below (by (with_reducible repeat (first | apply Kd.V_alloc | apply Kd.V_drewN | apply Kd.V_drew)); exact HO613.out) hb); have n6_ := Aside0.mk (blk_below (g := gb584) (o := .cells #[.slice Ao8 t579.length co8] 26 (0, 0)) (by (with_reducible repeat (first | refine blk_drewN ?_ _ | refine blk_drew ?_ | refine blk_alloc ?_ _)); exact BK584.out) hb); have n7_ := Aside0.mk (blk_below (g := gb590) (o := .cells #[.slice Ao63 t607.length co63] 26 (0, 0)) (by (with_reducible repeat (first | refine blk_drewN ?_ _ | refine blk_drew ?_ | refine blk_alloc ?_ _)); exact BK590.out) hb); have n8_ := Aside0.mk (below_step (by repeat (first | (with_reducible first | exact HB.out | apply below_alloc | apply pw_below_drewN | apply below_drew1 | refine below_set ?_ GE584.out | refine below_set ?_ GE590.out) | exact HB.out)) hb); clear HO_7; clear HO_13; clear HO_585000; clear HO_591000; clear HO609; clear HO613; clear BK584; clear BK590; clear HB; have HO_7 := n0_; have HO_13 := n1_; have HO_585000 := n2_; have HO_591000 := n3_; have HO609 := n4_; have HO613 := n5_; have BK584 := n6_; have BK590 := n7_; have HB := n8_; clear n0_ n1_ n2_ n3_ n4_ n5_ n6_ n7_ n8_; (try clear hb); (try clear hb2); (try clear hk); (try clear hi)) | (go_at_call 24; (with_reducible refine (heraldref04_Text.calls kj35 (fun k_ => (k_ ≠ gb584 ∧ k_ ≠ gb590)) _ _ t576 t617 _ ?side1 A56.out).mono ?_); (case side1 => exact HO_7.out); rintro e w73 ⟨rfl, hb⟩; have n0_ := Aside0.mk (Kd.V_below (by (with_reducible repeat (first | apply Kd.V_alloc | apply Kd.V_drewN | apply Kd.V_drew)); exact HO_7.out) hb); have n1_ := Aside0.mk (Kd.V_below (by (with_reducible repeat (first | apply Kd.V_alloc | apply Kd.V_drewN | apply Kd.V_drew)); exact HO_13.out) hb); have n2_ := Aside0.mk (Kd.V_below (by (with_reducible repeat (first | apply Kd.V_alloc | apply Kd.V_drewN | apply Kd.V_drew)); exact HO_585000.out) hb); have n3_ := Aside0.mk (Kd.V_below (by (with_reducible repeat (first | apply Kd.V_alloc | apply Kd.V_drewN | apply Kd.V_drew)); exact HO_591000.out) hb); have n4_ := Aside0.mk (Kd.V_below (by (with_reducible repeat (first | apply Kd.V_alloc | apply Kd.V_drewN | apply Kd.V_drew)); exact HO609.out) hb); have n5_ := Aside0.mk (Kd.V_below (by (with_reducible repeat (first | apply Kd.V_alloc | apply Kd.V_drewN | apply Kd.V_drew)); exact HO613.out) hb); have n6_ := Aside0.mk (blk_below (g := gb584) (o := .cells #[.slice Ao8 t579.length co8] 26 (0, 0)) (by (with_reducible repeat (first | refine blk_drewN ?_ _ | refine blk_drew ?_ | refine blk_alloc ?_ _)); exact BK584.out) hb); have n7_ := Aside0.mk (blk_below (g := gb590) (o := .cells #[.slice Ao63 t607.length co63] 26 (0, 0)) (by (with_reducible repeat (first | refine blk_drewN ?_ _ | refine blk_drew ?_ | refine blk_alloc ?_ _)); exact BK590.out) hb); have n8_ := Aside0.mk (below_step (by repeat (first | (with_reducible first | exact HB.out | apply below_alloc | apply pw_below_drewN | apply below_drew1 | refine below_set ?_ GE584.out | refine below_set ?_ GE590.out) | exact HB.out)) hb); clear HO_7; clear HO_13; clear HO_585000; clear HO_591000; clear HO609; clear HO613; clear BK584; clear BK590; clear HB; have HO_7 := n0_; have HO_13 := n1_; have HO_585000 := n2_; have HO_591000 := n3_; have HO609 := n4_; have HO613 := n5_; have BK584 := n6_; have BK590 := n7_; have HB := n8_; clear n0_ n1_ n2_ n3_ n4_ n5_ n6_ n7_ n8_; (try clear hb); (try clear hb2); (try clear hk); (try clear hi)))
                        go_ret
                        exact ⟨by first | rfl | (simp [errW_none, errW_some] <;> rfl) | (simp [*, errW_none, errW_some] <;> rfl), by repeat (first | (with_reducible first | exact HB.out | apply below_alloc | apply pw_below_drewN | apply below_drew1 | refine below_set ?_ GE584.out | refine below_set ?_ GE590.out) | exact HB.out)⟩
                      · replace c54 := Bool.eq_false_iff.mpr c54
                        subst c54
                        have H1 : (some false) = some r := by rw [if_neg (show ¬ (false = true) by decide)] at H; exact H
                        clear H
                        have H := H1
                        clear H1
                        obtain rfl := Option.some.inj H
                        have hnb74 := NB590_584.out
                        have hnc74 := NB584_590.out
                        have hcz75_0 : wc.cell? ⟨gb590, 0, none⟩ = some (.slice Ao43 t599.length co43) := (blk_cell BK590.out 0).trans rfl
                        have hfz75_0 := blk_frozen BK590.out 0
                        obtain ⟨Ao76, co76, eo76⟩ := Kd.V_slice HO_13.out
                        subst eo76
                        go_wp2_with (first | ((with_reducible refine gate_callee (f := 14) rfl ?_); refine goesL_ (some 71) rfl rfl Tryd.func14 (by kernel_rfl) rfl #[.agg #[.slice Ao43 t599.length co43], .int .i64 t602, .slice Ao76 x13_35.length co76, .int .i64 x14_35] rfl (by (try simp only [List.map_toArray, List.map_cons, List.map_nil]); first | done | rfl | (simp only [List.length_drop, List.length_take]; rfl)) ?_; (with_reducible refine (heraldlaw04_is.calls kj35 _ _ t599 t602 _ _ x13_35 x14_35 true _ ?side1 ?side2 ?side3 ?side4 A49.out).mono ?_); (case side1 => repeat (first | exact (Kd.V_reads' HO_591000.out).2.2 | (with_reducible refine Kd.C_alloc ?_ _) | (with_reducible refine Kd.C_drewN ?_ _) | (with_reducible refine Kd.C_drew ?_))); (case side2 => exact (Kd.V_reads' HO_591000.out).2.1); (case side3 => repeat (first | exact (Kd.V_reads' HO_13.out).2.2 | (with_reducible refine Kd.C_alloc ?_ _) | (with_reducible refine Kd.C_drewN ?_ _) | (with_reducible refine Kd.C_drew ?_))); (case side4 => exact (Kd.V_reads' HO_13.out).2.1); rintro e w77 ⟨rfl, hb⟩; refine ⟨_, rfl, ?_⟩; have n0_ := Aside0.mk (Kd.V_below (by (with_reducible repeat (first | apply Kd.V_alloc | apply Kd.V_drewN | apply Kd.V_drew)); exact HO_7.out) hb); have n1_ := Aside0.mk (Kd.V_below (by (with_reducible repeat (first | apply Kd.V_alloc | apply Kd.V_drewN | apply Kd.V_drew)); exact HO_13.out) hb); have n2_ := Aside0.mk (Kd.V_below (by (with_reducible repeat (first | apply Kd.V_alloc | apply Kd.V_drewN | apply Kd.V_drew)); exact HO_585000.out) hb); have n3_ := Aside0.mk (Kd.V_below (by (with_reducible repeat (first | apply Kd.V_alloc | apply Kd.V_drewN | apply Kd.V_drew)); exact HO_591000.out) hb); have n4_ := Aside0.mk (blk_below (g := gb584) (o := .cells #[.slice Ao8 t579.length co8] 26 (0, 0)) (by (with_reducible repeat (first | refine blk_drewN ?_ _ | refine blk_drew ?_ | refine blk_alloc ?_ _)); exact BK584.out) hb); have n5_ := Aside0.mk (blk_below (g := gb590) (o := .cells #[.slice Ao43 t599.length co43] 26 (0, 0)) (by (with_reducible repeat (first | refine blk_drewN ?_ _ | refine blk_drew ?_ | refine blk_alloc ?_ _)); exact BK590.out) hb); have n6_ := Aside0.mk (below_step (by repeat (first | (with_reducible first | exact HB.out | apply below_alloc | apply pw_below_drewN | apply below_drew1 | refine below_set ?_ GE584.out | refine below_set ?_ GE590.out) | exact HB.out)) hb); clear HO_7; clear HO_13; clear HO_585000; clear HO_591000; clear BK584; clear BK590; clear HB; have HO_7 := n0_; have HO_13 := n1_; have HO_585000 := n2_; have HO_591000 := n3_; have BK584 := n4_; have BK590 := n5_; have HB := n6_; clear n0_ n1_ n2_ n3_ n4_ n5_ n6_; (try clear hb); (try clear hb2); (try clear hk); (try clear hi); have hcz78_0 : w77.cell? ⟨gb584, 0, none⟩ = some (.slice Ao8 t579.length co8) := (blk_cell BK584.out 0).trans rfl; have hfz78_0 := blk_frozen BK584.out 0) | ((with_reducible refine gate_callee (f := 38) rfl ?_); refine goesL_ (some 76) rfl rfl Tryd.func38 (by kernel_rfl) rfl #[.agg #[.slice Ao8 t579.length co8], .int .i64 a2] rfl (by (try simp only [List.map_toArray, List.map_cons, List.map_nil]); first | done | rfl | (simp only [List.length_drop, List.length_take]; rfl)) ?_; (with_reducible refine (nat_Nat_Power.calls kj35 (fun k_ => (k_ ≠ gb584 ∧ k_ ≠ gb590)) _ _ t579 a2 t607 t610 _ ?side1 A51.out).mono ?_); (case side1 => exact HO_585000.out); rintro e w79 ⟨v608, rfl, ho0, hb⟩; refine ⟨_, rfl, ?_⟩; have n0_ := Aside0.mk (Kd.V_below (by (with_reducible repeat (first | apply Kd.V_alloc | apply Kd.V_drewN | apply Kd.V_drew)); exact HO_7.out) hb); have n1_ := Aside0.mk (Kd.V_below (by (with_reducible repeat (first | apply Kd.V_alloc | apply Kd.V_drewN | apply Kd.V_drew)); exact HO_13.out) hb); have n2_ := Aside0.mk (Kd.V_below (by (with_reducible repeat (first | apply Kd.V_alloc | apply Kd.V_drewN | apply Kd.V_drew)); exact HO_585000.out) hb); have n3_ := Aside0.mk (Kd.V_below (by (with_reducible repeat (first | apply Kd.V_alloc | apply Kd.V_drewN | apply Kd.V_drew)); exact HO_591000.out) hb); have n4_ := Aside0.mk (Kd.V_lower (Kd.V_mono (ok' := fun k_ => k_ ≠ gb584 ∧ k_ ≠ gb590) ho0 (fun k_ hk_ => ⟨Or.elim hk_ (fun hs_ => hs_.1) (fun hn_ => (Kd.freshB (g := gb584) (o := .cells #[.slice Ao8 t579.length co8] 26 (0, 0)) (by (with_reducible repeat (first | refine blk_drewN ?_ _ | refine blk_drew ?_ | refine blk_alloc ?_ _)); exact BK584.out) k_ hn_)), Or.elim hk_ (fun hs_ => hs_.2) (fun hn_ => (Kd.freshB (g := gb590) (o := .cells #[.slice Ao43 t599.length co43] 26 (0, 0)) (by (with_reducible repeat (first | refine blk_drewN ?_ _ | refine blk_drew ?_ | refine blk_alloc ?_ _)); exact BK590.out) k_ hn_))⟩)) (below_size (by repeat (first | (with_reducible first | exact HB.out | apply below_alloc | apply pw_below_drewN | apply below_drew1 | refine below_set ?_ GE584.out | refine below_set ?_ GE590.out) | exact HB.out)))); have n5_ := Aside0.mk (blk_below (g := gb584) (o := .cells #[.slice Ao8 t579.length co8] 26 (0, 0)) (by (with_reducible repeat (first | refine blk_drewN ?_ _ | refine blk_drew ?_ | refine blk_alloc ?_ _)); exact BK584.out) hb); have n6_ := Aside0.mk (blk_below (g := gb590) (o := .cells #[.slice Ao43 t599.length co43] 26 (0, 0)) (by (with_reducible repeat (first | refine blk_drewN ?_ _ | refine blk_drew ?_ | refine blk_alloc ?_ _)); exact BK590.out) hb); have n7_ := Aside0.mk (below_step (by repeat (first | (with_reducible first | exact HB.out | apply below_alloc | apply pw_below_drewN | apply below_drew1 | refine below_set ?_ GE584.out | refine below_set ?_ GE590.out) | exact HB.out)) hb); clear HO_7; clear HO_13; clear HO_585000; clear HO_591000; clear BK584; clear BK590; clear HB; have HO_7 := n0_; have HO_13 := n1_; have HO_585000 := n2_; have HO_591000 := n3_; have HO609 := n4_; have BK584 := n5_; have BK590 := n6_; have HB := n7_; clear n0_ n1_ n2_ n3_ n4_ n5_ n6_ n7_; (try clear hb); (try clear hb2); (try clear hk); (try clear hi); (try clear ho0); obtain ⟨Ao80, co80, eo80⟩ := Kd.V_slice HO609.out; subst eo80; have hcz81_0 : w79.cell? ⟨gb590, 0, none⟩ = some (.slice Ao43 t599.length co43) := (blk_cell BK590.out 0).trans rfl; have hfz81_0 := blk_frozen BK590.out 0) | ((with_reducible refine gate_store (t := 26) (p := 11) rfl ?_); refine store_event (t := 26) (p := 11) (v := ?vo_w82) (w1 := (w79.setCell ⟨gb590, 0, none⟩ (.slice Ao80 t607.length co80))) ?hg ?ho ?hn ?hr ?_; (case ho => rfl); (case hg => rfl); (case hn => rfl); (case hr => first | (go_simp; done) | (go_simp; rfl)); intro w82 hw; have n0_ : Aside0 (Kd.V (Kd.int .i64) 3 w82 w.heap.size (fun k_ => k_ ≠ gb584 ∧ k_ ≠ gb590) v577 t576) := ⟨(by rw [hw]; exact (by (with_reducible repeat (first | apply Kd.V_alloc | apply Kd.V_drewN | apply Kd.V_drew)); exact Kd.V_mono (Kd.V_far (p := ⟨gb590, 0, none⟩) (Kd.V_mono HO_7.out (fun k_ hk => (⟨hk, hk.2⟩ : _ ∧ k_ ≠ gb590))) (fun _ hk => hk.2) (.slice Ao80 t607.length co80)) (fun _ hk => ⟨hk.1.1, hk.1.2⟩)))⟩; have n1_ : Aside0 (Kd.V (Kd.int .i64) 3 w82 w.heap.size (fun k_ => k_ ≠ gb584 ∧ k_ ≠ gb590) (.slice Ao76 x13_35.length co76) x13_35) := ⟨(by rw [hw]; exact (by (with_reducible repeat (first | apply Kd.V_alloc | apply Kd.V_drewN | apply Kd.V_drew)); exact Kd.V_mono (Kd.V_far (p := ⟨gb590, 0, none⟩) (Kd.V_mono HO_13.out (fun k_ hk => (⟨hk, hk.2⟩ : _ ∧ k_ ≠ gb590))) (fun _ hk => hk.2) (.slice Ao80 t607.length co80)) (fun _ hk => ⟨hk.1.1, hk.1.2⟩)))⟩; have n2_ : Aside0 (Kd.V (Kd.int .u32) 79 w82 w.heap.size (fun k_ => k_ ≠ gb584 ∧ k_ ≠ gb590) (.slice Ao8 t579.length co8) t579) := ⟨(by rw [hw]; exact (by (with_reducible repeat (first | apply Kd.V_alloc | apply Kd.V_drewN | apply Kd.V_drew)); exact Kd.V_mono (Kd.V_far (p := ⟨gb590, 0, none⟩) (Kd.V_mono HO_585000.out (fun k_ hk => (⟨hk, hk.2⟩ : _ ∧ k_ ≠ gb590))) (fun _ hk => hk.2) (.slice Ao80 t607.length co80)) (fun _ hk => ⟨hk.1.1, hk.1.2⟩)))⟩; have n3_ : Aside0 (Kd.V (Kd.int .u32) 79 w82 w.heap.size (fun k_ => k_ ≠ gb584 ∧ k_ ≠ gb590) (.slice Ao43 t599.length co43) t599) := ⟨(by rw [hw]; exact (by (with_reducible repeat (first | apply Kd.V_alloc | apply Kd.V_drewN | apply Kd.V_drew)); exact Kd.V_mono (Kd.V_far (p := ⟨gb590, 0, none⟩) (Kd.V_mono HO_591000.out (fun k_ hk => (⟨hk, hk.2⟩ : _ ∧ k_ ≠ gb590))) (fun _ hk => hk.2) (.slice Ao80 t607.length co80)) (fun _ hk => ⟨hk.1.1, hk.1.2⟩)))⟩; have n4_ : Aside0 (Kd.V (Kd.int .u32) 79 w82 w.heap.size (fun k_ => k_ ≠ gb584 ∧ k_ ≠ gb590) (.slice Ao80 t607.length co80) t607) := ⟨(by rw [hw]; exact (by (with_reducible repeat (first | apply Kd.V_alloc | apply Kd.V_drewN | apply Kd.V_drew)); exact Kd.V_mono (Kd.V_far (p := ⟨gb590, 0, none⟩) (Kd.V_mono HO609.out (fun k_ hk => (⟨hk, hk.2⟩ : _ ∧ k_ ≠ gb590))) (fun _ hk => hk.2) (.slice Ao80 t607.length co80)) (fun _ hk => ⟨hk.1.1, hk.1.2⟩)))⟩; have n5_ : Aside0 (w82.heap[gb584]? = some (.cells #[.slice Ao8 t579.length co8] 26 (0, 0))) := ⟨(by rw [hw]; exact (by (with_reducible repeat (first | refine blk_drewN ?_ _ | refine blk_drew ?_ | refine blk_alloc ?_ _)); refine blk_far ?_ NB584_590.out _; (with_reducible repeat (first | refine blk_drewN ?_ _ | refine blk_drew ?_ | refine blk_alloc ?_ _)); exact BK584.out))⟩; have n6_ : Aside0 (w82.heap[gb590]? = some (.cells #[.slice Ao80 t607.length co80] 26 (0, 0))) := ⟨(by rw [hw]; exact (by (with_reducible repeat (first | refine blk_drewN ?_ _ | refine blk_drew ?_ | refine blk_alloc ?_ _)); refine blk_put (cs := #[.slice Ao43 t599.length co43]) ?_ 0 _ rfl; (with_reducible repeat (first | refine blk_drewN ?_ _ | refine blk_drew ?_ | refine blk_alloc ?_ _)); exact BK590.out))⟩; have n7_ : Aside0 (Below w.heap.size w w82) := ⟨(by rw [hw]; exact (by repeat (first | (with_reducible first | exact HB.out | apply below_alloc | apply pw_below_drewN | apply below_drew1 | refine below_set ?_ GE584.out | refine below_set ?_ GE590.out) | exact HB.out)))⟩; clear hw; clear HO_7; clear HO_13; clear HO_585000; clear HO_591000; clear HO609; clear BK584; clear BK590; clear HB; have HO_7 := n0_; have HO_13 := n1_; have HO_585000 := n2_; have HO_591000 := n3_; have HO609 := n4_; have BK584 := n5_; have BK590 := n6_; have HB := n7_; clear n0_ n1_ n2_ n3_ n4_ n5_ n6_ n7_; obtain ⟨Ao83, co83, eo83⟩ := Kd.V_slice HO_7.out; subst eo83) | ((with_reducible refine gate_callee (f := 39) rfl ?_); refine goesL_ (some 82) rfl rfl Tryd.func39 (by kernel_rfl) rfl #[.slice Ao83 t576.length co83, .int .i64 a2] rfl (by (try simp only [List.map_toArray, List.map_cons, List.map_nil]); first | done | rfl | (simp only [List.length_drop, List.length_take]; rfl)) ?_; (with_reducible refine (heraldref04_Power.calls kj35 (fun k_ => (k_ ≠ gb584 ∧ k_ ≠ gb590)) _ _ t576 a2 t611 t614 _ ?side1 A52.out).mono ?_); (case side1 => exact HO_7.out); rintro e w84 ⟨v612, rfl, ho0, hb⟩; refine ⟨_, rfl, ?_⟩; have n0_ := Aside0.mk (Kd.V_below (by (with_reducible repeat (first | apply Kd.V_alloc | apply Kd.V_drewN | apply Kd.V_drew)); exact HO_7.out) hb); have n1_ := Aside0.mk (Kd.V_below (by (with_reducible repeat (first | apply Kd.V_alloc | apply Kd.V_drewN | apply Kd.V_drew)); exact HO_13.out) hb); have n2_ := Aside0.mk (Kd.V_below (by (with_reducible repeat (first | apply Kd.V_alloc | apply Kd.V_drewN | apply Kd.V_drew)); exact HO_585000.out) hb); have n3_ := Aside0.mk (Kd.V_below (by (with_reducible repeat (first | apply Kd.V_alloc | apply Kd.V_drewN | apply Kd.V_drew)); exact HO_591000.out) hb); have n4_ := Aside0.mk (Kd.V_below (by (with_reducible repeat (first | apply Kd.V_alloc | apply Kd.V_drewN | apply Kd.V_drew)); exact HO609.out) hb); have n5_ := Aside0.mk (Kd.V_lower (Kd.V_mono (ok' := fun k_ => k_ ≠ gb584 ∧ k_ ≠ gb590) ho0 (fun k_ hk_ => ⟨Or.elim hk_ (fun hs_ => hs_.1) (fun hn_ => (Kd.freshB (g := gb584) (o := .cells #[.slice Ao8 t579.length co8] 26 (0, 0)) (by (with_reducible repeat (first | refine blk_drewN ?_ _ | refine blk_drew ?_ | refine blk_alloc ?_ _)); exact BK584.out) k_ hn_)), Or.elim hk_ (fun hs_ => hs_.2) (fun hn_ => (Kd.freshB (g := gb590) (o := .cells #[.slice Ao80 t607.length co80] 26 (0, 0)) (by (with_reducible repeat (first | refine blk_drewN ?_ _ | refine blk_drew ?_ | refine blk_alloc ?_ _)); exact BK590.out) k_ hn_))⟩)) (below_size (by repeat (first | (with_reducible first | exact HB.out | apply below_alloc | apply pw_below_drewN | apply below_drew1 | refine below_set ?_ GE584.out | refine below_set ?_ GE590.out) | exact HB.out)))); have n6_ := Aside0.mk (blk_below (g := gb584) (o := .cells #[.slice Ao8 t579.length co8] 26 (0, 0)) (by (with_reducible repeat (first | refine blk_drewN ?_ _ | refine blk_drew ?_ | refine blk_alloc ?_ _)); exact BK584.out) hb); have n7_ := Aside0.mk (blk_below (g := gb590) (o := .cells #[.slice Ao80 t607.length co80] 26 (0, 0)) (by (with_reducible repeat (first | refine blk_drewN ?_ _ | refine blk_drew ?_ | refine blk_alloc ?_ _)); exact BK590.out) hb); have n8_ := Aside0.mk (below_step (by repeat (first | (with_reducible first | exact HB.out | apply below_alloc | apply pw_below_drewN | apply below_drew1 | refine below_set ?_ GE584.out | refine below_set ?_ GE590.out) | exact HB.out)) hb); clear HO_7; clear HO_13; clear HO_585000; clear HO_591000; clear HO609; clear BK584; clear BK590; clear HB; have HO_7 := n0_; have HO_13 := n1_; have HO_585000 := n2_; have HO_591000 := n3_; have HO609 := n4_; have HO613 := n5_; have BK584 := n6_; have BK590 := n7_; have HB := n8_; clear n0_ n1_ n2_ n3_ n4_ n5_ n6_ n7_ n8_; (try clear hb); (try clear hb2); (try clear hk); (try clear hi); (try clear ho0); have hcz85_0 : w84.cell? ⟨gb590, 0, none⟩ = some (.slice Ao80 t607.length co80) := (blk_cell BK590.out 0).trans rfl; have hfz85_0 := blk_frozen BK590.out 0; obtain ⟨Ao86, co86, eo86⟩ := Kd.V_slice HO613.out; subst eo86) | ((with_reducible refine gate_callee (f := 14) rfl ?_); refine goesL_ (some 89) rfl rfl Tryd.func14 (by kernel_rfl) rfl #[.agg #[.slice Ao80 t607.length co80], .int .i64 t610, .slice Ao86 t611.length co86, .int .i64 t614] rfl (by (try simp only [List.map_toArray, List.map_cons, List.map_nil]); first | done | rfl | (simp only [List.length_drop, List.length_take]; rfl)) ?_; (with_reducible refine (heraldlaw04_is.calls kj35 _ _ t607 t610 _ _ t611 t614 false _ ?side1 ?side2 ?side3 ?side4 A53.out).mono ?_); (case side1 => repeat (first | exact (Kd.V_reads' HO609.out).2.2 | (with_reducible refine Kd.C_alloc ?_ _) | (with_reducible refine Kd.C_drewN ?_ _) | (with_reducible refine Kd.C_drew ?_))); (case side2 => exact (Kd.V_reads' HO609.out).2.1); (case side3 => repeat (first | exact (Kd.V_reads' HO613.out).2.2 | (with_reducible refine Kd.C_alloc ?_ _) | (with_reducible refine Kd.C_drewN ?_ _) | (with_reducible refine Kd.C_drew ?_))); (case side4 => exact (Kd.V_reads' HO613.out).2.1); rintro e w87 ⟨rfl, hb⟩; refine ⟨_, rfl, ?_⟩; have n0_ := Aside0.mk (Kd.V_below (by (with_reducible repeat (first | apply Kd.V_alloc | apply Kd.V_drewN | apply Kd.V_drew)); exact HO_7.out) hb); have n1_ := Aside0.mk (Kd.V_below (by (with_reducible repeat (first | apply Kd.V_alloc | apply Kd.V_drewN | apply Kd.V_drew)); exact HO_13.out) hb); have n2_ := Aside0.mk (Kd.V_below (by (with_reducible repeat (first | apply Kd.V_alloc | apply Kd.V_drewN | apply Kd.V_drew)); exact HO_585000.out) hb); have n3_ := Aside0.mk (Kd.V_below (by (with_reducible repeat (first | apply Kd.V_alloc | apply Kd.V_drewN | apply Kd.V_drew)); exact HO_591000.out) hb); have n4_ := Aside0.mk (Kd.V_below (by (with_reducible repeat (first | apply Kd.V_alloc | apply Kd.V_drewN | apply Kd.V_drew)); exact HO609.out) hb); have n5_ := Aside0.mk (Kd.V_below (by (with_reducible repeat (first | apply Kd.V_alloc | apply Kd.V_drewN | apply Kd.V_drew)); exact HO613.out) hb); have n6_ := Aside0.mk (blk_below (g := gb584) (o := .cells #[.slice Ao8 t579.length co8] 26 (0, 0)) (by (with_reducible repeat (first | refine blk_drewN ?_ _ | refine blk_drew ?_ | refine blk_alloc ?_ _)); exact BK584.out) hb); have n7_ := Aside0.mk (blk_below (g := gb590) (o := .cells #[.slice Ao80 t607.length co80] 26 (0, 0)) (by (with_reducible repeat (first | refine blk_drewN ?_ _ | refine blk_drew ?_ | refine blk_alloc ?_ _)); exact BK590.out) hb); have n8_ := Aside0.mk (below_step (by repeat (first | (with_reducible first | exact HB.out | apply below_alloc | apply pw_below_drewN | apply below_drew1 | refine below_set ?_ GE584.out | refine below_set ?_ GE590.out) | exact HB.out)) hb); clear HO_7; clear HO_13; clear HO_585000; clear HO_591000; clear HO609; clear HO613; clear BK584; clear BK590; clear HB; have HO_7 := n0_; have HO_13 := n1_; have HO_585000 := n2_; have HO_591000 := n3_; have HO609 := n4_; have HO613 := n5_; have BK584 := n6_; have BK590 := n7_; have HB := n8_; clear n0_ n1_ n2_ n3_ n4_ n5_ n6_ n7_ n8_; (try clear hb); (try clear hb2); (try clear hk); (try clear hi)))
                        go_ret
                        exact ⟨by first | rfl | (simp [errW_none, errW_some] <;> rfl) | (simp [*, errW_none, errW_some] <;> rfl), by repeat (first | (with_reducible first | exact HB.out | apply below_alloc | apply pw_below_drewN | apply below_drew1 | refine below_set ?_ GE584.out | refine below_set ?_ GE590.out) | exact HB.out)⟩
                    · replace c50 := Bool.eq_false_iff.mpr c50
                      subst c50
                      have H1 : (some false) = some r := by rw [if_neg (show ¬ (false = true) by decide)] at H; exact H
                      clear H
                      have H := H1
                      clear H1
                      obtain rfl := Option.some.inj H
                      have hnb88 := NB590_584.out
                      have hnc88 := NB584_590.out
                      have hcz89_0 : wc.cell? ⟨gb590, 0, none⟩ = some (.slice Ao43 t599.length co43) := (blk_cell BK590.out 0).trans rfl
                      have hfz89_0 := blk_frozen BK590.out 0
                      obtain ⟨Ao90, co90, eo90⟩ := Kd.V_slice HO_13.out
                      subst eo90
                      go_wp2_with (first | ((with_reducible refine gate_callee (f := 14) rfl ?_); refine goesL_ (some 71) rfl rfl Tryd.func14 (by kernel_rfl) rfl #[.agg #[.slice Ao43 t599.length co43], .int .i64 t602, .slice Ao90 x13_35.length co90, .int .i64 x14_35] rfl (by (try simp only [List.map_toArray, List.map_cons, List.map_nil]); first | done | rfl | (simp only [List.length_drop, List.length_take]; rfl)) ?_; (with_reducible refine (heraldlaw04_is.calls kj35 _ _ t599 t602 _ _ x13_35 x14_35 false _ ?side1 ?side2 ?side3 ?side4 A49.out).mono ?_); (case side1 => repeat (first | exact (Kd.V_reads' HO_591000.out).2.2 | (with_reducible refine Kd.C_alloc ?_ _) | (with_reducible refine Kd.C_drewN ?_ _) | (with_reducible refine Kd.C_drew ?_))); (case side2 => exact (Kd.V_reads' HO_591000.out).2.1); (case side3 => repeat (first | exact (Kd.V_reads' HO_13.out).2.2 | (with_reducible refine Kd.C_alloc ?_ _) | (with_reducible refine Kd.C_drewN ?_ _) | (with_reducible refine Kd.C_drew ?_))); (case side4 => exact (Kd.V_reads' HO_13.out).2.1); rintro e w91 ⟨rfl, hb⟩; refine ⟨_, rfl, ?_⟩; have n0_ := Aside0.mk (Kd.V_below (by (with_reducible repeat (first | apply Kd.V_alloc | apply Kd.V_drewN | apply Kd.V_drew)); exact HO_7.out) hb); have n1_ := Aside0.mk (Kd.V_below (by (with_reducible repeat (first | apply Kd.V_alloc | apply Kd.V_drewN | apply Kd.V_drew)); exact HO_13.out) hb); have n2_ := Aside0.mk (Kd.V_below (by (with_reducible repeat (first | apply Kd.V_alloc | apply Kd.V_drewN | apply Kd.V_drew)); exact HO_585000.out) hb); have n3_ := Aside0.mk (Kd.V_below (by (with_reducible repeat (first | apply Kd.V_alloc | apply Kd.V_drewN | apply Kd.V_drew)); exact HO_591000.out) hb); have n4_ := Aside0.mk (blk_below (g := gb584) (o := .cells #[.slice Ao8 t579.length co8] 26 (0, 0)) (by (with_reducible repeat (first | refine blk_drewN ?_ _ | refine blk_drew ?_ | refine blk_alloc ?_ _)); exact BK584.out) hb); have n5_ := Aside0.mk (blk_below (g := gb590) (o := .cells #[.slice Ao43 t599.length co43] 26 (0, 0)) (by (with_reducible repeat (first | refine blk_drewN ?_ _ | refine blk_drew ?_ | refine blk_alloc ?_ _)); exact BK590.out) hb); have n6_ := Aside0.mk (below_step (by repeat (first | (with_reducible first | exact HB.out | apply below_alloc | apply pw_below_drewN | apply below_drew1 | refine below_set ?_ GE584.out | refine below_set ?_ GE590.out) | exact HB.out)) hb); clear HO_7; clear HO_13; clear HO_585000; clear HO_591000; clear BK584; clear BK590; clear HB; have HO_7 := n0_; have HO_13 := n1_; have HO_585000 := n2_; have HO_591000 := n3_; have BK584 := n4_; have BK590 := n5_; have HB := n6_; clear n0_ n1_ n2_ n3_ n4_ n5_ n6_; (try clear hb); (try clear hb2); (try clear hk); (try clear hi)))
                      go_ret
                      exact ⟨by first | rfl | (simp [errW_none, errW_some] <;> rfl) | (simp [*, errW_none, errW_some] <;> rfl), by repeat (first | (with_reducible first | exact HB.out | apply below_alloc | apply pw_below_drewN | apply below_drew1 | refine below_set ?_ GE584.out | refine below_set ?_ GE590.out) | exact HB.out)⟩
              · replace c34 := Bool.eq_false_iff.mpr c34
                subst c34
                have H1 : (some false) = some r := by rw [if_neg (show ¬ (false = true) by decide)] at H; exact H
                clear H
                have H := H1
                clear H1
                obtain rfl := Option.some.inj H
                have hnb92 := NB590_584.out
                have hnc92 := NB584_590.out
                have hcz93_0 : wc.cell? ⟨gb590, 0, none⟩ = some (.slice Ao21 t586.length co21) := (blk_cell BK590.out 0).trans rfl
                have hfz93_0 := blk_frozen BK590.out 0
                obtain ⟨Ao94, co94, eo94⟩ := Kd.V_slice HO_13.out
                subst eo94
                go_wp2_with (first | ((with_reducible refine gate_callee (f := 14) rfl ?_); refine goesL_ (some 54) rfl rfl Tryd.func14 (by kernel_rfl) rfl #[.agg #[.slice Ao21 t586.length co21], .int .i64 t589, .slice Ao94 x13_16.length co94, .int .i64 x14_16] rfl (by (try simp only [List.map_toArray, List.map_cons, List.map_nil]); first | done | rfl | (simp only [List.length_drop, List.length_take]; rfl)) ?_; (with_reducible refine (heraldlaw04_is.calls kj16 _ _ t586 t589 _ _ x13_16 x14_16 false _ ?side1 ?side2 ?side3 ?side4 A33.out).mono ?_); (case side1 => repeat (first | exact (Kd.V_reads' HO_591000.out).2.2 | (with_reducible refine Kd.C_alloc ?_ _) | (with_reducible refine Kd.C_drewN ?_ _) | (with_reducible refine Kd.C_drew ?_))); (case side2 => exact (Kd.V_reads' HO_591000.out).2.1); (case side3 => repeat (first | exact (Kd.V_reads' HO_13.out).2.2 | (with_reducible refine Kd.C_alloc ?_ _) | (with_reducible refine Kd.C_drewN ?_ _) | (with_reducible refine Kd.C_drew ?_))); (case side4 => exact (Kd.V_reads' HO_13.out).2.1); rintro e w95 ⟨rfl, hb⟩; refine ⟨_, rfl, ?_⟩; have n0_ := Aside0.mk (Kd.V_below (by (with_reducible repeat (first | apply Kd.V_alloc | apply Kd.V_drewN | apply Kd.V_drew)); exact HO_7.out) hb); have n1_ := Aside0.mk (Kd.V_below (by (with_reducible repeat (first | apply Kd.V_alloc | apply Kd.V_drewN | apply Kd.V_drew)); exact HO_13.out) hb); have n2_ := Aside0.mk (Kd.V_below (by (with_reducible repeat (first | apply Kd.V_alloc | apply Kd.V_drewN | apply Kd.V_drew)); exact HO_585000.out) hb); have n3_ := Aside0.mk (Kd.V_below (by (with_reducible repeat (first | apply Kd.V_alloc | apply Kd.V_drewN | apply Kd.V_drew)); exact HO_591000.out) hb); have n4_ := Aside0.mk (blk_below (g := gb584) (o := .cells #[.slice Ao8 t579.length co8] 26 (0, 0)) (by (with_reducible repeat (first | refine blk_drewN ?_ _ | refine blk_drew ?_ | refine blk_alloc ?_ _)); exact BK584.out) hb); have n5_ := Aside0.mk (blk_below (g := gb590) (o := .cells #[.slice Ao21 t586.length co21] 26 (0, 0)) (by (with_reducible repeat (first | refine blk_drewN ?_ _ | refine blk_drew ?_ | refine blk_alloc ?_ _)); exact BK590.out) hb); have n6_ := Aside0.mk (below_step (by repeat (first | (with_reducible first | exact HB.out | apply below_alloc | apply pw_below_drewN | apply below_drew1 | refine below_set ?_ GE584.out | refine below_set ?_ GE590.out) | exact HB.out)) hb); clear HO_7; clear HO_13; clear HO_585000; clear HO_591000; clear BK584; clear BK590; clear HB; have HO_7 := n0_; have HO_13 := n1_; have HO_585000 := n2_; have HO_591000 := n3_; have BK584 := n4_; have BK590 := n5_; have HB := n6_; clear n0_ n1_ n2_ n3_ n4_ n5_ n6_; (try clear hb); (try clear hb2); (try clear hk); (try clear hi)))
                go_ret
                exact ⟨by first | rfl | (simp [errW_none, errW_some] <;> rfl) | (simp [*, errW_none, errW_some] <;> rfl), by repeat (first | (with_reducible first | exact HB.out | apply below_alloc | apply pw_below_drewN | apply below_drew1 | refine below_set ?_ GE584.out | refine below_set ?_ GE590.out) | exact HB.out)⟩
        · replace c15 := Bool.eq_false_iff.mpr c15
          subst c15
          have H1 : (some true) = some r := by rw [if_neg (show ¬ (false = true) by decide)] at H; exact H
          clear H
          have H := H1
          clear H1
          obtain rfl := Option.some.inj H
          go_wp2
          go_ret
          exact ⟨by first | rfl | (simp [errW_none, errW_some] <;> rfl) | (simp [*, errW_none, errW_some] <;> rfl), by repeat (first | (with_reducible first | exact HB.out | apply below_alloc | apply pw_below_drewN | apply below_drew1 | refine below_set ?_ GE584.out) | exact HB.out)⟩
end Go.Proofs.YtgcngbmkgjphpaaDoor.PAll
end

section
namespace Go.Proofs.YtgcngbmkgjphpaaDoor.Nums
open Go.RowKit Go.Proofs.YtgcngbmkgjphpaaDoor.PAll Go.Proofs.YtgcngbmkgjphpaaDoorW.PrintWords Go.Proofs.YtgcngbmkgjphpaaDoorW.PrintLast Go.Proofs.YtgcngbmkgjphpaaDoorW.PrintMore
set_option linter.unusedVariables false
set_option linter.unusedSimpArgs false
theorem tdiv32 (n : Nat) (h : n < 9223372036854775808) : wrap64 (Int.tdiv (n : Int) 32) = ((n / 32 : Nat) : Int) := by
  rw [show (32 : Int) = ((32 : Nat) : Int) from rfl, ← Int.ofNat_tdiv, wrap_in (by omega) (by omega)]
theorem tmod32 (n : Nat) : Int.tmod (n : Int) 32 = ((n % 32 : Nat) : Int) := by rw [show (32 : Int) = ((32 : Nat) : Int) from rfl, ← Int.ofNat_tmod]
theorem tdiv16 (n : Nat) (h : n < 9223372036854775808) : wrap64 (Int.tdiv (n : Int) 16) = ((n / 16 : Nat) : Int) := by
  rw [show (16 : Int) = ((16 : Nat) : Int) from rfl, ← Int.ofNat_tdiv, wrap_in (by omega) (by omega)]
theorem tmod16 (n : Nat) : IntKind.u64.wrap (Int.tmod (n : Int) 16) = ((n % 16 : Nat) : Int) := by rw [show (16 : Int) = ((16 : Nat) : Int) from rfl, ← Int.ofNat_tmod, u64_in (by omega) (by omega)]
theorem wrap_add (a b : Nat) (h : a + b < 1000000000000) : wrap64 ((a : Int) + (b : Int)) = ((a + b : Nat) : Int) := by rw [wrap_in (by omega) (by omega)]; omega
theorem wrap_one (a : Nat) (h : a < 1000000000000) : wrap64 ((a : Int) + 1) = ((a + 1 : Nat) : Int) := by rw [wrap_in (by omega) (by omega)]; omega
theorem wrap_sub (a b c : Nat) (h : a < 1000000000000) (e : c + b = a) : wrap64 ((a : Int) - (b : Int)) = (c : Int) := by rw [wrap_in (by omega) (by omega)]; omega
theorem pow32_split (n : Nat) : 2 ^ n = 4294967296 ^ (n / 32) * 2 ^ (n % 32) := by
  rw [show (4294967296 : Nat) = 2 ^ 32 from rfl, ← Nat.pow_mul, ← Nat.pow_add, Nat.div_add_mod]
theorem pow16_split (n : Nat) : 2 ^ n = 65536 ^ (n / 16) * 2 ^ (n % 16) := by
  rw [show (65536 : Nat) = 2 ^ 16 from rfl, ← Nat.pow_mul, ← Nat.pow_add, Nat.div_add_mod]
theorem shl64 (p s : Nat) (hs : s < 32) (hp : p < 4294967296) : shl .u64 (p : Int) (s : Int) = ((p * 2 ^ s : Nat) : Int) ∧ p * 2 ^ s < 18446744073709551616 := by
  have h1 : 2 ^ s ≤ 2 ^ 31 := Nat.pow_le_pow_right (by omega) (by omega)
  have h2 : p * 2 ^ s ≤ 4294967295 * 2 ^ 31 := Nat.mul_le_mul (by omega) h1
  have h3 : (4294967295 : Nat) * 2 ^ 31 < 18446744073709551616 := by decide
  refine ⟨?_, by omega⟩
  unfold shl
  rw [Int.toNat_natCast, Nat.min_eq_left (show s ≤ IntKind.u64.bits by show s ≤ 64; omega)]
  have e : (p : Int) * 2 ^ s = ((p * 2 ^ s : Nat) : Int) := by rw [Int.natCast_mul, Int.natCast_pow]; rfl
  rw [e, u64_in (by omega) (by omega)]
/-- One round of Up: two digits take what is shifted. -/
theorem up_step (L j s p V : Nat) (hs : s < 32) (hp : p < 4294967296) (hj : j + 1 < L) (hV : V / 4294967296 ^ j < 2 ^ s) :
    ((dn 4294967296 L V).set j (Go.bits .or .u32 (rd (dn 4294967296 L V) (j : Int)) ((shl .u64 (IntKind.u64.wrap (p : Int)) (s : Int)) % 4294967296))) = dn 4294967296 L (V + 4294967296 ^ j * (p * 2 ^ s % 4294967296)) ∧
    ((dn 4294967296 L (V + 4294967296 ^ j * (p * 2 ^ s % 4294967296))).set (j + 1) (Go.bits .or .u32 (rd (dn 4294967296 L (V + 4294967296 ^ j * (p * 2 ^ s % 4294967296))) ((j + 1 : Nat) : Int)) (((shl .u64 (IntKind.u64.wrap (p : Int)) (s : Int)) / 4294967296) % 4294967296))) = dn 4294967296 L (V + 4294967296 ^ j * (p * 2 ^ s)) := by
  obtain ⟨hsh, hlt⟩ := shl64 p s hs hp
  rw [u64_in (a := (p : Int)) (by omega) (by omega), hsh]
  have hpow : 2 ^ s ≤ 2 ^ 31 := Nat.pow_le_pow_right (by omega) (by omega)
  have h31 : (2 : Nat) ^ 31 = 2147483648 := rfl
  have hsp : (4294967296 : Nat) = 2 ^ s * 2 ^ (32 - s) := by rw [← Nat.pow_add, show s + (32 - s) = 32 by omega]
  have hlow : p * 2 ^ s % 4294967296 = 2 ^ s * (p % 2 ^ (32 - s)) := by
    conv => lhs; rw [Nat.mul_comm, hsp, Nat.mul_mod_mul_left]
  have hbp : 0 < 4294967296 ^ j := Nat.pow_pos (by omega)
  have hq : (V / 4294967296 ^ j) % 4294967296 = V / 4294967296 ^ j := Nat.mod_eq_of_lt (by omega)
  have hsum : 2 ^ s * (p % 2 ^ (32 - s)) + V / 4294967296 ^ j < 4294967296 := by
    have h1 : p % 2 ^ (32 - s) + 1 ≤ 2 ^ (32 - s) := Nat.mod_lt _ (Nat.pow_pos (by omega))
    have h2 := Nat.mul_le_mul_left (2 ^ s) h1
    rw [← hsp, Nat.mul_add] at h2
    omega
  constructor
  · rw [rd_dn (by omega), hq]
    have e1 : ((p * 2 ^ s : Nat) : Int) % 4294967296 = ((2 ^ s * (p % 2 ^ (32 - s)) : Nat) : Int) := by rw [← hlow]; omega
    rw [e1, or32' hV hsum, hlow]
    have hs := dn_set (b := 4294967296) (by omega) j L V (2 ^ s * (p % 2 ^ (32 - s))) (by omega) (by rw [hq]; omega)
    rw [hq] at hs
    rw [← hs, Nat.add_comm]
  · have hz : (V + 4294967296 ^ j * (p * 2 ^ s % 4294967296)) / 4294967296 ^ (j + 1) % 4294967296 = 0 := by
      rw [Nat.pow_succ, ← Nat.div_div_eq_div_mul, Nat.add_mul_div_left _ _ hbp, hlow, Nat.div_eq_of_lt (by omega)]
    rw [rd_dn (by omega), hz]
    have hhi : p * 2 ^ s / 4294967296 < 4294967296 := by omega
    have e1 : ((p * 2 ^ s : Nat) : Int) / 4294967296 % 4294967296 = ((p * 2 ^ s / 4294967296 : Nat) : Int) := by omega
    have o := or32 (s := 32) (a := 0) (c := p * 2 ^ s / 4294967296) (by omega) (by omega)
    rw [Nat.mul_zero, Nat.zero_add] at o
    rw [e1, o]
    have hs := dn_set (b := 4294967296) (by omega) (j + 1) L (V + 4294967296 ^ j * (p * 2 ^ s % 4294967296)) (p * 2 ^ s / 4294967296) (by omega) (by rw [hz]; omega)
    rw [hz, Nat.zero_add] at hs
    rw [hs, Nat.add_assoc]
    congr 2
    rw [Nat.pow_succ, Nat.mul_assoc, ← Nat.mul_add, Nat.mod_add_div]
theorem up_loop (x n L : Nat) (hL : L = (dgs 4294967296 x).length + n / 32 + 1) (hsz : L ≤ 1000000000) (hn : n ≤ 65536) : ∀ (m i : Nat), m = (dgs 4294967296 x).length - i → i ≤ (dgs 4294967296 x).length →
    Ev (fun k => nat_Nat_Up.l0 k (n : Int) (dn 4294967296 L ((x % 4294967296 ^ i) * 2 ^ n)) (dgs 4294967296 x) ((dgs 4294967296 x).length : Int) (i : Int)) (dgs 4294967296 (x * 2 ^ n), 0) := by
  intro m
  induction m with
  | zero =>
    intro i hm hi
    obtain rfl : i = (dgs 4294967296 x).length := by omega
    have hv : x * 2 ^ n < 4294967296 ^ L := by
      have h1 : 2 ^ n < 4294967296 ^ (n / 32 + 1) := by
        rw [pow32_split n, Nat.pow_succ]
        refine Nat.mul_lt_mul_of_pos_left ?_ (Nat.pow_pos (by omega))
        exact Nat.lt_of_lt_of_le (Nat.pow_lt_pow_right (by omega) (Nat.mod_lt n (show 0 < 32 by omega))) (by decide)
      have := mul_lt_pow (b := 4294967296) (lt_pow_len (b := 4294967296) (n := x) (by omega)) h1
      rw [hL, Nat.add_assoc]; exact this
    have := (cut_dn (by omega) hv).bind (f := fun _ t528 => some (t528, (0 : Int))) (Ev.now _)
    refine Ev.step (fun k => ?_) this
    rw [nat_Nat_Up.l0, if_neg (by omega), Nat.mod_eq_of_lt (lt_pow_len (by omega))]
  | succ m ih =>
    intro i hm hi
    have hp := Nat.mod_lt (x / 4294967296 ^ i) (show 0 < 4294967296 by omega)
    have hq := Nat.mod_lt n (show 0 < 32 by omega)
    have hVlt : (x % 4294967296 ^ i) * 2 ^ n / 4294967296 ^ (i + n / 32) < 2 ^ (n % 32) := by
      rw [Nat.div_lt_iff_lt_mul (Nat.pow_pos (by omega)), pow32_split n, Nat.pow_add, Nat.mul_comm (2 ^ (n % 32)), Nat.mul_assoc]
      exact Nat.mul_lt_mul_of_pos_right (Nat.mod_lt _ (Nat.pow_pos (by omega))) (Nat.mul_pos (Nat.pow_pos (by omega)) (Nat.pow_pos (by omega)))
    obtain ⟨s1, s2⟩ := up_step L (i + n / 32) (n % 32) (x / 4294967296 ^ i % 4294967296) ((x % 4294967296 ^ i) * 2 ^ n) hq hp (by omega) hVlt
    have hnext : (x % 4294967296 ^ i) * 2 ^ n + 4294967296 ^ (i + n / 32) * (x / 4294967296 ^ i % 4294967296 * 2 ^ (n % 32)) = (x % 4294967296 ^ (i + 1)) * 2 ^ n := by
      rw [Nat.mod_pow_succ, Nat.add_mul, Nat.add_left_cancel_iff]
      conv => rhs; rw [pow32_split n]
      rw [Nat.pow_add]
      grind
    rw [hnext] at s2
    have ihh := ih (i + 1) (by omega) (by omega)
    have k7 : 2 ≤ 4294967296 := by omega
    refine Ev.step (fun k => ?_) ihh
    have k0 : n < 9223372036854775808 := by omega
    have k1 : i + n / 32 < 1000000000000 := by omega
    have k2 : i < 1000000000000 := by omega
    have c1 : (i : Int) < ((dgs 4294967296 x).length : Int) := by omega
    have c2 : (0 : Int) ≤ ((n % 32 : Nat) : Int) := by omega
    have c3 : (0 : Int) ≤ ((i + n / 32 : Nat) : Int) := by omega
    have c4 : ((i + n / 32 : Nat) : Int) < (L : Int) := by omega
    have c5 : (0 : Int) ≤ ((i + n / 32 + 1 : Nat) : Int) := by omega
    have c6 : ((i + n / 32 + 1 : Nat) : Int) < (L : Int) := by omega
    have c7 : (0 : Int) ≤ (i : Int) := by omega
    have e0 := tdiv32 n k0
    have e1 := tmod32 n
    have e2 := wrap_add i (n / 32) k1
    have e3 := wrap_one (i + n / 32) k1
    have e4 := wrap_one i k2
    rw [nat_Nat_Up.l0, if_pos c1, if_pos c7, if_pos c1, e1, if_pos c2, e0, e2, if_pos c3, dn_length, if_pos c4, Int.toNat_natCast, rd_dgs k7, s1, Option.bind_some, e3, if_pos c5, if_pos c6, Int.toNat_natCast, s2, e4]
theorem up_neg (l : List Int) (a : Int) (h : a < 0) (k : Nat) : nat_Nat_Up.f k l a = some ([], 1) := by unfold nat_Nat_Up.f; rw [if_pos h]
theorem up_zero (n : Nat) (k : Nat) : nat_Nat_Up.f k (dgs 4294967296 0) (n : Int) = some ([], 0) := by unfold nat_Nat_Up.f; rw [if_neg (by omega), if_pos (by simp [dgs_zero])]
theorem up_big (x n : Nat) (hx : x ≠ 0) (hxl : bl x ≤ 65536) (hn : 65536 < bl x + n) (k : Nat) : nat_Nat_Up.f k (dgs 4294967296 x) (n : Int) = some ([], 41) := by
  have lx := pd_len (n := x) (k := 2048) (by omega)
  have hb := bits_some (n := x) (by omega)
  have h0 := dgs_len_pos (b := 4294967296) (n := x) (by omega) hx
  unfold nat_Nat_Up.f
  rw [if_neg (by omega), if_neg (by omega), hb, Option.bind_some, wrap_in (by omega) (by omega), if_pos (by omega)]
theorem up_ev (x n : Nat) (hx : x ≠ 0) (hxl : bl x + n ≤ 65536) : Ev (fun k => nat_Nat_Up.f k (dgs 4294967296 x) (n : Int)) (dgs 4294967296 (x * 2 ^ n), 0) := by
  have lx := pd_len (n := x) (k := 2048) (by omega)
  have hb := bits_some (n := x) (by omega)
  have h0 := dgs_len_pos (b := 4294967296) (n := x) (by omega) hx
  have h := up_loop x n ((dgs 4294967296 x).length + n / 32 + 1) rfl (by omega) (by omega) (dgs 4294967296 x).length 0 (by omega) (by omega)
  rw [Nat.pow_zero, Nat.mod_one, Nat.zero_mul] at h
  refine Ev.congr (fun k => ?_) h
  have c1 : ¬ (n : Int) < 0 := by omega
  have c2 : ¬ ((dgs 4294967296 x).length : Int) = 0 := by omega
  have c3 : ¬ (n : Int) > 65536 - ((bl x : Nat) : Int) := by omega
  have c4 : (0 : Int) ≤ (((dgs 4294967296 x).length + n / 32 + 1 : Nat) : Int) := by omega
  have c5 : (((dgs 4294967296 x).length + n / 32 + 1 : Nat) : Int).toNat ≤ 70368744177664 := by omega
  have k1 : (dgs 4294967296 x).length + n / 32 < 1000000000000 := by omega
  have k3 : -9223372036854775808 ≤ 65536 - ((bl x : Nat) : Int) := by omega
  have k4 : 65536 - ((bl x : Nat) : Int) ≤ 9223372036854775807 := by omega
  have e0 := tdiv32 n (by omega)
  have e1 := wrap_add (dgs 4294967296 x).length (n / 32) k1
  have e2 := wrap_one ((dgs 4294967296 x).length + n / 32) k1
  unfold nat_Nat_Up.f
  rw [if_neg c1, if_neg c2, hb, Option.bind_some, wrap_in (a := 65536 - ((bl x : Nat) : Int)) k3 k4, if_neg c3, e0, e1, e2, if_pos c4, if_pos c5, rep_dn 4294967296 ((dgs 4294967296 x).length + n / 32 + 1) _ rfl]
  rfl
theorem bl_shift (x n : Nat) (hx : x ≠ 0) : bl (x * 2 ^ n) = bl x + n := by
  have h := bl_mul_add (r := 0) (t := x) (p := n) (Nat.pow_pos (by omega)) (by omega)
  rw [Nat.zero_add, Nat.mul_comm] at h
  omega
theorem dgs_pad {b : Nat} (hb : 2 ≤ b) (v : Nat) (hv : v ≠ 0) : ∀ k, List.replicate k 0 ++ dgs b v = dgs b (b ^ k * v)
  | 0 => by simp
  | k + 1 => by
    have hne : b ^ (k + 1) * v ≠ 0 := Nat.mul_ne_zero (Nat.ne_of_gt (Nat.pow_pos (by omega))) hv
    rw [dgs_pos hb hne, List.replicate_succ, List.cons_append, dgs_pad hb v hv k, Nat.pow_succ', Nat.mul_assoc, Nat.mul_mod_right, Nat.mul_div_cancel_left _ (by omega)]
    rfl
theorem shl_one (s : Nat) (hs : s < 17) : shl .i64 1 (s : Int) = ((2 ^ s : Nat) : Int) := by
  have h1 : 2 ^ s ≤ 2 ^ 16 := Nat.pow_le_pow_right (by omega) (by omega)
  have h2 : (2 : Nat) ^ 16 = 65536 := rfl
  unfold shl
  rw [Int.toNat_natCast, Nat.min_eq_left (show s ≤ IntKind.i64.bits by show s ≤ 64; omega), Int.one_mul]
  have e : (2 : Int) ^ s = ((2 ^ s : Nat) : Int) := by rw [Int.natCast_pow]; rfl
  rw [e, i64_w]
  generalize 2 ^ s = P at *
  rw [wrap_in (by omega) (by omega)]
theorem rup_zero (n : Int) (k : Nat) : heraldref04_Up.f k (dgs 65536 0) n = some (dgs 65536 0, true) := by unfold heraldref04_Up.f; rw [if_pos (by simp [dgs_zero])]
theorem rup_far (x n : Nat) (hx : x ≠ 0) (hn : 65536 < n) (k : Nat) : heraldref04_Up.f k (dgs 65536 x) (n : Int) = some ([], false) := by
  have h0 := dgs_len_pos (b := 65536) (n := x) (by omega) hx
  unfold heraldref04_Up.f; rw [if_neg (by omega), if_pos (by omega)]
theorem rup_ev (x n : Nat) (hx : x ≠ 0) (hxl : bl x ≤ 65536) (hn : n ≤ 65536) : Ev (fun k => heraldref04_Up.f k (dgs 65536 x) (n : Int)) (dgs 65536 (x * 2 ^ n), decide (bl x + n ≤ 65536)) := by
  have lx := rg_len (n := x) (k := 4096) (by omega)
  have h0 := dgs_len_pos (b := 65536) (n := x) (by omega) hx
  have hq := Nat.mod_lt n (show 0 < 16 by omega)
  have hpow : 2 ^ (n % 16) ≤ 2 ^ 15 := Nat.pow_le_pow_right (by omega) (by omega)
  have h15 : (2 : Nat) ^ 15 = 32768 := rfl
  have lo : (dgs 65536 (2 ^ (n % 16))).length ≤ 1 := (dgs_len_le (by omega)).mpr (by omega)
  have lm := mul_len 65536 x (2 ^ (n % 16)) (by omega)
  have hof := rof_ev (2 ^ (n % 16)) (by omega)
  have hmul := rmul_ev (x := x) (y := 2 ^ (n % 16)) (by omega)
  have hmne : x * 2 ^ (n % 16) ≠ 0 := Nat.mul_ne_zero hx (Nat.ne_of_gt (Nat.pow_pos (by omega)))
  have hpad := dgs_pad (b := 65536) (by omega) (x * 2 ^ (n % 16)) hmne (n / 16)
  have hval : 65536 ^ (n / 16) * (x * 2 ^ (n % 16)) = x * 2 ^ n := by rw [pow16_split n]; grind
  rw [hval] at hpad
  have hlen : (dgs 65536 (x * 2 ^ n)).length ≤ 8200 := by rw [← hpad, List.length_append, List.length_replicate]; omega
  have hfit := fit_ev (n := x * 2 ^ n) (by omega)
  rw [bl_shift x n hx] at hfit
  have q0 : Ev (fun k => (heraldref04_Fit.f k (dgs 65536 (x * 2 ^ n))).bind fun bt543 => (some (dgs 65536 (x * 2 ^ n), (bt543.2 == 0)))) (dgs 65536 (x * 2 ^ n), decide (bl x + n ≤ 65536)) := by
    by_cases g : bl x + n ≤ 65536
    · rw [if_pos g] at hfit
      exact hfit.bind (f := fun k bt543 => (some (dgs 65536 (x * 2 ^ n), (bt543.2 == 0)))) (r := (dgs 65536 (x * 2 ^ n), decide (bl x + n ≤ 65536))) (Ev.congr (fun k => by rw [decide_eq_true g]; rfl) (Ev.now _))
    · rw [if_neg g] at hfit
      exact hfit.bind (f := fun k bt543 => (some (dgs 65536 (x * 2 ^ n), (bt543.2 == 0)))) (r := (dgs 65536 (x * 2 ^ n), decide (bl x + n ≤ 65536))) (Ev.congr (fun k => by rw [decide_eq_false g]; rfl) (Ev.now _))
  have hl2 : (List.replicate (n / 16) (0 : Int)).length + (dgs 65536 (x * 2 ^ (n % 16))).length < 17592186044416 := by rw [List.length_replicate]; omega
  have q1 := hmul.bind (f := fun k t537 => (if (List.replicate (n / 16) (0 : Int)).length + t537.length < 17592186044416 then ((some (List.replicate (n / 16) 0 ++ t537 : List Int)).bind fun y540 => ((heraldref04_Fit.f k y540).bind fun bt543 => (some (y540, (bt543.2 == 0))))) else (none))) (r := (dgs 65536 (x * 2 ^ n), decide (bl x + n ≤ 65536))) (Ev.congr (fun k => by rw [if_pos hl2, Option.bind_some, hpad]) q0)
  have q2 := hof.bind (f := fun k t534 => ((heraldref04_Mul.f k (dgs 65536 x) t534).bind fun t537 => (if (List.replicate (n / 16) (0 : Int)).length + t537.length < 17592186044416 then ((some (List.replicate (n / 16) 0 ++ t537 : List Int)).bind fun y540 => ((heraldref04_Fit.f k y540).bind fun bt543 => (some (y540, (bt543.2 == 0))))) else (none)))) q1
  have c1 : ¬ ((dgs 65536 x).length : Int) = 0 := by omega
  have c2 : ¬ (n : Int) > 65536 := by omega
  have c3 : (0 : Int) ≤ ((n / 16 : Nat) : Int) := by omega
  have c4 : ((n / 16 : Nat) : Int).toNat ≤ 35184372088832 := by omega
  have c5 : (0 : Int) ≤ ((n % 16 : Nat) : Int) := by omega
  have e2 := shl_one (n % 16) (by omega)
  have k0 : n < 9223372036854775808 := by omega
  have e0 := tdiv16 n k0
  have e1 := tmod16 n
  refine Ev.congr (fun k => ?_) q2
  unfold heraldref04_Up.f
  rw [if_neg c1, if_neg c2, e0, if_pos c3, if_pos c4, Int.toNat_natCast, Option.bind_some, e1, if_pos c5, e2]
/-- Down. -/
theorem down_digit (x n i : Nat) : (x / 4294967296 ^ (i + n / 32) / 4294967296 % 4294967296 * 4294967296 + x / 4294967296 ^ (i + n / 32) % 4294967296) / 2 ^ (n % 32) % 4294967296 = x / 2 ^ n / 4294967296 ^ i % 4294967296 := by
  have hs := Nat.mod_lt n (show 0 < 32 by omega)
  have hM : x / 4294967296 ^ (i + n / 32) / 2 ^ (n % 32) = x / 2 ^ n / 4294967296 ^ i := by
    rw [Nat.div_div_eq_div_mul, Nat.div_div_eq_div_mul]
    congr 1
    conv => rhs; rw [pow32_split n]
    rw [Nat.pow_add]
    grind
  generalize x / 4294967296 ^ (i + n / 32) = M at *
  have e1 : M / 4294967296 % 4294967296 * 4294967296 + M % 4294967296 = M % 18446744073709551616 := by omega
  have e2 : (18446744073709551616 : Nat) = 2 ^ (n % 32) * 2 ^ (64 - n % 32) := by rw [← Nat.pow_add, show n % 32 + (64 - n % 32) = 64 by omega]
  have e3 : (4294967296 : Nat) ∣ 2 ^ (64 - n % 32) := by
    rw [show 64 - n % 32 = 32 + (32 - n % 32) by omega, Nat.pow_add]; exact Nat.dvd_mul_right _ _
  rw [e1, e2, Nat.mod_mul_right_div_self, Nat.mod_mod_of_dvd _ e3, hM]
theorem down_loop (x n L : Nat) (hL : L + n / 32 = (dgs 4294967296 x).length) (hsz : (dgs 4294967296 x).length ≤ 1000000000) (hn : n ≤ 65536) : ∀ (m i : Nat), m = L - i → i ≤ L →
    Ev (fun k => nat_Nat_Down.l0 k (n : Int) (dn 4294967296 L (mix 4294967296 i (x / 2 ^ n) 0)) (L : Int) (i : Int) (dgs 4294967296 x)) (dgs 4294967296 (x / 2 ^ n), 0) := by
  have hv : x / 2 ^ n < 4294967296 ^ L := by
    have h1 : x < 4294967296 ^ (dgs 4294967296 x).length := lt_pow_len (by omega)
    rw [← hL, Nat.pow_add] at h1
    have h2 : x / 4294967296 ^ (n / 32) < 4294967296 ^ L := by rw [Nat.div_lt_iff_lt_mul (Nat.pow_pos (by omega))]; exact h1
    have h3 : x / 2 ^ n ≤ x / 4294967296 ^ (n / 32) := by
      rw [pow32_split n, ← Nat.div_div_eq_div_mul]; exact Nat.div_le_self _ _
    omega
  intro m
  induction m with
  | zero =>
    intro i hm hi
    obtain rfl : i = L := by omega
    have := (cut_dn (by omega) hv).bind (f := fun _ t556 => some (t556, (0 : Int))) (Ev.now _)
    refine Ev.step (fun k => ?_) this
    rw [nat_Nat_Down.l0, if_neg (by omega), mix_all hv (Nat.pow_pos (by omega))]
  | succ m ih =>
    intro i hm hi
    have hs := Nat.mod_lt n (show 0 < 32 by omega)
    have dd2 := down_digit x n i
    have hx0 := Nat.mod_lt (x / 4294967296 ^ (i + n / 32)) (show 0 < 4294967296 by omega)
    have hx1 := Nat.mod_lt (x / 4294967296 ^ (i + n / 32) / 4294967296) (show 0 < 4294967296 by omega)
    have e5 : x / 4294967296 ^ (i + n / 32 + 1) = x / 4294967296 ^ (i + n / 32) / 4294967296 := by rw [Nat.div_div_eq_div_mul, ← Nat.pow_succ]
    have p1 := part_some x (i + n / 32 + 1)
    have p0 := part_some x (i + n / 32)
    rw [e5] at p1
    have k0 : n < 9223372036854775808 := by omega
    have k1 : i + n / 32 < 1000000000000 := by omega
    have k2 : i < 1000000000000 := by omega
    have c1 : (i : Int) < (L : Int) := by omega
    have c2 : (0 : Int) ≤ ((n % 32 : Nat) : Int) := by omega
    have c3 : (0 : Int) ≤ (i : Int) := by omega
    generalize hA : x / 4294967296 ^ (i + n / 32) % 4294967296 = A at *
    generalize hC : x / 4294967296 ^ (i + n / 32) / 4294967296 % 4294967296 = C at *
    have o : Go.bits .or .u64 (IntKind.u64.wrap ((IntKind.u64.wrap (C : Int)) * 4294967296)) (IntKind.u64.wrap (A : Int)) = ((C * 4294967296 + A : Nat) : Int) := by
      rw [u64_in (a := (C : Int)) (by omega) (by omega), u64_in (a := (C : Int) * 4294967296) (by omega) (by omega), u64_in (a := (A : Int)) (by omega) (by omega)]
      have := or64 (s := 32) (a := C) (c := A) (by omega) (by omega)
      rw [show ((2 ^ 32 * C : Nat) : Int) = (C : Int) * 4294967296 by omega, show 2 ^ 32 * C + A = C * 4294967296 + A by omega] at this
      exact this
    have e6 : (((C * 4294967296 + A) / 2 ^ (n % 32) : Nat) : Int) % 4294967296 = ((x / 2 ^ n / 4294967296 ^ i % 4294967296 : Nat) : Int) := by rw [← dd2]; omega
    have ihh := ih (i + 1) (by omega) (by omega)
    have k9 : n % 32 ≤ 64 := by omega
    have k8 : i < L := by omega
    have k7 : (0 : Nat) < 4294967296 := by omega
    have e0 := tdiv32 n k0
    have e1 := tmod32 n
    have e2 := wrap_add i (n / 32) k1
    have e3 := wrap_one (i + n / 32) k1
    have e4 := wrap_one i k2
    refine Ev.step (fun k => ?_) ihh
    rw [nat_Nat_Down.l0, if_pos c1, e0, e2, e3, p1, p0, Option.bind_some, Option.bind_some, e1, if_pos c2, if_pos c3, dn_length, if_pos c1, Int.toNat_natCast, o, shr_nat .u64 (C * 4294967296 + A) (n % 32) k9, e6, dn_mix k7 i L _ 0 k8, e4]
theorem down_neg (l : List Int) (a : Int) (h : a < 0) (k : Nat) : nat_Nat_Down.f k l a = some ([], 1) := by unfold nat_Nat_Down.f; rw [if_pos h]
theorem down_ev (x n : Nat) (hxl : bl x ≤ 65536) : Ev (fun k => nat_Nat_Down.f k (dgs 4294967296 x) (n : Int)) (dgs 4294967296 (x / 2 ^ n), 0) := by
  have lx := pd_len (n := x) (k := 2048) (by omega)
  have hb := bits_some (n := x) (by omega)
  by_cases c : bl x ≤ n
  · have hz : x / 2 ^ n = 0 := Nat.div_eq_of_lt (bl_le.mp c)
    rw [hz, dgs_zero]
    refine Ev.congr (fun k => ?_) (Ev.now _)
    unfold nat_Nat_Down.f
    rw [if_neg (by omega), hb, Option.bind_some, if_pos (by omega)]
  · have hle : n / 32 ≤ (dgs 4294967296 x).length := by
      have := (dgs_len_le (b := 4294967296) (n := x) (k := (dgs 4294967296 x).length) (by omega)).mp (Nat.le_refl _)
      rw [show (4294967296 : Nat) = 2 ^ 32 from rfl, ← Nat.pow_mul] at this
      have := bl_le.mpr this
      rw [show (2 : Nat) ^ 32 = 4294967296 from rfl] at this
      omega
    obtain ⟨L, hL⟩ : ∃ L, L + n / 32 = (dgs 4294967296 x).length := ⟨(dgs 4294967296 x).length - n / 32, by omega⟩
    have h := down_loop x n L hL (by omega) (by omega) L 0 (by omega) (by omega)
    rw [mix_zero] at h
    refine Ev.congr (fun k => ?_) h
    have c1 : ¬ (n : Int) < 0 := by omega
    have c2 : ¬ (n : Int) ≥ ((bl x : Nat) : Int) := by omega
    have c3 : (0 : Int) ≤ (L : Int) := by omega
    have c4 : ((L : Int)).toNat ≤ 70368744177664 := by omega
    have k0 : n < 9223372036854775808 := by omega
    have k1 : (dgs 4294967296 x).length < 1000000000000 := by omega
    have e0 := tdiv32 n k0
    have e1 := wrap_sub (dgs 4294967296 x).length (n / 32) L k1 hL
    unfold nat_Nat_Down.f
    rw [if_neg c1, hb, Option.bind_some, if_neg c2, e0, e1, if_pos c3, if_pos c4, Option.bind_some, rep_dn 4294967296 L _ rfl, dn_length]
    rfl
theorem rdown_ev (x n : Nat) (hxl : bl x ≤ 65536) (hn : n < 9223372036854775808) : Ev (fun k => heraldref04_Down.f k (dgs 65536 x) (n : Int)) (dgs 65536 (x / 2 ^ n)) := by
  have lx := rg_len (n := x) (k := 4096) (by omega)
  have hq := Nat.mod_lt n (show 0 < 16 by omega)
  have hpow : 2 ^ (n % 16) ≤ 2 ^ 15 := Nat.pow_le_pow_right (by omega) (by omega)
  have h15 : (2 : Nat) ^ 15 = 32768 := rfl
  have hval : x / 2 ^ n = x / 65536 ^ (n / 16) / 2 ^ (n % 16) := by rw [pow16_split n, Nat.div_div_eq_div_mul]
  by_cases c : (dgs 65536 x).length ≤ n / 16
  · have hz : x / 65536 ^ (n / 16) = 0 := Nat.div_eq_of_lt ((dgs_len_le (by omega)).mp c)
    rw [hval, hz, Nat.zero_div, dgs_zero]
    refine Ev.congr (fun k => ?_) (Ev.now _)
    have c1 : ((n / 16 : Nat) : Int) ≥ ((dgs 65536 x).length : Int) := by omega
    unfold heraldref04_Down.f
    rw [tdiv16 n hn, if_pos c1]
  · have e2 := shl_one (n % 16) (by omega)
    have hdrop := dgs_drop (b := 65536) (by omega) (n / 16) x
    have hle : (dgs 65536 (x / 65536 ^ (n / 16))).length ≤ 4096 := by rw [← hdrop, List.length_drop]; omega
    have hs := small_ev (n := x / 65536 ^ (n / 16)) (d := 2 ^ (n % 16)) (Nat.pow_pos (by omega)) (by omega) (by omega)
    rw [← hval] at hs
    have q := hs.bind (f := fun _ bt560 => some bt560.1) (Ev.now _)
    have c1 : ¬ ((n / 16 : Nat) : Int) ≥ ((dgs 65536 x).length : Int) := by omega
    have c2 : (0 : Int) ≤ ((n / 16 : Nat) : Int) := by omega
    have c3 : ((n / 16 : Nat) : Int) ≤ ((dgs 65536 x).length : Int) := by omega
    have c4 : (0 : Int) ≤ ((n % 16 : Nat) : Int) := by omega
    refine Ev.congr (fun k => ?_) q
    unfold heraldref04_Down.f
    rw [tdiv16 n hn, if_neg c1, if_pos c2, if_pos c3, tmod16 n, if_pos c4, Int.toNat_natCast, hdrop, e2]
/-- The law NatShifts, from its end. -/
theorem shifts_j2 (u : Nat) (kk : Int) (hu : bl u ≤ 65536) (hk : -9223372036854775808 ≤ kk ∧ kk < 9223372036854775808) (x12 x14 : Int) (x13 x591 : List Int) (his : Ev (fun k => heraldlaw04_is.f k x591 x12 x13 x14) true) :
    Ev (fun k => heraldlaw04_NatShifts.j2 k kk (dgs 65536 u) x12 x13 x14 (dgs 4294967296 u) x591) true := by
  have lm := pd_len (n := u) (k := 2048) (by omega)
  have rm := rg_len (n := u) (k := 4096) (by omega)
  have q0 := (rtext_ev (n := u) (by omega)).bind (f := fun k t617 => (some ((dec u).toList == t617.toList))) (r := true) (Ev.congr (fun k => by simp) (Ev.now _))
  have q1 := (text_ev (n := u) (by omega)).bind (f := fun k t616 => ((heraldref04_Text.f k (dgs 65536 u)).bind fun t617 => (some (t616.toList == t617.toList)))) q0
  have fin : ∀ (a b : List Int) (e : Int), Ev (fun k => nat_Nat_Power.f k (dgs 4294967296 u) kk) (a, e) → Ev (fun k => heraldref04_Power.f k (dgs 65536 u) kk) (b, e) → Ev (fun k => heraldlaw04_is.f k a e b e) true → Ev (fun k => heraldlaw04_NatShifts.j2 k kk (dgs 65536 u) x12 x13 x14 (dgs 4294967296 u) x591) true := by
    intro a b e h1 h2 h3
    have q2 := h3.bind (f := fun k t615 => (if t615 = true then ((nat_Nat_Text.f k (dgs 4294967296 u)).bind fun t616 => ((heraldref04_Text.f k (dgs 65536 u)).bind fun t617 => (some (t616.toList == t617.toList)))) else (some false))) (r := true) (Ev.congr (fun k => by rw [if_pos rfl]) q1)
    have q3 := h2.bind (f := fun k bt611 => ((heraldlaw04_is.f k a e bt611.1 bt611.2).bind fun t615 => (if t615 = true then ((nat_Nat_Text.f k (dgs 4294967296 u)).bind fun t616 => ((heraldref04_Text.f k (dgs 65536 u)).bind fun t617 => (some (t616.toList == t617.toList)))) else (some false)))) q2
    have q4 := h1.bind (f := fun k bt607 => ((heraldref04_Power.f k (dgs 65536 u) kk).bind fun bt611 => ((heraldlaw04_is.f k bt607.1 bt607.2 bt611.1 bt611.2).bind fun t615 => (if t615 = true then ((nat_Nat_Text.f k (dgs 4294967296 u)).bind fun t616 => ((heraldref04_Text.f k (dgs 65536 u)).bind fun t617 => (some (t616.toList == t617.toList)))) else (some false))))) q3
    have q5 := his.bind (f := fun k t606 => (if t606 = true then ((nat_Nat_Power.f k (dgs 4294967296 u) kk).bind fun bt607 => ((heraldref04_Power.f k (dgs 65536 u) kk).bind fun bt611 => ((heraldlaw04_is.f k bt607.1 bt607.2 bt611.1 bt611.2).bind fun t615 => (if t615 = true then ((nat_Nat_Text.f k (dgs 4294967296 u)).bind fun t616 => ((heraldref04_Text.f k (dgs 65536 u)).bind fun t617 => (some (t616.toList == t617.toList)))) else (some false))))) else (some false))) (r := true) (Ev.congr (fun k => by rw [if_pos rfl]) q4)
    refine Ev.step (fun k => ?_) q5
    rw [heraldlaw04_NatShifts.j2]
  by_cases c : kk < 0
  · exact fin [] [] 1 (Ev.congr (fun k => pow_neg _ _ c k) (Ev.now _)) (Ev.congr (fun k => rpow_neg _ _ c k) (Ev.now _)) (is_nil 1)
  · obtain ⟨n, rfl⟩ := Int.eq_ofNat_of_zero_le (show 0 ≤ kk by omega)
    by_cases g : bl (u ^ n) ≤ 65536
    · have l1 := pd_len (n := u ^ n) (k := 2048) (by omega)
      have l2 := rg_len (n := u ^ n) (k := 4096) (by omega)
      exact fin (dgs 4294967296 (u ^ n)) (dgs 65536 (u ^ n)) 0 (pow_ev u n hu (by omega) _ (fun _ => rfl) (fun h => absurd g h)) (rpow_ev u n hu (by omega) _ (fun _ => rfl) (fun h => absurd g h)) (is_ev _ 0 (by omega) (by omega))
    · exact fin [] [] 41 (pow_ev u n hu (by omega) _ (fun h => absurd h g) (fun _ => rfl)) (rpow_ev u n hu (by omega) _ (fun h => absurd h g) (fun _ => rfl)) (is_nil 41)
theorem shifts_j1 (u : Nat) (n kk : Int) (hu : bl u ≤ 65536) (hn : n < 9223372036854775808) (hk : -9223372036854775808 ≤ kk ∧ kk < 9223372036854775808) (x12 x14 : Int) (x13 x591 : List Int) (his : Ev (fun k => heraldlaw04_is.f k x591 x12 x13 x14) true) :
    Ev (fun k => heraldlaw04_NatShifts.j1 k n kk (dgs 65536 u) x12 x13 x14 (dgs 4294967296 u) x591) true := by
  have lay : ∀ A : Nat → Option Bool, Ev A true → (∀ k, A k = (nat_Nat_Down.f k (dgs 4294967296 u) n).bind fun bt599 => (if n ≥ 0 then ((heraldref04_Down.f k (dgs 65536 u) n).bind fun t603 => (heraldlaw04_NatShifts.j2 k kk (dgs 65536 u) bt599.2 t603 0 (dgs 4294967296 u) bt599.1)) else (heraldlaw04_NatShifts.j2 k kk (dgs 65536 u) bt599.2 ([] : List Int) 1 (dgs 4294967296 u) bt599.1))) → Ev (fun k => heraldlaw04_NatShifts.j1 k n kk (dgs 65536 u) x12 x13 x14 (dgs 4294967296 u) x591) true := by
    intro A hA he
    have q := his.bind (f := fun k t598 => (if t598 = true then ((nat_Nat_Down.f k (dgs 4294967296 u) n).bind fun bt599 => (if n ≥ 0 then ((heraldref04_Down.f k (dgs 65536 u) n).bind fun t603 => (heraldlaw04_NatShifts.j2 k kk (dgs 65536 u) bt599.2 t603 0 (dgs 4294967296 u) bt599.1)) else (heraldlaw04_NatShifts.j2 k kk (dgs 65536 u) bt599.2 ([] : List Int) 1 (dgs 4294967296 u) bt599.1))) else (some false))) (r := true) (Ev.congr (fun k => by rw [if_pos rfl, ← he]) hA)
    refine Ev.step (fun k => ?_) q
    rw [heraldlaw04_NatShifts.j1]
  by_cases c : n < 0
  · refine lay _ (shifts_j2 u kk hu hk 1 1 [] [] (is_nil 1)) (fun k => ?_)
    rw [down_neg _ _ c, Option.bind_some, if_neg (by omega)]
  · obtain ⟨j, rfl⟩ := Int.eq_ofNat_of_zero_le (show 0 ≤ n by omega)
    have hle : bl (u / 2 ^ j) ≤ 65536 := by have := bl_mono (Nat.div_le_self u (2 ^ j)); omega
    have l1 := pd_len (n := u / 2 ^ j) (k := 2048) (by omega)
    have l2 := rg_len (n := u / 2 ^ j) (k := 4096) (by omega)
    have h2 := shifts_j2 u kk hu hk 0 0 (dgs 65536 (u / 2 ^ j)) (dgs 4294967296 (u / 2 ^ j)) (is_ev _ 0 (by omega) (by omega))
    have q0 := (rdown_ev u j hu (by omega)).bind (f := fun k t603 => (heraldlaw04_NatShifts.j2 k kk (dgs 65536 u) 0 t603 0 (dgs 4294967296 u) (dgs 4294967296 (u / 2 ^ j)))) h2
    have q1 := (down_ev u j hu).bind (f := fun k bt599 => (if (j : Int) ≥ 0 then ((heraldref04_Down.f k (dgs 65536 u) (j : Int)).bind fun t603 => (heraldlaw04_NatShifts.j2 k kk (dgs 65536 u) bt599.2 t603 0 (dgs 4294967296 u) bt599.1)) else (heraldlaw04_NatShifts.j2 k kk (dgs 65536 u) bt599.2 ([] : List Int) 1 (dgs 4294967296 u) bt599.1))) (r := true) (Ev.congr (fun k => by rw [if_pos (by omega)]) q0)
    exact lay _ q1 (fun k => rfl)
theorem shifts_j0 (u : Nat) (n kk : Int) (hu : bl u ≤ 65536) (hn : -9223372036854775808 ≤ n ∧ n < 9223372036854775808) (hk : -9223372036854775808 ≤ kk ∧ kk < 9223372036854775808) : Ev (fun k => heraldlaw04_NatShifts.j0 k n kk (dgs 65536 u) true false (dgs 4294967296 u)) true := by
  have lay : ∀ A : Nat → Option Bool, Ev A true → (∀ k, A k = (nat_Nat_Up.f k (dgs 4294967296 u) n).bind fun bt586 => (if n ≥ 0 then ((heraldref04_Up.f k (dgs 65536 u) n).bind fun bt594 => (if bt594.2 = true then (heraldlaw04_NatShifts.j1 k n kk (dgs 65536 u) bt586.2 bt594.1 0 (dgs 4294967296 u) bt586.1) else (heraldlaw04_NatShifts.j1 k n kk (dgs 65536 u) bt586.2 ([] : List Int) 41 (dgs 4294967296 u) bt586.1))) else (heraldlaw04_NatShifts.j1 k n kk (dgs 65536 u) bt586.2 (([] : List Int)) 1 (dgs 4294967296 u) bt586.1))) → Ev (fun k => heraldlaw04_NatShifts.j0 k n kk (dgs 65536 u) true false (dgs 4294967296 u)) true := by
    intro A hA he
    refine Ev.step (fun k => ?_) hA
    rw [heraldlaw04_NatShifts.j0, if_neg (by decide), if_pos rfl, ← he]
  by_cases c : n < 0
  · refine lay _ (shifts_j1 u n kk hu hn.2 hk 1 1 [] [] (is_nil 1)) (fun k => ?_)
    rw [up_neg _ _ c, Option.bind_some, if_neg (by omega)]
  · obtain ⟨j, rfl⟩ := Int.eq_ofNat_of_zero_le (show 0 ≤ n by omega)
    by_cases hz : u = 0
    · subst hz
      have h1 := shifts_j1 0 (j : Int) kk hu hn.2 hk 0 0 (dgs 65536 0) [] (by have := is_ev 0 0 (by rw [dgs_zero]; simp) (by rw [dgs_zero]; simp); rw [dgs_zero 4294967296] at this; exact this)
      refine lay _ h1 (fun k => ?_)
      rw [up_zero, Option.bind_some, if_pos (by omega), rup_zero, Option.bind_some, if_pos rfl]
    · by_cases g : bl u + j ≤ 65536
      · have hb := bl_shift u j hz
        have l1 := pd_len (n := u * 2 ^ j) (k := 2048) (by omega)
        have l2 := rg_len (n := u * 2 ^ j) (k := 4096) (by omega)
        have h1 := shifts_j1 u (j : Int) kk hu hn.2 hk 0 0 (dgs 65536 (u * 2 ^ j)) (dgs 4294967296 (u * 2 ^ j)) (is_ev _ 0 (by omega) (by omega))
        have r1 := rup_ev u j hz hu (by omega)
        rw [decide_eq_true g] at r1
        have q0 := r1.bind (f := fun k bt594 => (if bt594.2 = true then (heraldlaw04_NatShifts.j1 k (j : Int) kk (dgs 65536 u) 0 bt594.1 0 (dgs 4294967296 u) (dgs 4294967296 (u * 2 ^ j))) else (heraldlaw04_NatShifts.j1 k (j : Int) kk (dgs 65536 u) 0 ([] : List Int) 41 (dgs 4294967296 u) (dgs 4294967296 (u * 2 ^ j))))) (r := true) (Ev.congr (fun k => by rw [if_pos rfl]) h1)
        have q1 := (up_ev u j hz g).bind (f := fun k bt586 => (if (j : Int) ≥ 0 then ((heraldref04_Up.f k (dgs 65536 u) (j : Int)).bind fun bt594 => (if bt594.2 = true then (heraldlaw04_NatShifts.j1 k (j : Int) kk (dgs 65536 u) bt586.2 bt594.1 0 (dgs 4294967296 u) bt586.1) else (heraldlaw04_NatShifts.j1 k (j : Int) kk (dgs 65536 u) bt586.2 ([] : List Int) 41 (dgs 4294967296 u) bt586.1))) else (heraldlaw04_NatShifts.j1 k (j : Int) kk (dgs 65536 u) bt586.2 (([] : List Int)) 1 (dgs 4294967296 u) bt586.1))) (r := true) (Ev.congr (fun k => by rw [if_pos (by omega)]) q0)
        exact lay _ q1 (fun k => rfl)
      · have h1 := shifts_j1 u (j : Int) kk hu hn.2 hk 41 41 [] [] (is_nil 41)
        have ub : ∀ k, nat_Nat_Up.f k (dgs 4294967296 u) (j : Int) = some ([], 41) := fun k => up_big u j hz hu (by omega) k
        by_cases g2 : j ≤ 65536
        · have r1 := rup_ev u j hz hu g2
          rw [decide_eq_false g] at r1
          have q0 := r1.bind (f := fun k bt594 => (if bt594.2 = true then (heraldlaw04_NatShifts.j1 k (j : Int) kk (dgs 65536 u) 41 bt594.1 0 (dgs 4294967296 u) []) else (heraldlaw04_NatShifts.j1 k (j : Int) kk (dgs 65536 u) 41 ([] : List Int) 41 (dgs 4294967296 u) []))) (r := true) (Ev.congr (fun k => by rw [if_neg (by simp)]) h1)
          refine lay _ q0 (fun k => ?_)
          rw [ub, Option.bind_some, if_pos (by omega)]
        · refine lay _ h1 (fun k => ?_)
          rw [ub, Option.bind_some, if_pos (by omega), rup_far u j hz (by omega), Option.bind_some, if_neg (by decide)]
theorem NatShifts_ev (a : List Int) (n kk : Int) (hn : -9223372036854775808 ≤ n ∧ n < 9223372036854775808) (hk : -9223372036854775808 ≤ kk ∧ kk < 9223372036854775808) (ha : Dg ((4294967296 : Nat) : Int) a) (la : a.length ≤ 1048576) : Ev (fun k => heraldlaw04_NatShifts.f k a n kk) true := by
  obtain ⟨u, hu⟩ := words_val a ha
  by_cases g : bl u ≤ 65536
  · have q0 := awake_ev.bind (f := fun k t585 => (if t585 = true then (heraldlaw04_NatShifts.j0 k n kk (dgs 65536 u) true (!true) (dgs 4294967296 u)) else (heraldlaw04_NatShifts.j0 k n kk (dgs 65536 u) true true (dgs 4294967296 u)))) (r := true) (Ev.congr (fun k => by rw [if_pos rfl]; rfl) (shifts_j0 u n kk g hn hk))
    exact (given_fit a u ha la hu g).bind (f := fun k bt576 => ((heraldlaw04_awake.f k).bind fun t585 => (if t585 = true then (heraldlaw04_NatShifts.j0 k n kk bt576.1 bt576.2.2.1 (!bt576.2.2.2) bt576.2.1) else (heraldlaw04_NatShifts.j0 k n kk bt576.1 bt576.2.2.1 true bt576.2.1)))) q0
  · have j0 : Ev (fun k => heraldlaw04_NatShifts.j0 k n kk (dgs 65536 u) false false []) true := by
      refine Ev.step (f := fun _ => some true) (fun k => ?_) (Ev.now _)
      rw [heraldlaw04_NatShifts.j0, if_neg (by decide), if_neg (by decide)]
    have q0 := awake_ev.bind (f := fun k t585 => (if t585 = true then (heraldlaw04_NatShifts.j0 k n kk (dgs 65536 u) false (!true) []) else (heraldlaw04_NatShifts.j0 k n kk (dgs 65536 u) false true []))) (r := true) (Ev.congr (fun k => by rw [if_pos rfl]; rfl) j0)
    exact (given_big a u ha la hu g).bind (f := fun k bt576 => ((heraldlaw04_awake.f k).bind fun t585 => (if t585 = true then (heraldlaw04_NatShifts.j0 k n kk bt576.1 bt576.2.2.1 (!bt576.2.2.2) bt576.2.1) else (heraldlaw04_NatShifts.j0 k n kk bt576.1 bt576.2.2.1 true bt576.2.1)))) q0
end Go.Proofs.YtgcngbmkgjphpaaDoor.Nums
end

section
namespace Go.Proofs.YtgcngbmkgjphpaaDoor.Pure
open Go.RowKit Go.Proofs.YtgcngbmkgjphpaaDoor.PAll Go.Proofs.YtgcngbmkgjphpaaDoor.Nums Go.Proofs.YtgcngbmkgjphpaaDoorW.PrintWords
theorem NatShifts (l0 : List Int) (a1 a2 : Int) (h0 : l0.length ≤ 1048576) (hw0 : ∀ x ∈ l0, (Lit.int .u32 x).wf = true) (h1 : (Lit.int .i64 a1).wf = true) (h2 : (Lit.int .i64 a2).wf = true) : ∃ k, heraldlaw04_NatShifts.f k l0 a1 a2 = some true :=
  (NatShifts_ev l0 a1 a2 (wf_i64 h1) (wf_i64 h2) (dg_wf l0 hw0) h0).rounds
end Go.Proofs.YtgcngbmkgjphpaaDoor.Pure
end
