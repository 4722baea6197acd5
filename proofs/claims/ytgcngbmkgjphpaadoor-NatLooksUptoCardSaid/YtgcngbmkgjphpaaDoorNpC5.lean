/- Texts of this session and printed texts, merged, what is not needed left out: PAllx21, NmI, PureNatLooks. -/
import Derived.Test.YtgcngbmkgjphpaaDoorNpC0
import Derived.Test.YtgcngbmkgjphpaaDoorNpC1
import Derived.Test.YtgcngbmkgjphpaaDoorNpC2
import Derived.Test.YtgcngbmkgjphpaaDoorNpC3
import Derived.Test.YtgcngbmkgjphpaaDoorNpC4
section
namespace Go.Proofs.YtgcngbmkgjphpaaDoor.PAll
open Go.RowKit Go.Proofs.YtgcngbmkgjphpaaDoorW.PrintWords Go.Proofs.YtgcngbmkgjphpaaDoorW.PrintLast Go.Proofs.YtgcngbmkgjphpaaDoorW.PrintMore
attribute [local go_sem] max2_int min2_int max_two min_two max_three min_three max_four min_four   -- for this text's walks alone
set_option linter.unusedVariables false
set_option linter.unusedSimpArgs false
mutual
def heraldlaw04_NatLooks.j0 : Nat → Int → List Int → Bool → List Int → Bool → Bool → List Int → List Int → Option (Bool)
  | 0, _, _, _, _, _, _, _, _ => none
  | k + 1, x2, x7, x9, x11, x13, x42, x416000, x425000 => if x42 = true then (some false) else (if x9 = true then (heraldlaw04_NatLooks.j1 k x2 x7 x11 (!x13) x416000 x425000) else (heraldlaw04_NatLooks.j1 k x2 x7 x11 true x416000 x425000))
def heraldlaw04_NatLooks.j1 : Nat → Int → List Int → List Int → Bool → List Int → List Int → Option (Bool)
  | 0, _, _, _, _, _, _ => none
  | k + 1, x2, x7, x11, x48, x416000, x425000 => if x48 = true then (some true) else ((nat_Nat_Int.f k x416000).bind fun bt426 => ((heraldref04_Int.f k x7).bind fun bt428 => (if bt426.1 = bt428.1 then (if (bt426.2 != bt428.2) = true then (heraldlaw04_NatLooks.j2 k x7 x11 true x416000 x425000) else ((nat_Nat_Text.f k x416000).bind fun t430 => ((heraldref04_Text.f k x7).bind fun t431 => (if t430.toList = t431.toList then ((nat_Nat_Bits.f x416000).bind fun t432 => ((heraldref04_Bits.f k x7).bind fun t433 => (if t432 = t433 then ((nat_Nat_Bit.f x416000 x2).bind fun t434 => ((heraldref04_Bit.f x7 x2).bind fun t435 => (heraldlaw04_NatLooks.j2 k x7 x11 (t434 != t435) x416000 x425000))) else (heraldlaw04_NatLooks.j2 k x7 x11 true x416000 x425000)))) else (heraldlaw04_NatLooks.j2 k x7 x11 true x416000 x425000))))) else (heraldlaw04_NatLooks.j2 k x7 x11 true x416000 x425000))))
def heraldlaw04_NatLooks.j2 : Nat → List Int → List Int → Bool → List Int → List Int → Option (Bool)
  | 0, _, _, _, _, _ => none
  | k + 1, x7, x11, x89, x416000, x425000 => if x89 = true then (some false) else ((nat_Nat_Compare.f k x416000 x425000).bind fun t436 => ((heraldref04_Compare.f k x7 x11).bind fun t437 => (if t436 = t437 then ((nat_Nat_Compare.f k x416000 x416000).bind fun t438 => (some (t438 == 0))) else (some false))))
end
def heraldlaw04_NatLooks.f (k : Nat) (l0 : List Int) (l1 : List Int) (a2 : Int) : Option (Bool) := (heraldlaw04_given.f k l0).bind fun bt407 => ((heraldlaw04_given.f k l1).bind fun bt416 => ((heraldlaw04_awake.f k).bind fun t425 => (if t425 = true then (if bt407.2.2.2 = true then (heraldlaw04_NatLooks.j0 k a2 bt407.1 bt407.2.2.1 bt416.1 bt416.2.2.1 (!bt416.2.2.2) bt407.2.1 bt416.2.1) else (heraldlaw04_NatLooks.j0 k a2 bt407.1 bt407.2.2.1 bt416.1 bt416.2.2.1 true bt407.2.1 bt416.2.1)) else (heraldlaw04_NatLooks.j0 k a2 bt407.1 bt407.2.2.1 bt416.1 bt416.2.2.1 true bt407.2.1 bt416.2.1))))
set_option maxHeartbeats 8000000 in
set_option maxRecDepth 100000 in
theorem heraldlaw04_NatLooks.calls (k : Nat) (A0 : Option Addr) (c0 : Nat) (l0 : List Int) (A1 : Option Addr) (c1 : Nat) (l1 : List Int) (a2 : Int) (r : Bool) (w : World) (hr0 : Kd.C (Kd.int .u32) w A0 l0.length l0) (hc0 : l0.length ≤ c0) (hr1 : Kd.C (Kd.int .u32) w A1 l1.length l1) (hc1 : l1.length ≤ c1) (h : heraldlaw04_NatLooks.f k l0 l1 a2 = some r) :
    Calls Tryd.prog 5 #[.slice A0 l0.length c0, .slice A1 l1.length c1, .int .i64 a2] w fun e w' => e = .returned (.bool r) ∧ Below w.heap.size w w' := by
  have hu26 := Tryd.underlying26
  have HR0 := Aside0.mk hr0
  have HC0 := Aside0.mk hc0
  clear hr0 hc0
  have HR1 := Aside0.mk hr1
  have HC1 := Aside0.mk hc1
  clear hr1 hc1
  have HB := Aside0.mk (Below.refl w.heap.size w)
  have H : ((heraldlaw04_given.f k l0).bind fun bt407 => ((heraldlaw04_given.f k l1).bind fun bt416 => ((heraldlaw04_awake.f k).bind fun t425 => (if t425 = true then (if bt407.2.2.2 = true then (heraldlaw04_NatLooks.j0 k a2 bt407.1 bt407.2.2.1 bt416.1 bt416.2.2.1 (!bt416.2.2.2) bt407.2.1 bt416.2.1) else (heraldlaw04_NatLooks.j0 k a2 bt407.1 bt407.2.2.1 bt416.1 bt416.2.2.1 true bt407.2.1 bt416.2.1)) else (heraldlaw04_NatLooks.j0 k a2 bt407.1 bt407.2.2.1 bt416.1 bt416.2.2.1 true bt407.2.1 bt416.2.1))))) = some r := h
  clear h
  replace H := Option.bind_eq_some_iff.mp H
  obtain ⟨⟨t407, t410, t413, t414⟩, A40, H⟩ := H
  replace H : ((heraldlaw04_given.f k l1).bind fun bt416 => ((heraldlaw04_awake.f k).bind fun t425 => (if t425 = true then (if t414 = true then (heraldlaw04_NatLooks.j0 k a2 t407 t413 bt416.1 bt416.2.2.1 (!bt416.2.2.2) t410 bt416.2.1) else (heraldlaw04_NatLooks.j0 k a2 t407 t413 bt416.1 bt416.2.2.1 true t410 bt416.2.1)) else (heraldlaw04_NatLooks.j0 k a2 t407 t413 bt416.1 bt416.2.2.1 true t410 bt416.2.1)))) = some r := H
  have A4 := Aside0.mk A40
  clear A40
  replace H := Option.bind_eq_some_iff.mp H
  obtain ⟨⟨t416, t419, t422, t423⟩, A50, H⟩ := H
  replace H : ((heraldlaw04_awake.f k).bind fun t425 => (if t425 = true then (if t414 = true then (heraldlaw04_NatLooks.j0 k a2 t407 t413 t416 t422 (!t423) t410 t419) else (heraldlaw04_NatLooks.j0 k a2 t407 t413 t416 t422 true t410 t419)) else (heraldlaw04_NatLooks.j0 k a2 t407 t413 t416 t422 true t410 t419))) = some r := H
  have A5 := Aside0.mk A50
  clear A50
  have HC6 := Aside0.mk H
  clear H
  go_enter Tryd.func5, Tryd.ntmps5
  go_upto_region 3 with (first | ((with_reducible refine gate_callee (f := 21) rfl ?_); refine goesL_ (some 21) rfl rfl Tryd.func21 (by kernel_rfl) rfl #[.slice A0 l0.length c0] rfl (by (try simp only [List.map_toArray, List.map_cons, List.map_nil]); first | done | rfl | (simp only [List.length_drop, List.length_take]; rfl)) ?_; (with_reducible refine (heraldlaw04_given.calls k _ _ l0 t407 t410 t413 t414 _ ?side1 ?side2 A4.out).mono ?_); (case side1 => repeat (first | exact HR0.out | (with_reducible refine Kd.C_alloc ?_ _) | (with_reducible refine Kd.C_drewN ?_ _) | (with_reducible refine Kd.C_drew ?_))); (case side2 => exact HC0.out); rintro e w7 ⟨v408, v411, rfl, ho0, ho1, hb⟩; refine ⟨_, rfl, ?_⟩; have n0_ := Aside0.mk (Kd.V_lower (Kd.V_mono (ok' := fun k_ => True) ho0 (fun k_ hk_ => trivial)) (below_size (by repeat (first | (with_reducible first | exact HB.out | apply below_alloc | apply pw_below_drewN | apply below_drew1) | exact HB.out)))); have n1_ := Aside0.mk (Kd.V_lower (Kd.V_mono (ok' := fun k_ => True) ho1 (fun k_ hk_ => trivial)) (below_size (by repeat (first | (with_reducible first | exact HB.out | apply below_alloc | apply pw_below_drewN | apply below_drew1) | exact HB.out)))); have n2_ := Aside0.mk (below_step (by repeat (first | (with_reducible first | exact HB.out | apply below_alloc | apply pw_below_drewN | apply below_drew1) | exact HB.out)) hb); clear HB; have HO409 := n0_; have HO412 := n1_; have HB := n2_; clear n0_ n1_ n2_; (try clear hb); (try clear hb2); (try clear hk); (try clear hi); (try clear ho0); (try clear ho1)) | ((with_reducible refine gate_dst (N := 8) rfl ?_); refine box_event ?hg (N := 8) ?hd (cs := #[.slice none 0 0]) (t := 26) ?hr ?_; (case hd => rfl); (case hg => rfl); (case hr => first | (go_simp; done) | (go_simp; rfl)); intro gb415 hg w8 hbox hb; have n0_ := Aside0.mk (Kd.V_below (Kd.V_elderB (by (with_reducible repeat (first | apply Kd.V_alloc | apply Kd.V_drewN | apply Kd.V_drew)); exact HO409.out) gb415 (Nat.le_of_eq hg.symm)) hb); have n1_ := Aside0.mk (Kd.V_below (Kd.V_elderB (by (with_reducible repeat (first | apply Kd.V_alloc | apply Kd.V_drewN | apply Kd.V_drew)); exact HO412.out) gb415 (Nat.le_of_eq hg.symm)) hb); have n2_ := Aside0.mk (below_step (by repeat (first | (with_reducible first | exact HB.out | apply below_alloc | apply pw_below_drewN | apply below_drew1) | exact HB.out)) hb); have n3_ := Aside0.mk (hbox); have n4_ := Aside0.mk ((by rw [hg]; exact (below_size (by repeat (first | (with_reducible first | exact HB.out | apply below_alloc | apply pw_below_drewN | apply below_drew1) | exact HB.out))) : w.heap.size ≤ gb415)); have n5_ := Aside0.mk ((by rw [hg]; exact (below_size (by repeat (first | (with_reducible first | exact HB.out | apply below_alloc | apply pw_below_drewN | apply below_drew1) | exact HB.out))) : w.heap.size ≤ gb415)); clear HO409; clear HO412; clear HB; have HO409 := n0_; have HO412 := n1_; have HB := n2_; have BK415 := n3_; have GW415 := n4_; have GE415 := n5_; clear n0_ n1_ n2_ n3_ n4_ n5_; clear hb hbox hg; obtain ⟨Ao9, co9, eo9⟩ := Kd.V_slice HO412.out; subst eo9; have hcz10_0 : w8.cell? ⟨gb415, 0, none⟩ = some (.slice none 0 0) := (blk_cell BK415.out 0).trans rfl; have hfz10_0 := blk_frozen BK415.out 0) | ((with_reducible refine gate_callee (f := 21) rfl ?_); refine goesL_ (some 28) rfl rfl Tryd.func21 (by kernel_rfl) rfl #[.slice A1 l1.length c1] rfl (by (try simp only [List.map_toArray, List.map_cons, List.map_nil]); first | done | rfl | (simp only [List.length_drop, List.length_take]; rfl)) ?_; (with_reducible refine (heraldlaw04_given.calls k _ _ l1 t416 t419 t422 t423 _ ?side1 ?side2 A5.out).mono ?_); (case side1 => exact Kd.C_below HR1.out (by repeat (first | (with_reducible first | exact HB.out | apply below_alloc | apply pw_below_drewN | apply below_drew1 | refine below_set ?_ GE415.out) | exact HB.out))); (case side2 => exact HC1.out); rintro e w11 ⟨v417, v420, rfl, ho0, ho1, hb⟩; refine ⟨_, rfl, ?_⟩; have n0_ := Aside0.mk (Kd.V_below (by (with_reducible repeat (first | apply Kd.V_alloc | apply Kd.V_drewN | apply Kd.V_drew)); exact (Kd.V_mono (Kd.V_far (p := ⟨gb415, 0, none⟩) (Kd.V_mono HO409.out (fun k_ hk => (⟨hk, hk.2⟩ : _ ∧ k_ ≠ gb415))) (fun _ hk => hk.2) (.slice Ao9 t410.length co9)) (fun _ h_ => h_.1))) hb); have n1_ := Aside0.mk (Kd.V_below (by (with_reducible repeat (first | apply Kd.V_alloc | apply Kd.V_drewN | apply Kd.V_drew)); exact (Kd.V_mono (Kd.V_far (p := ⟨gb415, 0, none⟩) (Kd.V_mono HO412.out (fun k_ hk => (⟨hk, hk.2⟩ : _ ∧ k_ ≠ gb415))) (fun _ hk => hk.2) (.slice Ao9 t410.length co9)) (fun _ h_ => h_.1))) hb); have n2_ := Aside0.mk (Kd.V_lower (Kd.V_mono (ok' := fun k_ => k_ ≠ gb415) ho0 (fun k_ hk_ => (Kd.freshB (g := gb415) (o := .cells #[.slice Ao9 t410.length co9] 26 (0, 0)) (by (with_reducible repeat (first | refine blk_drewN ?_ _ | refine blk_drew ?_ | refine blk_alloc ?_ _)); refine blk_put (cs := #[.slice none 0 0]) ?_ 0 _ rfl; (with_reducible repeat (first | refine blk_drewN ?_ _ | refine blk_drew ?_ | refine blk_alloc ?_ _)); exact BK415.out) k_ hk_))) (below_size (by repeat (first | (with_reducible first | exact HB.out | apply below_alloc | apply pw_below_drewN | apply below_drew1 | refine below_set ?_ GE415.out) | exact HB.out)))); have n3_ := Aside0.mk (Kd.V_lower (Kd.V_mono (ok' := fun k_ => k_ ≠ gb415) ho1 (fun k_ hk_ => (Kd.freshB (g := gb415) (o := .cells #[.slice Ao9 t410.length co9] 26 (0, 0)) (by (with_reducible repeat (first | refine blk_drewN ?_ _ | refine blk_drew ?_ | refine blk_alloc ?_ _)); refine blk_put (cs := #[.slice none 0 0]) ?_ 0 _ rfl; (with_reducible repeat (first | refine blk_drewN ?_ _ | refine blk_drew ?_ | refine blk_alloc ?_ _)); exact BK415.out) k_ hk_))) (below_size (by repeat (first | (with_reducible first | exact HB.out | apply below_alloc | apply pw_below_drewN | apply below_drew1 | refine below_set ?_ GE415.out) | exact HB.out)))); have n4_ := Aside0.mk (blk_below (g := gb415) (o := .cells #[.slice Ao9 t410.length co9] 26 (0, 0)) (by (with_reducible repeat (first | refine blk_drewN ?_ _ | refine blk_drew ?_ | refine blk_alloc ?_ _)); refine blk_put (cs := #[.slice none 0 0]) ?_ 0 _ rfl; (with_reducible repeat (first | refine blk_drewN ?_ _ | refine blk_drew ?_ | refine blk_alloc ?_ _)); exact BK415.out) hb); have n5_ := Aside0.mk (below_step (by repeat (first | (with_reducible first | exact HB.out | apply below_alloc | apply pw_below_drewN | apply below_drew1 | refine below_set ?_ GE415.out) | exact HB.out)) hb); clear HO409; clear HO412; clear BK415; clear HB; have HO409 := n0_; have HO412 := n1_; have HO418 := n2_; have HO421 := n3_; have BK415 := n4_; have HB := n5_; clear n0_ n1_ n2_ n3_ n4_ n5_; (try clear hb); (try clear hb2); (try clear hk); (try clear hi); (try clear ho0); (try clear ho1)) | ((with_reducible refine gate_dst (N := 12) rfl ?_); refine box_event ?hg (N := 12) ?hd (cs := #[.slice none 0 0]) (t := 26) ?hr ?_; (case hd => rfl); (case hg => rfl); (case hr => first | (go_simp; done) | (go_simp; rfl)); intro gb424 hg w12 hbox hb; have n0_ := Aside0.mk (Kd.V_below (Kd.V_elderB (by (with_reducible repeat (first | apply Kd.V_alloc | apply Kd.V_drewN | apply Kd.V_drew)); exact HO409.out) gb424 (Nat.le_of_eq hg.symm)) hb); have n1_ := Aside0.mk (Kd.V_below (Kd.V_elderB (by (with_reducible repeat (first | apply Kd.V_alloc | apply Kd.V_drewN | apply Kd.V_drew)); exact HO412.out) gb424 (Nat.le_of_eq hg.symm)) hb); have n2_ := Aside0.mk (Kd.V_below (Kd.V_elderB (by (with_reducible repeat (first | apply Kd.V_alloc | apply Kd.V_drewN | apply Kd.V_drew)); exact HO418.out) gb424 (Nat.le_of_eq hg.symm)) hb); have n3_ := Aside0.mk (Kd.V_below (Kd.V_elderB (by (with_reducible repeat (first | apply Kd.V_alloc | apply Kd.V_drewN | apply Kd.V_drew)); exact HO421.out) gb424 (Nat.le_of_eq hg.symm)) hb); have n4_ := Aside0.mk (blk_below (g := gb415) (o := .cells #[.slice Ao9 t410.length co9] 26 (0, 0)) (by (with_reducible repeat (first | refine blk_drewN ?_ _ | refine blk_drew ?_ | refine blk_alloc ?_ _)); exact BK415.out) hb); have n5_ := Aside0.mk (below_step (by repeat (first | (with_reducible first | exact HB.out | apply below_alloc | apply pw_below_drewN | apply below_drew1 | refine below_set ?_ GE415.out) | exact HB.out)) hb); have n6_ := Aside0.mk (hbox); have n7_ := Aside0.mk ((by rw [hg]; exact (below_size (by repeat (first | (with_reducible first | exact HB.out | apply below_alloc | apply pw_below_drewN | apply below_drew1 | refine below_set ?_ GE415.out) | exact HB.out))) : w.heap.size ≤ gb424)); have n8_ := Aside0.mk ((by rw [hg]; exact (below_size (by repeat (first | (with_reducible first | exact HB.out | apply below_alloc | apply pw_below_drewN | apply below_drew1 | refine below_set ?_ GE415.out) | exact HB.out))) : w.heap.size ≤ gb424)); have n9_ := Aside0.mk ((by rw [hg]; exact Nat.ne_of_lt (blk_lt (g := gb415) (o := .cells #[.slice Ao9 t410.length co9] 26 (0, 0)) (by (with_reducible repeat (first | refine blk_drewN ?_ _ | refine blk_drew ?_ | refine blk_alloc ?_ _)); exact BK415.out)) : gb415 ≠ gb424)); have n10_ := Aside0.mk ((by rw [hg]; exact Nat.ne_of_gt (blk_lt (g := gb415) (o := .cells #[.slice Ao9 t410.length co9] 26 (0, 0)) (by (with_reducible repeat (first | refine blk_drewN ?_ _ | refine blk_drew ?_ | refine blk_alloc ?_ _)); exact BK415.out)) : gb424 ≠ gb415)); clear HO409; clear HO412; clear HO418; clear HO421; clear BK415; clear HB; have HO409 := n0_; have HO412 := n1_; have HO418 := n2_; have HO421 := n3_; have BK415 := n4_; have HB := n5_; have BK424 := n6_; have GW424 := n7_; have GE424 := n8_; have NB415_424 := n9_; have NB424_415 := n10_; clear n0_ n1_ n2_ n3_ n4_ n5_ n6_ n7_ n8_ n9_ n10_; clear hb hbox hg; obtain ⟨Ao13, co13, eo13⟩ := Kd.V_slice HO421.out; subst eo13; have hnb14 := NB424_415.out; have hnc14 := NB415_424.out; have hcz15_0 : w12.cell? ⟨gb424, 0, none⟩ = some (.slice none 0 0) := (blk_cell BK424.out 0).trans rfl; have hfz15_0 := blk_frozen BK424.out 0))
  (try simp only [Act.put, List.setIfInBounds_toArray, List.set_cons_zero, List.set_cons_succ])
  go_cut [42] (fun v42 wc => ∃ (kq : Nat) (x42_5 : Bool), v42 = .bool x42_5 ∧ Aside0 (heraldlaw04_NatLooks.j0 kq a2 t407 t413 t416 t422 x42_5 t410 t419 = some r) ∧ Aside0 (kq ≤ k) ∧ Aside0 (Kd.V (Kd.int .i64) 3 wc w.heap.size (fun k_ => k_ ≠ gb415 ∧ k_ ≠ gb424) v408 t407) ∧ Aside0 (Kd.V (Kd.int .i64) 3 wc w.heap.size (fun k_ => k_ ≠ gb415 ∧ k_ ≠ gb424) v417 t416) ∧ Aside0 (Kd.V (Kd.int .u32) 79 wc w.heap.size (fun k_ => k_ ≠ gb415 ∧ k_ ≠ gb424) (.slice Ao9 t410.length co9) t410) ∧ Aside0 (Kd.V (Kd.int .u32) 79 wc w.heap.size (fun k_ => k_ ≠ gb415 ∧ k_ ≠ gb424) (.slice Ao13 t419.length co13) t419) ∧ Aside0 (wc.heap[gb415]? = some (.cells #[(.slice Ao9 t410.length co9)] 26 (0, 0))) ∧ Aside0 (wc.heap[gb424]? = some (.cells #[(.slice Ao13 t419.length co13)] 26 (0, 0))) ∧ Aside0 (Below w.heap.size w wc))
  case first =>
    have H := HC6.out
    clear HC6
    replace H := Option.bind_eq_some_iff.mp H
    obtain ⟨t425, A160, H⟩ := H
    replace H : (if t425 = true then (if t414 = true then (heraldlaw04_NatLooks.j0 k a2 t407 t413 t416 t422 (!t423) t410 t419) else (heraldlaw04_NatLooks.j0 k a2 t407 t413 t416 t422 true t410 t419)) else (heraldlaw04_NatLooks.j0 k a2 t407 t413 t416 t422 true t410 t419)) = some r := H
    have A16 := Aside0.mk A160
    clear A160
    by_cases c17 : t425 = true
    · subst c17
      have H1 : (if t414 = true then (heraldlaw04_NatLooks.j0 k a2 t407 t413 t416 t422 (!t423) t410 t419) else (heraldlaw04_NatLooks.j0 k a2 t407 t413 t416 t422 true t410 t419)) = some r := by rw [if_pos rfl] at H; exact H
      clear H
      have H := H1
      clear H1
      by_cases c18 : t414 = true
      · subst c18
        have H1 : (heraldlaw04_NatLooks.j0 k a2 t407 t413 t416 t422 (!t423) t410 t419) = some r := by rw [if_pos rfl] at H; exact H
        clear H
        have H := H1
        clear H1
        have H' := Aside0.mk H
        clear H
        go_wp2_with (first | ((with_reducible refine gate_callee (f := 12) rfl ?_); refine goesL_ (some 33) rfl rfl Tryd.func12 (by kernel_rfl) rfl #[] rfl (by (try simp only [List.map_toArray, List.map_cons, List.map_nil]); first | done | rfl | (simp only [List.length_drop, List.length_take]; rfl)) ?_; (with_reducible refine (heraldlaw04_awake.calls k  true _ A16.out).mono ?_); rintro e w19 ⟨rfl, hb⟩; refine ⟨_, rfl, ?_⟩; have n0_ := Aside0.mk (Kd.V_below (by (with_reducible repeat (first | apply Kd.V_alloc | apply Kd.V_drewN | apply Kd.V_drew)); exact (Kd.V_mono (Kd.V_far (p := ⟨gb424, 0, none⟩) (Kd.V_mono HO409.out (fun k_ hk => (⟨hk, hk.2⟩ : _ ∧ k_ ≠ gb424))) (fun _ hk => hk.2) (.slice Ao13 t419.length co13)) (fun _ h_ => h_.1))) hb); have n1_ := Aside0.mk (Kd.V_below (by (with_reducible repeat (first | apply Kd.V_alloc | apply Kd.V_drewN | apply Kd.V_drew)); exact (Kd.V_mono (Kd.V_far (p := ⟨gb424, 0, none⟩) (Kd.V_mono HO412.out (fun k_ hk => (⟨hk, hk.2⟩ : _ ∧ k_ ≠ gb424))) (fun _ hk => hk.2) (.slice Ao13 t419.length co13)) (fun _ h_ => h_.1))) hb); have n2_ := Aside0.mk (Kd.V_below (by (with_reducible repeat (first | apply Kd.V_alloc | apply Kd.V_drewN | apply Kd.V_drew)); exact (Kd.V_mono (Kd.V_far (p := ⟨gb424, 0, none⟩) (Kd.V_mono HO418.out (fun k_ hk => (⟨hk, hk.2⟩ : _ ∧ k_ ≠ gb424))) (fun _ hk => hk.2) (.slice Ao13 t419.length co13)) (fun _ h_ => h_.1))) hb); have n3_ := Aside0.mk (Kd.V_below (by (with_reducible repeat (first | apply Kd.V_alloc | apply Kd.V_drewN | apply Kd.V_drew)); exact (Kd.V_mono (Kd.V_far (p := ⟨gb424, 0, none⟩) (Kd.V_mono HO421.out (fun k_ hk => (⟨hk, hk.2⟩ : _ ∧ k_ ≠ gb424))) (fun _ hk => hk.2) (.slice Ao13 t419.length co13)) (fun _ h_ => h_.1))) hb); have n4_ := Aside0.mk (blk_below (g := gb415) (o := .cells #[.slice Ao9 t410.length co9] 26 (0, 0)) (by (with_reducible repeat (first | refine blk_drewN ?_ _ | refine blk_drew ?_ | refine blk_alloc ?_ _)); refine blk_far ?_ NB415_424.out _; (with_reducible repeat (first | refine blk_drewN ?_ _ | refine blk_drew ?_ | refine blk_alloc ?_ _)); exact BK415.out) hb); have n5_ := Aside0.mk (blk_below (g := gb424) (o := .cells #[.slice Ao13 t419.length co13] 26 (0, 0)) (by (with_reducible repeat (first | refine blk_drewN ?_ _ | refine blk_drew ?_ | refine blk_alloc ?_ _)); refine blk_put (cs := #[.slice none 0 0]) ?_ 0 _ rfl; (with_reducible repeat (first | refine blk_drewN ?_ _ | refine blk_drew ?_ | refine blk_alloc ?_ _)); exact BK424.out) hb); have n6_ := Aside0.mk (below_step (by repeat (first | (with_reducible first | exact HB.out | apply below_alloc | apply pw_below_drewN | apply below_drew1 | refine below_set ?_ GE415.out | refine below_set ?_ GE424.out) | exact HB.out)) hb); clear HO409; clear HO412; clear HO418; clear HO421; clear BK415; clear BK424; clear HB; have HO409 := n0_; have HO412 := n1_; have HO418 := n2_; have HO421 := n3_; have BK415 := n4_; have BK424 := n5_; have HB := n6_; clear n0_ n1_ n2_ n3_ n4_ n5_ n6_; (try clear hb); (try clear hb2); (try clear hk); (try clear hi)))
        go_meet
        case rel => exact ⟨_, (!t423), (by first | rfl | (simp; done) | (simp [*]; done) | (simp [i64_w]; done) | (simp [*, i64_w]; done)), H', ⟨by first | omega | exact Nat.le_refl _⟩, ⟨by (with_reducible repeat (first | apply Kd.V_alloc | apply Kd.V_drewN | apply Kd.V_drew)); exact Kd.V_mono HO409.out (fun _ hk => ⟨hk.1.2, hk.2⟩)⟩, ⟨by (with_reducible repeat (first | apply Kd.V_alloc | apply Kd.V_drewN | apply Kd.V_drew)); exact HO418.out⟩, ⟨by (with_reducible repeat (first | apply Kd.V_alloc | apply Kd.V_drewN | apply Kd.V_drew)); exact Kd.V_mono HO412.out (fun _ hk => ⟨hk.1.2, hk.2⟩)⟩, ⟨by (with_reducible repeat (first | apply Kd.V_alloc | apply Kd.V_drewN | apply Kd.V_drew)); exact HO421.out⟩, ⟨by (with_reducible repeat (first | refine blk_drewN ?_ _ | refine blk_drew ?_ | refine blk_alloc ?_ _)); exact BK415.out⟩, ⟨by (with_reducible repeat (first | refine blk_drewN ?_ _ | refine blk_drew ?_ | refine blk_alloc ?_ _)); exact BK424.out⟩, ⟨by repeat (first | (with_reducible first | exact HB.out | apply below_alloc | apply pw_below_drewN | apply below_drew1 | refine below_set ?_ GE415.out | refine below_set ?_ GE424.out) | exact HB.out)⟩⟩
      · replace c18 := Bool.eq_false_iff.mpr c18
        subst c18
        have H1 : (heraldlaw04_NatLooks.j0 k a2 t407 t413 t416 t422 true t410 t419) = some r := by rw [if_neg (show ¬ (false = true) by decide)] at H; exact H
        clear H
        have H := H1
        clear H1
        have H' := Aside0.mk H
        clear H
        go_wp2_with (first | ((with_reducible refine gate_callee (f := 12) rfl ?_); refine goesL_ (some 33) rfl rfl Tryd.func12 (by kernel_rfl) rfl #[] rfl (by (try simp only [List.map_toArray, List.map_cons, List.map_nil]); first | done | rfl | (simp only [List.length_drop, List.length_take]; rfl)) ?_; (with_reducible refine (heraldlaw04_awake.calls k  true _ A16.out).mono ?_); rintro e w20 ⟨rfl, hb⟩; refine ⟨_, rfl, ?_⟩; have n0_ := Aside0.mk (Kd.V_below (by (with_reducible repeat (first | apply Kd.V_alloc | apply Kd.V_drewN | apply Kd.V_drew)); exact (Kd.V_mono (Kd.V_far (p := ⟨gb424, 0, none⟩) (Kd.V_mono HO409.out (fun k_ hk => (⟨hk, hk.2⟩ : _ ∧ k_ ≠ gb424))) (fun _ hk => hk.2) (.slice Ao13 t419.length co13)) (fun _ h_ => h_.1))) hb); have n1_ := Aside0.mk (Kd.V_below (by (with_reducible repeat (first | apply Kd.V_alloc | apply Kd.V_drewN | apply Kd.V_drew)); exact (Kd.V_mono (Kd.V_far (p := ⟨gb424, 0, none⟩) (Kd.V_mono HO412.out (fun k_ hk => (⟨hk, hk.2⟩ : _ ∧ k_ ≠ gb424))) (fun _ hk => hk.2) (.slice Ao13 t419.length co13)) (fun _ h_ => h_.1))) hb); have n2_ := Aside0.mk (Kd.V_below (by (with_reducible repeat (first | apply Kd.V_alloc | apply Kd.V_drewN | apply Kd.V_drew)); exact (Kd.V_mono (Kd.V_far (p := ⟨gb424, 0, none⟩) (Kd.V_mono HO418.out (fun k_ hk => (⟨hk, hk.2⟩ : _ ∧ k_ ≠ gb424))) (fun _ hk => hk.2) (.slice Ao13 t419.length co13)) (fun _ h_ => h_.1))) hb); have n3_ := Aside0.mk (Kd.V_below (by (with_reducible repeat (first | apply Kd.V_alloc | apply Kd.V_drewN | apply Kd.V_drew)); exact (Kd.V_mono (Kd.V_far (p := ⟨gb424, 0, none⟩) (Kd.V_mono HO421.out (fun k_ hk => (⟨hk, hk.2⟩ : _ ∧ k_ ≠ gb424))) (fun _ hk => hk.2) (.slice Ao13 t419.length co13)) (fun _ h_ => h_.1))) hb); have n4_ := Aside0.mk (blk_below (g := gb415) (o := .cells #[.slice Ao9 t410.length co9] 26 (0, 0)) (by (with_reducible repeat (first | refine blk_drewN ?_ _ | refine blk_drew ?_ | refine blk_alloc ?_ _)); refine blk_far ?_ NB415_424.out _; (with_reducible repeat (first | refine blk_drewN ?_ _ | refine blk_drew ?_ | refine blk_alloc ?_ _)); exact BK415.out) hb); have n5_ := Aside0.mk (blk_below (g := gb424) (o := .cells #[.slice Ao13 t419.length co13] 26 (0, 0)) (by (with_reducible repeat (first | refine blk_drewN ?_ _ | refine blk_drew ?_ | refine blk_alloc ?_ _)); refine blk_put (cs := #[.slice none 0 0]) ?_ 0 _ rfl; (with_reducible repeat (first | refine blk_drewN ?_ _ | refine blk_drew ?_ | refine blk_alloc ?_ _)); exact BK424.out) hb); have n6_ := Aside0.mk (below_step (by repeat (first | (with_reducible first | exact HB.out | apply below_alloc | apply pw_below_drewN | apply below_drew1 | refine below_set ?_ GE415.out | refine below_set ?_ GE424.out) | exact HB.out)) hb); clear HO409; clear HO412; clear HO418; clear HO421; clear BK415; clear BK424; clear HB; have HO409 := n0_; have HO412 := n1_; have HO418 := n2_; have HO421 := n3_; have BK415 := n4_; have BK424 := n5_; have HB := n6_; clear n0_ n1_ n2_ n3_ n4_ n5_ n6_; (try clear hb); (try clear hb2); (try clear hk); (try clear hi)))
        go_meet
        case rel => exact ⟨_, (true), (by first | rfl | (simp; done) | (simp [*]; done) | (simp [i64_w]; done) | (simp [*, i64_w]; done)), H', ⟨by first | omega | exact Nat.le_refl _⟩, ⟨by (with_reducible repeat (first | apply Kd.V_alloc | apply Kd.V_drewN | apply Kd.V_drew)); exact Kd.V_mono HO409.out (fun _ hk => ⟨hk.1.2, hk.2⟩)⟩, ⟨by (with_reducible repeat (first | apply Kd.V_alloc | apply Kd.V_drewN | apply Kd.V_drew)); exact HO418.out⟩, ⟨by (with_reducible repeat (first | apply Kd.V_alloc | apply Kd.V_drewN | apply Kd.V_drew)); exact Kd.V_mono HO412.out (fun _ hk => ⟨hk.1.2, hk.2⟩)⟩, ⟨by (with_reducible repeat (first | apply Kd.V_alloc | apply Kd.V_drewN | apply Kd.V_drew)); exact HO421.out⟩, ⟨by (with_reducible repeat (first | refine blk_drewN ?_ _ | refine blk_drew ?_ | refine blk_alloc ?_ _)); exact BK415.out⟩, ⟨by (with_reducible repeat (first | refine blk_drewN ?_ _ | refine blk_drew ?_ | refine blk_alloc ?_ _)); exact BK424.out⟩, ⟨by repeat (first | (with_reducible first | exact HB.out | apply below_alloc | apply pw_below_drewN | apply below_drew1 | refine below_set ?_ GE415.out | refine below_set ?_ GE424.out) | exact HB.out)⟩⟩
    · replace c17 := Bool.eq_false_iff.mpr c17
      subst c17
      have H1 : (heraldlaw04_NatLooks.j0 k a2 t407 t413 t416 t422 true t410 t419) = some r := by rw [if_neg (show ¬ (false = true) by decide)] at H; exact H
      clear H
      have H := H1
      clear H1
      have H' := Aside0.mk H
      clear H
      go_wp2_with (first | ((with_reducible refine gate_callee (f := 12) rfl ?_); refine goesL_ (some 33) rfl rfl Tryd.func12 (by kernel_rfl) rfl #[] rfl (by (try simp only [List.map_toArray, List.map_cons, List.map_nil]); first | done | rfl | (simp only [List.length_drop, List.length_take]; rfl)) ?_; (with_reducible refine (heraldlaw04_awake.calls k  false _ A16.out).mono ?_); rintro e w21 ⟨rfl, hb⟩; refine ⟨_, rfl, ?_⟩; have n0_ := Aside0.mk (Kd.V_below (by (with_reducible repeat (first | apply Kd.V_alloc | apply Kd.V_drewN | apply Kd.V_drew)); exact (Kd.V_mono (Kd.V_far (p := ⟨gb424, 0, none⟩) (Kd.V_mono HO409.out (fun k_ hk => (⟨hk, hk.2⟩ : _ ∧ k_ ≠ gb424))) (fun _ hk => hk.2) (.slice Ao13 t419.length co13)) (fun _ h_ => h_.1))) hb); have n1_ := Aside0.mk (Kd.V_below (by (with_reducible repeat (first | apply Kd.V_alloc | apply Kd.V_drewN | apply Kd.V_drew)); exact (Kd.V_mono (Kd.V_far (p := ⟨gb424, 0, none⟩) (Kd.V_mono HO412.out (fun k_ hk => (⟨hk, hk.2⟩ : _ ∧ k_ ≠ gb424))) (fun _ hk => hk.2) (.slice Ao13 t419.length co13)) (fun _ h_ => h_.1))) hb); have n2_ := Aside0.mk (Kd.V_below (by (with_reducible repeat (first | apply Kd.V_alloc | apply Kd.V_drewN | apply Kd.V_drew)); exact (Kd.V_mono (Kd.V_far (p := ⟨gb424, 0, none⟩) (Kd.V_mono HO418.out (fun k_ hk => (⟨hk, hk.2⟩ : _ ∧ k_ ≠ gb424))) (fun _ hk => hk.2) (.slice Ao13 t419.length co13)) (fun _ h_ => h_.1))) hb); have n3_ := Aside0.mk (Kd.V_below (by (with_reducible repeat (first | apply Kd.V_alloc | apply Kd.V_drewN | apply Kd.V_drew)); exact (Kd.V_mono (Kd.V_far (p := ⟨gb424, 0, none⟩) (Kd.V_mono HO421.out (fun k_ hk => (⟨hk, hk.2⟩ : _ ∧ k_ ≠ gb424))) (fun _ hk => hk.2) (.slice Ao13 t419.length co13)) (fun _ h_ => h_.1))) hb); have n4_ := Aside0.mk (blk_below (g := gb415) (o := .cells #[.slice Ao9 t410.length co9] 26 (0, 0)) (by (with_reducible repeat (first | refine blk_drewN ?_ _ | refine blk_drew ?_ | refine blk_alloc ?_ _)); refine blk_far ?_ NB415_424.out _; (with_reducible repeat (first | refine blk_drewN ?_ _ | refine blk_drew ?_ | refine blk_alloc ?_ _)); exact BK415.out) hb); have n5_ := Aside0.mk (blk_below (g := gb424) (o := .cells #[.slice Ao13 t419.length co13] 26 (0, 0)) (by (with_reducible repeat (first | refine blk_drewN ?_ _ | refine blk_drew ?_ | refine blk_alloc ?_ _)); refine blk_put (cs := #[.slice none 0 0]) ?_ 0 _ rfl; (with_reducible repeat (first | refine blk_drewN ?_ _ | refine blk_drew ?_ | refine blk_alloc ?_ _)); exact BK424.out) hb); have n6_ := Aside0.mk (below_step (by repeat (first | (with_reducible first | exact HB.out | apply below_alloc | apply pw_below_drewN | apply below_drew1 | refine below_set ?_ GE415.out | refine below_set ?_ GE424.out) | exact HB.out)) hb); clear HO409; clear HO412; clear HO418; clear HO421; clear BK415; clear BK424; clear HB; have HO409 := n0_; have HO412 := n1_; have HO418 := n2_; have HO421 := n3_; have BK415 := n4_; have BK424 := n5_; have HB := n6_; clear n0_ n1_ n2_ n3_ n4_ n5_ n6_; (try clear hb); (try clear hb2); (try clear hk); (try clear hi)))
      go_meet
      case rel => exact ⟨_, (true), (by first | rfl | (simp; done) | (simp [*]; done) | (simp [i64_w]; done) | (simp [*, i64_w]; done)), H', ⟨by first | omega | exact Nat.le_refl _⟩, ⟨by (with_reducible repeat (first | apply Kd.V_alloc | apply Kd.V_drewN | apply Kd.V_drew)); exact Kd.V_mono HO409.out (fun _ hk => ⟨hk.1.2, hk.2⟩)⟩, ⟨by (with_reducible repeat (first | apply Kd.V_alloc | apply Kd.V_drewN | apply Kd.V_drew)); exact HO418.out⟩, ⟨by (with_reducible repeat (first | apply Kd.V_alloc | apply Kd.V_drewN | apply Kd.V_drew)); exact Kd.V_mono HO412.out (fun _ hk => ⟨hk.1.2, hk.2⟩)⟩, ⟨by (with_reducible repeat (first | apply Kd.V_alloc | apply Kd.V_drewN | apply Kd.V_drew)); exact HO421.out⟩, ⟨by (with_reducible repeat (first | refine blk_drewN ?_ _ | refine blk_drew ?_ | refine blk_alloc ?_ _)); exact BK415.out⟩, ⟨by (with_reducible repeat (first | refine blk_drewN ?_ _ | refine blk_drew ?_ | refine blk_alloc ?_ _)); exact BK424.out⟩, ⟨by repeat (first | (with_reducible first | exact HB.out | apply below_alloc | apply pw_below_drewN | apply below_drew1 | refine below_set ?_ GE415.out | refine below_set ?_ GE424.out) | exact HB.out)⟩⟩
  case rest =>
    clear HC6
    try clear c1
    try clear c2
    try clear p2
    try clear c5
    try clear c12
    try clear c14
    try clear c17
    try clear c18
    try clear c21
    try clear hcz10_0
    try clear hcz15_0
    try clear hfz10_0
    try clear hfz15_0
    obtain ⟨kq, x42_5, rfl, HA, HJ5, HO_7, HO_11, HO_416000, HO_425000, BK415, BK424, HB⟩ := hcut
    cases kq with
    | zero => exact absurd HA.out (by simp [heraldlaw04_NatLooks.j0])
    | succ kj5 =>
      have H := HA.out
      clear HA
      simp only [heraldlaw04_NatLooks.j0] at H
      by_cases c22 : x42_5 = true
      · subst c22
        have H1 : (some false) = some r := by rw [if_pos rfl] at H; exact H
        clear H
        have H := H1
        clear H1
        obtain rfl := Option.some.inj H
        go_wp2
        go_ret
        exact ⟨by first | rfl | (simp [errW_none, errW_some] <;> rfl) | (simp [*, errW_none, errW_some] <;> rfl), by repeat (first | (with_reducible first | exact HB.out | apply below_alloc | apply pw_below_drewN | apply below_drew1 | refine below_set ?_ GE415.out | refine below_set ?_ GE424.out) | exact HB.out)⟩
      · replace c22 := Bool.eq_false_iff.mpr c22
        subst c22
        have H1 : (if t413 = true then (heraldlaw04_NatLooks.j1 kj5 a2 t407 t416 (!t422) t410 t419) else (heraldlaw04_NatLooks.j1 kj5 a2 t407 t416 true t410 t419)) = some r := by rw [if_neg (show ¬ (false = true) by decide)] at H; exact H
        clear H
        have H := H1
        clear H1
        have HC23 := Aside0.mk H
        clear H
        go_upto_region 5 with (fail)
        go_cut [48] (fun v48 wc => ∃ (kq : Nat) (x48_22 : Bool), v48 = .bool x48_22 ∧ Aside0 (heraldlaw04_NatLooks.j1 kq a2 t407 t416 x48_22 t410 t419 = some r) ∧ Aside0 (kq ≤ kj5) ∧ Aside0 (Kd.V (Kd.int .i64) 3 wc w.heap.size (fun k_ => k_ ≠ gb415 ∧ k_ ≠ gb424) v408 t407) ∧ Aside0 (Kd.V (Kd.int .i64) 3 wc w.heap.size (fun k_ => k_ ≠ gb415 ∧ k_ ≠ gb424) v417 t416) ∧ Aside0 (Kd.V (Kd.int .u32) 79 wc w.heap.size (fun k_ => k_ ≠ gb415 ∧ k_ ≠ gb424) (.slice Ao9 t410.length co9) t410) ∧ Aside0 (Kd.V (Kd.int .u32) 79 wc w.heap.size (fun k_ => k_ ≠ gb415 ∧ k_ ≠ gb424) (.slice Ao13 t419.length co13) t419) ∧ Aside0 (wc.heap[gb415]? = some (.cells #[(.slice Ao9 t410.length co9)] 26 (0, 0))) ∧ Aside0 (wc.heap[gb424]? = some (.cells #[(.slice Ao13 t419.length co13)] 26 (0, 0))) ∧ Aside0 (Below w.heap.size w wc))
        case first =>
          have H := HC23.out
          clear HC23
          by_cases c24 : t413 = true
          · subst c24
            have H1 : (heraldlaw04_NatLooks.j1 kj5 a2 t407 t416 (!t422) t410 t419) = some r := by rw [if_pos rfl] at H; exact H
            clear H
            have H := H1
            clear H1
            have H' := Aside0.mk H
            clear H
            go_wp2
            go_meet
            case rel => exact ⟨_, (!t422), (by first | rfl | (simp; done) | (simp [*]; done) | (simp [i64_w]; done) | (simp [*, i64_w]; done)), H', ⟨by have := HJ5.out; first | omega | exact Nat.le_refl _⟩, ⟨by (with_reducible repeat (first | apply Kd.V_alloc | apply Kd.V_drewN | apply Kd.V_drew)); exact HO_7.out⟩, ⟨by (with_reducible repeat (first | apply Kd.V_alloc | apply Kd.V_drewN | apply Kd.V_drew)); exact HO_11.out⟩, ⟨by (with_reducible repeat (first | apply Kd.V_alloc | apply Kd.V_drewN | apply Kd.V_drew)); exact HO_416000.out⟩, ⟨by (with_reducible repeat (first | apply Kd.V_alloc | apply Kd.V_drewN | apply Kd.V_drew)); exact HO_425000.out⟩, ⟨by (with_reducible repeat (first | refine blk_drewN ?_ _ | refine blk_drew ?_ | refine blk_alloc ?_ _)); exact BK415.out⟩, ⟨by (with_reducible repeat (first | refine blk_drewN ?_ _ | refine blk_drew ?_ | refine blk_alloc ?_ _)); exact BK424.out⟩, ⟨by repeat (first | (with_reducible first | exact HB.out | apply below_alloc | apply pw_below_drewN | apply below_drew1 | refine below_set ?_ GE415.out | refine below_set ?_ GE424.out) | exact HB.out)⟩⟩
          · replace c24 := Bool.eq_false_iff.mpr c24
            subst c24
            have H1 : (heraldlaw04_NatLooks.j1 kj5 a2 t407 t416 true t410 t419) = some r := by rw [if_neg (show ¬ (false = true) by decide)] at H; exact H
            clear H
            have H := H1
            clear H1
            have H' := Aside0.mk H
            clear H
            go_wp2
            go_meet
            case rel => exact ⟨_, (true), (by first | rfl | (simp; done) | (simp [*]; done) | (simp [i64_w]; done) | (simp [*, i64_w]; done)), H', ⟨by have := HJ5.out; first | omega | exact Nat.le_refl _⟩, ⟨by (with_reducible repeat (first | apply Kd.V_alloc | apply Kd.V_drewN | apply Kd.V_drew)); exact HO_7.out⟩, ⟨by (with_reducible repeat (first | apply Kd.V_alloc | apply Kd.V_drewN | apply Kd.V_drew)); exact HO_11.out⟩, ⟨by (with_reducible repeat (first | apply Kd.V_alloc | apply Kd.V_drewN | apply Kd.V_drew)); exact HO_416000.out⟩, ⟨by (with_reducible repeat (first | apply Kd.V_alloc | apply Kd.V_drewN | apply Kd.V_drew)); exact HO_425000.out⟩, ⟨by (with_reducible repeat (first | refine blk_drewN ?_ _ | refine blk_drew ?_ | refine blk_alloc ?_ _)); exact BK415.out⟩, ⟨by (with_reducible repeat (first | refine blk_drewN ?_ _ | refine blk_drew ?_ | refine blk_alloc ?_ _)); exact BK424.out⟩, ⟨by repeat (first | (with_reducible first | exact HB.out | apply below_alloc | apply pw_below_drewN | apply below_drew1 | refine below_set ?_ GE415.out | refine below_set ?_ GE424.out) | exact HB.out)⟩⟩
        case rest =>
          clear HC23
          try clear c1
          try clear c2
          try clear p2
          try clear c5
          try clear c12
          try clear c14
          try clear c17
          try clear c18
          try clear c21
          try clear c22
          try clear c24
          try clear hcz10_0
          try clear hcz15_0
          try clear hfz10_0
          try clear hfz15_0
          try clear p2
          obtain ⟨kq, x48_22, rfl, HA, HJ22, HO_7, HO_11, HO_416000, HO_425000, BK415, BK424, HB⟩ := hcut
          cases kq with
          | zero => exact absurd HA.out (by simp [heraldlaw04_NatLooks.j1])
          | succ kj22 =>
            have H := HA.out
            clear HA
            simp only [heraldlaw04_NatLooks.j1] at H
            by_cases c25 : x48_22 = true
            · subst c25
              have H1 : (some true) = some r := by rw [if_pos rfl] at H; exact H
              clear H
              have H := H1
              clear H1
              obtain rfl := Option.some.inj H
              go_wp2
              go_ret
              exact ⟨by first | rfl | (simp [errW_none, errW_some] <;> rfl) | (simp [*, errW_none, errW_some] <;> rfl), by repeat (first | (with_reducible first | exact HB.out | apply below_alloc | apply pw_below_drewN | apply below_drew1 | refine below_set ?_ GE415.out | refine below_set ?_ GE424.out) | exact HB.out)⟩
            · replace c25 := Bool.eq_false_iff.mpr c25
              subst c25
              have H1 : ((nat_Nat_Int.f kj22 t410).bind fun bt426 => ((heraldref04_Int.f kj22 t407).bind fun bt428 => (if bt426.1 = bt428.1 then (if (bt426.2 != bt428.2) = true then (heraldlaw04_NatLooks.j2 kj22 t407 t416 true t410 t419) else ((nat_Nat_Text.f kj22 t410).bind fun t430 => ((heraldref04_Text.f kj22 t407).bind fun t431 => (if t430.toList = t431.toList then ((nat_Nat_Bits.f t410).bind fun t432 => ((heraldref04_Bits.f kj22 t407).bind fun t433 => (if t432 = t433 then ((nat_Nat_Bit.f t410 a2).bind fun t434 => ((heraldref04_Bit.f t407 a2).bind fun t435 => (heraldlaw04_NatLooks.j2 kj22 t407 t416 (t434 != t435) t410 t419))) else (heraldlaw04_NatLooks.j2 kj22 t407 t416 true t410 t419)))) else (heraldlaw04_NatLooks.j2 kj22 t407 t416 true t410 t419))))) else (heraldlaw04_NatLooks.j2 kj22 t407 t416 true t410 t419)))) = some r := by rw [if_neg (show ¬ (false = true) by decide)] at H; exact H
              clear H
              have H := H1
              clear H1
              replace H := Option.bind_eq_some_iff.mp H
              obtain ⟨⟨t426, t427⟩, A260, H⟩ := H
              replace H : ((heraldref04_Int.f kj22 t407).bind fun bt428 => (if t426 = bt428.1 then (if (t427 != bt428.2) = true then (heraldlaw04_NatLooks.j2 kj22 t407 t416 true t410 t419) else ((nat_Nat_Text.f kj22 t410).bind fun t430 => ((heraldref04_Text.f kj22 t407).bind fun t431 => (if t430.toList = t431.toList then ((nat_Nat_Bits.f t410).bind fun t432 => ((heraldref04_Bits.f kj22 t407).bind fun t433 => (if t432 = t433 then ((nat_Nat_Bit.f t410 a2).bind fun t434 => ((heraldref04_Bit.f t407 a2).bind fun t435 => (heraldlaw04_NatLooks.j2 kj22 t407 t416 (t434 != t435) t410 t419))) else (heraldlaw04_NatLooks.j2 kj22 t407 t416 true t410 t419)))) else (heraldlaw04_NatLooks.j2 kj22 t407 t416 true t410 t419))))) else (heraldlaw04_NatLooks.j2 kj22 t407 t416 true t410 t419))) = some r := H
              have A26 := Aside0.mk A260
              clear A260
              replace H := Option.bind_eq_some_iff.mp H
              obtain ⟨⟨t428, t429⟩, A270, H⟩ := H
              replace H : (if t426 = t428 then (if (t427 != t429) = true then (heraldlaw04_NatLooks.j2 kj22 t407 t416 true t410 t419) else ((nat_Nat_Text.f kj22 t410).bind fun t430 => ((heraldref04_Text.f kj22 t407).bind fun t431 => (if t430.toList = t431.toList then ((nat_Nat_Bits.f t410).bind fun t432 => ((heraldref04_Bits.f kj22 t407).bind fun t433 => (if t432 = t433 then ((nat_Nat_Bit.f t410 a2).bind fun t434 => ((heraldref04_Bit.f t407 a2).bind fun t435 => (heraldlaw04_NatLooks.j2 kj22 t407 t416 (t434 != t435) t410 t419))) else (heraldlaw04_NatLooks.j2 kj22 t407 t416 true t410 t419)))) else (heraldlaw04_NatLooks.j2 kj22 t407 t416 true t410 t419))))) else (heraldlaw04_NatLooks.j2 kj22 t407 t416 true t410 t419)) = some r := H
              have A27 := Aside0.mk A270
              clear A270
              have HC28 := Aside0.mk H
              clear H
              have hnb29 := NB415_424.out
              have hnc29 := NB424_415.out
              have hcz30_0 : wc.cell? ⟨gb415, 0, none⟩ = some (.slice Ao9 t410.length co9) := (blk_cell BK415.out 0).trans rfl
              have hfz30_0 := blk_frozen BK415.out 0
              go_upto_region 9 with (first | ((with_reducible refine gate_callee (f := 22) rfl ?_); refine goesL_ (some 51) rfl rfl Tryd.func22 (by kernel_rfl) rfl #[.agg #[.slice Ao9 t410.length co9]] rfl (by (try simp only [List.map_toArray, List.map_cons, List.map_nil]); first | done | rfl | (simp only [List.length_drop, List.length_take]; rfl)) ?_; (with_reducible refine (nat_Nat_Int.calls kj22 _ _ t410 t426 t427 _ ?side1 ?side2 A26.out).mono ?_); (case side1 => repeat (first | exact (Kd.V_reads' HO_416000.out).2.2 | (with_reducible refine Kd.C_alloc ?_ _) | (with_reducible refine Kd.C_drewN ?_ _) | (with_reducible refine Kd.C_drew ?_))); (case side2 => exact (Kd.V_reads' HO_416000.out).2.1); rintro e w31 ⟨rfl, hb⟩; refine ⟨_, rfl, ?_⟩; have n0_ := Aside0.mk (Kd.V_below (by (with_reducible repeat (first | apply Kd.V_alloc | apply Kd.V_drewN | apply Kd.V_drew)); exact HO_7.out) hb); have n1_ := Aside0.mk (Kd.V_below (by (with_reducible repeat (first | apply Kd.V_alloc | apply Kd.V_drewN | apply Kd.V_drew)); exact HO_11.out) hb); have n2_ := Aside0.mk (Kd.V_below (by (with_reducible repeat (first | apply Kd.V_alloc | apply Kd.V_drewN | apply Kd.V_drew)); exact HO_416000.out) hb); have n3_ := Aside0.mk (Kd.V_below (by (with_reducible repeat (first | apply Kd.V_alloc | apply Kd.V_drewN | apply Kd.V_drew)); exact HO_425000.out) hb); have n4_ := Aside0.mk (blk_below (g := gb415) (o := .cells #[.slice Ao9 t410.length co9] 26 (0, 0)) (by (with_reducible repeat (first | refine blk_drewN ?_ _ | refine blk_drew ?_ | refine blk_alloc ?_ _)); exact BK415.out) hb); have n5_ := Aside0.mk (blk_below (g := gb424) (o := .cells #[.slice Ao13 t419.length co13] 26 (0, 0)) (by (with_reducible repeat (first | refine blk_drewN ?_ _ | refine blk_drew ?_ | refine blk_alloc ?_ _)); exact BK424.out) hb); have n6_ := Aside0.mk (below_step (by repeat (first | (with_reducible first | exact HB.out | apply below_alloc | apply pw_below_drewN | apply below_drew1 | refine below_set ?_ GE415.out | refine below_set ?_ GE424.out) | exact HB.out)) hb); clear HO_7; clear HO_11; clear HO_416000; clear HO_425000; clear BK415; clear BK424; clear HB; have HO_7 := n0_; have HO_11 := n1_; have HO_416000 := n2_; have HO_425000 := n3_; have BK415 := n4_; have BK424 := n5_; have HB := n6_; clear n0_ n1_ n2_ n3_ n4_ n5_ n6_; (try clear hb); (try clear hb2); (try clear hk); (try clear hi); obtain ⟨Ao32, co32, eo32⟩ := Kd.V_slice HO_7.out; subst eo32) | ((with_reducible refine gate_callee (f := 23) rfl ?_); refine goesL_ (some 56) rfl rfl Tryd.func23 (by kernel_rfl) rfl #[.slice Ao32 t407.length co32] rfl (by (try simp only [List.map_toArray, List.map_cons, List.map_nil]); first | done | rfl | (simp only [List.length_drop, List.length_take]; rfl)) ?_; (with_reducible refine (heraldref04_Int.calls kj22 _ _ t407 t428 t429 _ ?side1 ?side2 A27.out).mono ?_); (case side1 => repeat (first | exact (Kd.V_reads' HO_7.out).2.2 | (with_reducible refine Kd.C_alloc ?_ _) | (with_reducible refine Kd.C_drewN ?_ _) | (with_reducible refine Kd.C_drew ?_))); (case side2 => exact (Kd.V_reads' HO_7.out).2.1); rintro e w' ⟨rfl, ⟨nd, rfl⟩⟩; refine ⟨_, rfl, ?_⟩))
              (try simp only [Act.put, List.setIfInBounds_toArray, List.set_cons_zero, List.set_cons_succ])
              go_cut [89] (fun v89 wc => ∃ (kq : Nat) (x89_27 : Bool), v89 = .bool x89_27 ∧ Aside0 (heraldlaw04_NatLooks.j2 kq t407 t416 x89_27 t410 t419 = some r) ∧ Aside0 (kq ≤ kj22) ∧ Aside0 (Kd.V (Kd.int .i64) 3 wc w.heap.size (fun k_ => k_ ≠ gb415 ∧ k_ ≠ gb424) (.slice Ao32 t407.length co32) t407) ∧ Aside0 (Kd.V (Kd.int .i64) 3 wc w.heap.size (fun k_ => k_ ≠ gb415 ∧ k_ ≠ gb424) v417 t416) ∧ Aside0 (Kd.V (Kd.int .u32) 79 wc w.heap.size (fun k_ => k_ ≠ gb415 ∧ k_ ≠ gb424) (.slice Ao9 t410.length co9) t410) ∧ Aside0 (Kd.V (Kd.int .u32) 79 wc w.heap.size (fun k_ => k_ ≠ gb415 ∧ k_ ≠ gb424) (.slice Ao13 t419.length co13) t419) ∧ Aside0 (wc.heap[gb415]? = some (.cells #[(.slice Ao9 t410.length co9)] 26 (0, 0))) ∧ Aside0 (wc.heap[gb424]? = some (.cells #[(.slice Ao13 t419.length co13)] 26 (0, 0))) ∧ Aside0 (Below w.heap.size w wc))
              case first =>
                have H := HC28.out
                clear HC28
                by_cases c33 : t426 = t428
                · rw [if_pos c33] at H
                  have c33b0 : (t426 == t428) = true := beq_iff_eq.mpr c33
                  have c33b1 : (t426 != t428) = false := bne_eq_false_iff_eq.mpr c33
                  clear c33
                  (first | rw [c33b0] | (simp only [i64_w, i32_w]; rw [c33b0]) | skip)
                  by_cases c34 : (t427 != t429) = true
                  · rw [if_pos c34] at H
                    have c34b0 : (t427 != t429) = true := c34
                    (try (have c34b1 : decide (t427 = t429) = false := by simpa using c34))
                    (try (have c34b2 : (t427 == t429) = false := by simpa using c34))
                    (try (have c34b3 : ¬ (t427 = t429) := by simpa using c34))
                    clear c34
                    have H' := Aside0.mk H
                    clear H
                    go_wp2
                    go_meet
                    case rel => exact ⟨_, (true), (by first | rfl | (simp; done) | (simp [*]; done) | (simp [i64_w]; done) | (simp [*, i64_w]; done)), H', ⟨by have := HJ5.out; have := HJ22.out; first | omega | exact Nat.le_refl _⟩, ⟨by (with_reducible repeat (first | apply Kd.V_alloc | apply Kd.V_drewN | apply Kd.V_drew)); exact HO_7.out⟩, ⟨by (with_reducible repeat (first | apply Kd.V_alloc | apply Kd.V_drewN | apply Kd.V_drew)); exact HO_11.out⟩, ⟨by (with_reducible repeat (first | apply Kd.V_alloc | apply Kd.V_drewN | apply Kd.V_drew)); exact HO_416000.out⟩, ⟨by (with_reducible repeat (first | apply Kd.V_alloc | apply Kd.V_drewN | apply Kd.V_drew)); exact HO_425000.out⟩, ⟨by (with_reducible repeat (first | refine blk_drewN ?_ _ | refine blk_drew ?_ | refine blk_alloc ?_ _)); exact BK415.out⟩, ⟨by (with_reducible repeat (first | refine blk_drewN ?_ _ | refine blk_drew ?_ | refine blk_alloc ?_ _)); exact BK424.out⟩, ⟨by repeat (first | (with_reducible first | exact HB.out | apply below_alloc | apply pw_below_drewN | apply below_drew1 | refine below_set ?_ GE415.out | refine below_set ?_ GE424.out) | exact HB.out)⟩⟩
                  · rw [if_neg c34] at H
                    have c34b0 : (t427 != t429) = false := by simpa using c34
                    (try (have c34b1 : decide (t427 = t429) = true := by simpa using c34))
                    (try (have c34b2 : (t427 == t429) = true := by simpa using c34))
                    clear c34
                    replace H := Option.bind_eq_some_iff.mp H
                    obtain ⟨t430, A350, H⟩ := H
                    replace H : ((heraldref04_Text.f kj22 t407).bind fun t431 => (if t430.toList = t431.toList then ((nat_Nat_Bits.f t410).bind fun t432 => ((heraldref04_Bits.f kj22 t407).bind fun t433 => (if t432 = t433 then ((nat_Nat_Bit.f t410 a2).bind fun t434 => ((heraldref04_Bit.f t407 a2).bind fun t435 => (heraldlaw04_NatLooks.j2 kj22 t407 t416 (t434 != t435) t410 t419))) else (heraldlaw04_NatLooks.j2 kj22 t407 t416 true t410 t419)))) else (heraldlaw04_NatLooks.j2 kj22 t407 t416 true t410 t419))) = some r := H
                    have A35 := Aside0.mk A350
                    clear A350
                    replace H := Option.bind_eq_some_iff.mp H
                    obtain ⟨t431, A360, H⟩ := H
                    replace H : (if t430.toList = t431.toList then ((nat_Nat_Bits.f t410).bind fun t432 => ((heraldref04_Bits.f kj22 t407).bind fun t433 => (if t432 = t433 then ((nat_Nat_Bit.f t410 a2).bind fun t434 => ((heraldref04_Bit.f t407 a2).bind fun t435 => (heraldlaw04_NatLooks.j2 kj22 t407 t416 (t434 != t435) t410 t419))) else (heraldlaw04_NatLooks.j2 kj22 t407 t416 true t410 t419)))) else (heraldlaw04_NatLooks.j2 kj22 t407 t416 true t410 t419)) = some r := H
                    have A36 := Aside0.mk A360
                    clear A360
                    by_cases c37 : t430.toList = t431.toList
                    · rw [if_pos c37] at H
                      have c37b0 : (t430.toList == t431.toList) = true := beq_iff_eq.mpr c37
                      have c37b1 : (t430.toList != t431.toList) = false := bne_eq_false_iff_eq.mpr c37
                      clear c37
                      replace H := Option.bind_eq_some_iff.mp H
                      obtain ⟨t432, A380, H⟩ := H
                      replace H : ((heraldref04_Bits.f kj22 t407).bind fun t433 => (if t432 = t433 then ((nat_Nat_Bit.f t410 a2).bind fun t434 => ((heraldref04_Bit.f t407 a2).bind fun t435 => (heraldlaw04_NatLooks.j2 kj22 t407 t416 (t434 != t435) t410 t419))) else (heraldlaw04_NatLooks.j2 kj22 t407 t416 true t410 t419))) = some r := H
                      have A38 := Aside0.mk A380
                      clear A380
                      replace H := Option.bind_eq_some_iff.mp H
                      obtain ⟨t433, A390, H⟩ := H
                      replace H : (if t432 = t433 then ((nat_Nat_Bit.f t410 a2).bind fun t434 => ((heraldref04_Bit.f t407 a2).bind fun t435 => (heraldlaw04_NatLooks.j2 kj22 t407 t416 (t434 != t435) t410 t419))) else (heraldlaw04_NatLooks.j2 kj22 t407 t416 true t410 t419)) = some r := H
                      have A39 := Aside0.mk A390
                      clear A390
                      by_cases c40 : t432 = t433
                      · rw [if_pos c40] at H
                        have c40b0 : (t432 == t433) = true := beq_iff_eq.mpr c40
                        have c40b1 : (t432 != t433) = false := bne_eq_false_iff_eq.mpr c40
                        clear c40
                        replace H := Option.bind_eq_some_iff.mp H
                        obtain ⟨t434, A410, H⟩ := H
                        replace H : ((heraldref04_Bit.f t407 a2).bind fun t435 => (heraldlaw04_NatLooks.j2 kj22 t407 t416 (t434 != t435) t410 t419)) = some r := H
                        have A41 := Aside0.mk A410
                        clear A410
                        replace H := Option.bind_eq_some_iff.mp H
                        obtain ⟨t435, A420, H⟩ := H
                        replace H : (heraldlaw04_NatLooks.j2 kj22 t407 t416 (t434 != t435) t410 t419) = some r := H
                        have A42 := Aside0.mk A420
                        clear A420
                        have H' := Aside0.mk H
                        clear H
                        have hnb43 := NB415_424.out
                        have hnc43 := NB424_415.out
                        have hcz44_0 : w31.cell? ⟨gb415, 0, none⟩ = some (.slice Ao9 t410.length co9) := (blk_cell BK415.out 0).trans rfl
                        have hfz44_0 := blk_frozen BK415.out 0
                        go_wp2_with (first | (go_at_call 20; (with_reducible refine (nat_Nat_Text.calls kj22 (fun k_ => (k_ ≠ gb415 ∧ k_ ≠ gb424)) _ _ t410 t430 _ ?side1 A35.out).mono ?_); (case side1 => exact HO_416000.out); rintro e w45 ⟨rfl, hb⟩; have n0_ := Aside0.mk (Kd.V_below (by (with_reducible repeat (first | apply Kd.V_alloc | apply Kd.V_drewN | apply Kd.V_drew)); exact HO_7.out) hb); have n1_ := Aside0.mk (Kd.V_below (by (with_reducible repeat (first | apply Kd.V_alloc | apply Kd.V_drewN | apply Kd.V_drew)); exact HO_11.out) hb); have n2_ := Aside0.mk (Kd.V_below (by (with_reducible repeat (first | apply Kd.V_alloc | apply Kd.V_drewN | apply Kd.V_drew)); exact HO_416000.out) hb); have n3_ := Aside0.mk (Kd.V_below (by (with_reducible repeat (first | apply Kd.V_alloc | apply Kd.V_drewN | apply Kd.V_drew)); exact HO_425000.out) hb); have n4_ := Aside0.mk (blk_below (g := gb415) (o := .cells #[.slice Ao9 t410.length co9] 26 (0, 0)) (by (with_reducible repeat (first | refine blk_drewN ?_ _ | refine blk_drew ?_ | refine blk_alloc ?_ _)); exact BK415.out) hb); have n5_ := Aside0.mk (blk_below (g := gb424) (o := .cells #[.slice Ao13 t419.length co13] 26 (0, 0)) (by (with_reducible repeat (first | refine blk_drewN ?_ _ | refine blk_drew ?_ | refine blk_alloc ?_ _)); exact BK424.out) hb); have n6_ := Aside0.mk (below_step (by repeat (first | (with_reducible first | exact HB.out | apply below_alloc | apply pw_below_drewN | apply below_drew1 | refine below_set ?_ GE415.out | refine below_set ?_ GE424.out) | exact HB.out)) hb); clear HO_7; clear HO_11; clear HO_416000; clear HO_425000; clear BK415; clear BK424; clear HB; have HO_7 := n0_; have HO_11 := n1_; have HO_416000 := n2_; have HO_425000 := n3_; have BK415 := n4_; have BK424 := n5_; have HB := n6_; clear n0_ n1_ n2_ n3_ n4_ n5_ n6_; (try clear hb); (try clear hb2); (try clear hk); (try clear hi)) | (go_at_call 24; (with_reducible refine (heraldref04_Text.calls kj22 (fun k_ => (k_ ≠ gb415 ∧ k_ ≠ gb424)) _ _ t407 t431 _ ?side1 A36.out).mono ?_); (case side1 => exact HO_7.out); rintro e w46 ⟨rfl, hb⟩; have n0_ := Aside0.mk (Kd.V_below (by (with_reducible repeat (first | apply Kd.V_alloc | apply Kd.V_drewN | apply Kd.V_drew)); exact HO_7.out) hb); have n1_ := Aside0.mk (Kd.V_below (by (with_reducible repeat (first | apply Kd.V_alloc | apply Kd.V_drewN | apply Kd.V_drew)); exact HO_11.out) hb); have n2_ := Aside0.mk (Kd.V_below (by (with_reducible repeat (first | apply Kd.V_alloc | apply Kd.V_drewN | apply Kd.V_drew)); exact HO_416000.out) hb); have n3_ := Aside0.mk (Kd.V_below (by (with_reducible repeat (first | apply Kd.V_alloc | apply Kd.V_drewN | apply Kd.V_drew)); exact HO_425000.out) hb); have n4_ := Aside0.mk (blk_below (g := gb415) (o := .cells #[.slice Ao9 t410.length co9] 26 (0, 0)) (by (with_reducible repeat (first | refine blk_drewN ?_ _ | refine blk_drew ?_ | refine blk_alloc ?_ _)); exact BK415.out) hb); have n5_ := Aside0.mk (blk_below (g := gb424) (o := .cells #[.slice Ao13 t419.length co13] 26 (0, 0)) (by (with_reducible repeat (first | refine blk_drewN ?_ _ | refine blk_drew ?_ | refine blk_alloc ?_ _)); exact BK424.out) hb); have n6_ := Aside0.mk (below_step (by repeat (first | (with_reducible first | exact HB.out | apply below_alloc | apply pw_below_drewN | apply below_drew1 | refine below_set ?_ GE415.out | refine below_set ?_ GE424.out) | exact HB.out)) hb); clear HO_7; clear HO_11; clear HO_416000; clear HO_425000; clear BK415; clear BK424; clear HB; have HO_7 := n0_; have HO_11 := n1_; have HO_416000 := n2_; have HO_425000 := n3_; have BK415 := n4_; have BK424 := n5_; have HB := n6_; clear n0_ n1_ n2_ n3_ n4_ n5_ n6_; (try clear hb); (try clear hb2); (try clear hk); (try clear hi); have hcz47_0 : w46.cell? ⟨gb415, 0, none⟩ = some (.slice Ao9 t410.length co9) := (blk_cell BK415.out 0).trans rfl; have hfz47_0 := blk_frozen BK415.out 0) | (go_at_call 25; (with_reducible refine (nat_Nat_Bits.calls _ _ t410 t432 _ ?side1 ?side2 A38.out).mono ?_); (case side1 => repeat (first | exact (Kd.V_reads' HO_416000.out).2.2 | (with_reducible refine Kd.C_alloc ?_ _) | (with_reducible refine Kd.C_drewN ?_ _) | (with_reducible refine Kd.C_drew ?_))); (case side2 => exact (Kd.V_reads' HO_416000.out).2.1); rintro e w48 ⟨rfl, hb⟩; have n0_ := Aside0.mk (Kd.V_below (by (with_reducible repeat (first | apply Kd.V_alloc | apply Kd.V_drewN | apply Kd.V_drew)); exact HO_7.out) hb); have n1_ := Aside0.mk (Kd.V_below (by (with_reducible repeat (first | apply Kd.V_alloc | apply Kd.V_drewN | apply Kd.V_drew)); exact HO_11.out) hb); have n2_ := Aside0.mk (Kd.V_below (by (with_reducible repeat (first | apply Kd.V_alloc | apply Kd.V_drewN | apply Kd.V_drew)); exact HO_416000.out) hb); have n3_ := Aside0.mk (Kd.V_below (by (with_reducible repeat (first | apply Kd.V_alloc | apply Kd.V_drewN | apply Kd.V_drew)); exact HO_425000.out) hb); have n4_ := Aside0.mk (blk_below (g := gb415) (o := .cells #[.slice Ao9 t410.length co9] 26 (0, 0)) (by (with_reducible repeat (first | refine blk_drewN ?_ _ | refine blk_drew ?_ | refine blk_alloc ?_ _)); exact BK415.out) hb); have n5_ := Aside0.mk (blk_below (g := gb424) (o := .cells #[.slice Ao13 t419.length co13] 26 (0, 0)) (by (with_reducible repeat (first | refine blk_drewN ?_ _ | refine blk_drew ?_ | refine blk_alloc ?_ _)); exact BK424.out) hb); have n6_ := Aside0.mk (below_step (by repeat (first | (with_reducible first | exact HB.out | apply below_alloc | apply pw_below_drewN | apply below_drew1 | refine below_set ?_ GE415.out | refine below_set ?_ GE424.out) | exact HB.out)) hb); clear HO_7; clear HO_11; clear HO_416000; clear HO_425000; clear BK415; clear BK424; clear HB; have HO_7 := n0_; have HO_11 := n1_; have HO_416000 := n2_; have HO_425000 := n3_; have BK415 := n4_; have BK424 := n5_; have HB := n6_; clear n0_ n1_ n2_ n3_ n4_ n5_ n6_; (try clear hb); (try clear hb2); (try clear hk); (try clear hi)) | (go_at_call 26; (with_reducible refine (heraldref04_Bits.calls kj22 _ _ t407 t433 _ ?side1 ?side2 A39.out).mono ?_); (case side1 => repeat (first | exact (Kd.V_reads' HO_7.out).2.2 | (with_reducible refine Kd.C_alloc ?_ _) | (with_reducible refine Kd.C_drewN ?_ _) | (with_reducible refine Kd.C_drew ?_))); (case side2 => exact (Kd.V_reads' HO_7.out).2.1); rintro e w' ⟨rfl, ⟨nd, rfl⟩⟩; have hcz49_0 : w48.cell? ⟨gb415, 0, none⟩ = some (.slice Ao9 t410.length co9) := (blk_cell BK415.out 0).trans rfl; have hfz49_0 := blk_frozen BK415.out 0) | (go_at_call 27; (with_reducible refine (nat_Nat_Bit.calls _ _ t410 a2 t434 _ ?side1 ?side2 A41.out).mono ?_); (case side1 => repeat (first | exact (Kd.V_reads' HO_416000.out).2.2 | (with_reducible refine Kd.C_alloc ?_ _) | (with_reducible refine Kd.C_drewN ?_ _) | (with_reducible refine Kd.C_drew ?_))); (case side2 => exact (Kd.V_reads' HO_416000.out).2.1); rintro e w50 ⟨rfl, hb⟩; have n0_ := Aside0.mk (Kd.V_below (by (with_reducible repeat (first | apply Kd.V_alloc | apply Kd.V_drewN | apply Kd.V_drew)); exact HO_7.out) hb); have n1_ := Aside0.mk (Kd.V_below (by (with_reducible repeat (first | apply Kd.V_alloc | apply Kd.V_drewN | apply Kd.V_drew)); exact HO_11.out) hb); have n2_ := Aside0.mk (Kd.V_below (by (with_reducible repeat (first | apply Kd.V_alloc | apply Kd.V_drewN | apply Kd.V_drew)); exact HO_416000.out) hb); have n3_ := Aside0.mk (Kd.V_below (by (with_reducible repeat (first | apply Kd.V_alloc | apply Kd.V_drewN | apply Kd.V_drew)); exact HO_425000.out) hb); have n4_ := Aside0.mk (blk_below (g := gb415) (o := .cells #[.slice Ao9 t410.length co9] 26 (0, 0)) (by (with_reducible repeat (first | refine blk_drewN ?_ _ | refine blk_drew ?_ | refine blk_alloc ?_ _)); exact BK415.out) hb); have n5_ := Aside0.mk (blk_below (g := gb424) (o := .cells #[.slice Ao13 t419.length co13] 26 (0, 0)) (by (with_reducible repeat (first | refine blk_drewN ?_ _ | refine blk_drew ?_ | refine blk_alloc ?_ _)); exact BK424.out) hb); have n6_ := Aside0.mk (below_step (by repeat (first | (with_reducible first | exact HB.out | apply below_alloc | apply pw_below_drewN | apply below_drew1 | refine below_set ?_ GE415.out | refine below_set ?_ GE424.out) | exact HB.out)) hb); clear HO_7; clear HO_11; clear HO_416000; clear HO_425000; clear BK415; clear BK424; clear HB; have HO_7 := n0_; have HO_11 := n1_; have HO_416000 := n2_; have HO_425000 := n3_; have BK415 := n4_; have BK424 := n5_; have HB := n6_; clear n0_ n1_ n2_ n3_ n4_ n5_ n6_; (try clear hb); (try clear hb2); (try clear hk); (try clear hi)) | (go_at_call 28; (with_reducible refine (heraldref04_Bit.calls _ _ t407 a2 t435 _ ?side1 ?side2 A42.out).mono ?_); (case side1 => repeat (first | exact (Kd.V_reads' HO_7.out).2.2 | (with_reducible refine Kd.C_alloc ?_ _) | (with_reducible refine Kd.C_drewN ?_ _) | (with_reducible refine Kd.C_drew ?_))); (case side2 => exact (Kd.V_reads' HO_7.out).2.1); rintro e w' ⟨rfl, ⟨nd, rfl⟩⟩))
                        go_meet
                        case rel => exact ⟨_, ((t434 != t435)), (by first | rfl | (simp; done) | (simp [*]; done) | (simp [i64_w]; done) | (simp [*, i64_w]; done)), H', ⟨by have := HJ5.out; have := HJ22.out; first | omega | exact Nat.le_refl _⟩, ⟨by (with_reducible repeat (first | apply Kd.V_alloc | apply Kd.V_drewN | apply Kd.V_drew)); exact HO_7.out⟩, ⟨by (with_reducible repeat (first | apply Kd.V_alloc | apply Kd.V_drewN | apply Kd.V_drew)); exact HO_11.out⟩, ⟨by (with_reducible repeat (first | apply Kd.V_alloc | apply Kd.V_drewN | apply Kd.V_drew)); exact HO_416000.out⟩, ⟨by (with_reducible repeat (first | apply Kd.V_alloc | apply Kd.V_drewN | apply Kd.V_drew)); exact HO_425000.out⟩, ⟨by (with_reducible repeat (first | refine blk_drewN ?_ _ | refine blk_drew ?_ | refine blk_alloc ?_ _)); exact BK415.out⟩, ⟨by (with_reducible repeat (first | refine blk_drewN ?_ _ | refine blk_drew ?_ | refine blk_alloc ?_ _)); exact BK424.out⟩, ⟨by repeat (first | (with_reducible first | exact HB.out | apply below_alloc | apply pw_below_drewN | apply below_drew1 | refine below_set ?_ GE415.out | refine below_set ?_ GE424.out) | exact HB.out)⟩⟩
                      · rw [if_neg c40] at H
                        have c40b0 : (t432 == t433) = false := beq_eq_false_iff_ne.mpr c40
                        have c40b1 : (t432 != t433) = true := bne_iff_ne.mpr c40
                        have H' := Aside0.mk H
                        clear H
                        have hnb51 := NB415_424.out
                        have hnc51 := NB424_415.out
                        have hcz52_0 : w31.cell? ⟨gb415, 0, none⟩ = some (.slice Ao9 t410.length co9) := (blk_cell BK415.out 0).trans rfl
                        have hfz52_0 := blk_frozen BK415.out 0
                        go_wp2_with (first | (go_at_call 20; (with_reducible refine (nat_Nat_Text.calls kj22 (fun k_ => (k_ ≠ gb415 ∧ k_ ≠ gb424)) _ _ t410 t430 _ ?side1 A35.out).mono ?_); (case side1 => exact HO_416000.out); rintro e w53 ⟨rfl, hb⟩; have n0_ := Aside0.mk (Kd.V_below (by (with_reducible repeat (first | apply Kd.V_alloc | apply Kd.V_drewN | apply Kd.V_drew)); exact HO_7.out) hb); have n1_ := Aside0.mk (Kd.V_below (by (with_reducible repeat (first | apply Kd.V_alloc | apply Kd.V_drewN | apply Kd.V_drew)); exact HO_11.out) hb); have n2_ := Aside0.mk (Kd.V_below (by (with_reducible repeat (first | apply Kd.V_alloc | apply Kd.V_drewN | apply Kd.V_drew)); exact HO_416000.out) hb); have n3_ := Aside0.mk (Kd.V_below (by (with_reducible repeat (first | apply Kd.V_alloc | apply Kd.V_drewN | apply Kd.V_drew)); exact HO_425000.out) hb); have n4_ := Aside0.mk (blk_below (g := gb415) (o := .cells #[.slice Ao9 t410.length co9] 26 (0, 0)) (by (with_reducible repeat (first | refine blk_drewN ?_ _ | refine blk_drew ?_ | refine blk_alloc ?_ _)); exact BK415.out) hb); have n5_ := Aside0.mk (blk_below (g := gb424) (o := .cells #[.slice Ao13 t419.length co13] 26 (0, 0)) (by (with_reducible repeat (first | refine blk_drewN ?_ _ | refine blk_drew ?_ | refine blk_alloc ?_ _)); exact BK424.out) hb); have n6_ := Aside0.mk (below_step (by repeat (first | (with_reducible first | exact HB.out | apply below_alloc | apply pw_below_drewN | apply below_drew1 | refine below_set ?_ GE415.out | refine below_set ?_ GE424.out) | exact HB.out)) hb); clear HO_7; clear HO_11; clear HO_416000; clear HO_425000; clear BK415; clear BK424; clear HB; have HO_7 := n0_; have HO_11 := n1_; have HO_416000 := n2_; have HO_425000 := n3_; have BK415 := n4_; have BK424 := n5_; have HB := n6_; clear n0_ n1_ n2_ n3_ n4_ n5_ n6_; (try clear hb); (try clear hb2); (try clear hk); (try clear hi)) | (go_at_call 24; (with_reducible refine (heraldref04_Text.calls kj22 (fun k_ => (k_ ≠ gb415 ∧ k_ ≠ gb424)) _ _ t407 t431 _ ?side1 A36.out).mono ?_); (case side1 => exact HO_7.out); rintro e w54 ⟨rfl, hb⟩; have n0_ := Aside0.mk (Kd.V_below (by (with_reducible repeat (first | apply Kd.V_alloc | apply Kd.V_drewN | apply Kd.V_drew)); exact HO_7.out) hb); have n1_ := Aside0.mk (Kd.V_below (by (with_reducible repeat (first | apply Kd.V_alloc | apply Kd.V_drewN | apply Kd.V_drew)); exact HO_11.out) hb); have n2_ := Aside0.mk (Kd.V_below (by (with_reducible repeat (first | apply Kd.V_alloc | apply Kd.V_drewN | apply Kd.V_drew)); exact HO_416000.out) hb); have n3_ := Aside0.mk (Kd.V_below (by (with_reducible repeat (first | apply Kd.V_alloc | apply Kd.V_drewN | apply Kd.V_drew)); exact HO_425000.out) hb); have n4_ := Aside0.mk (blk_below (g := gb415) (o := .cells #[.slice Ao9 t410.length co9] 26 (0, 0)) (by (with_reducible repeat (first | refine blk_drewN ?_ _ | refine blk_drew ?_ | refine blk_alloc ?_ _)); exact BK415.out) hb); have n5_ := Aside0.mk (blk_below (g := gb424) (o := .cells #[.slice Ao13 t419.length co13] 26 (0, 0)) (by (with_reducible repeat (first | refine blk_drewN ?_ _ | refine blk_drew ?_ | refine blk_alloc ?_ _)); exact BK424.out) hb); have n6_ := Aside0.mk (below_step (by repeat (first | (with_reducible first | exact HB.out | apply below_alloc | apply pw_below_drewN | apply below_drew1 | refine below_set ?_ GE415.out | refine below_set ?_ GE424.out) | exact HB.out)) hb); clear HO_7; clear HO_11; clear HO_416000; clear HO_425000; clear BK415; clear BK424; clear HB; have HO_7 := n0_; have HO_11 := n1_; have HO_416000 := n2_; have HO_425000 := n3_; have BK415 := n4_; have BK424 := n5_; have HB := n6_; clear n0_ n1_ n2_ n3_ n4_ n5_ n6_; (try clear hb); (try clear hb2); (try clear hk); (try clear hi); have hcz55_0 : w54.cell? ⟨gb415, 0, none⟩ = some (.slice Ao9 t410.length co9) := (blk_cell BK415.out 0).trans rfl; have hfz55_0 := blk_frozen BK415.out 0) | (go_at_call 25; (with_reducible refine (nat_Nat_Bits.calls _ _ t410 t432 _ ?side1 ?side2 A38.out).mono ?_); (case side1 => repeat (first | exact (Kd.V_reads' HO_416000.out).2.2 | (with_reducible refine Kd.C_alloc ?_ _) | (with_reducible refine Kd.C_drewN ?_ _) | (with_reducible refine Kd.C_drew ?_))); (case side2 => exact (Kd.V_reads' HO_416000.out).2.1); rintro e w56 ⟨rfl, hb⟩; have n0_ := Aside0.mk (Kd.V_below (by (with_reducible repeat (first | apply Kd.V_alloc | apply Kd.V_drewN | apply Kd.V_drew)); exact HO_7.out) hb); have n1_ := Aside0.mk (Kd.V_below (by (with_reducible repeat (first | apply Kd.V_alloc | apply Kd.V_drewN | apply Kd.V_drew)); exact HO_11.out) hb); have n2_ := Aside0.mk (Kd.V_below (by (with_reducible repeat (first | apply Kd.V_alloc | apply Kd.V_drewN | apply Kd.V_drew)); exact HO_416000.out) hb); have n3_ := Aside0.mk (Kd.V_below (by (with_reducible repeat (first | apply Kd.V_alloc | apply Kd.V_drewN | apply Kd.V_drew)); exact HO_425000.out) hb); have n4_ := Aside0.mk (blk_below (g := gb415) (o := .cells #[.slice Ao9 t410.length co9] 26 (0, 0)) (by (with_reducible repeat (first | refine blk_drewN ?_ _ | refine blk_drew ?_ | refine blk_alloc ?_ _)); exact BK415.out) hb); have n5_ := Aside0.mk (blk_below (g := gb424) (o := .cells #[.slice Ao13 t419.length co13] 26 (0, 0)) (by (with_reducible repeat (first | refine blk_drewN ?_ _ | refine blk_drew ?_ | refine blk_alloc ?_ _)); exact BK424.out) hb); have n6_ := Aside0.mk (below_step (by repeat (first | (with_reducible first | exact HB.out | apply below_alloc | apply pw_below_drewN | apply below_drew1 | refine below_set ?_ GE415.out | refine below_set ?_ GE424.out) | exact HB.out)) hb); clear HO_7; clear HO_11; clear HO_416000; clear HO_425000; clear BK415; clear BK424; clear HB; have HO_7 := n0_; have HO_11 := n1_; have HO_416000 := n2_; have HO_425000 := n3_; have BK415 := n4_; have BK424 := n5_; have HB := n6_; clear n0_ n1_ n2_ n3_ n4_ n5_ n6_; (try clear hb); (try clear hb2); (try clear hk); (try clear hi)) | (go_at_call 26; (with_reducible refine (heraldref04_Bits.calls kj22 _ _ t407 t433 _ ?side1 ?side2 A39.out).mono ?_); (case side1 => repeat (first | exact (Kd.V_reads' HO_7.out).2.2 | (with_reducible refine Kd.C_alloc ?_ _) | (with_reducible refine Kd.C_drewN ?_ _) | (with_reducible refine Kd.C_drew ?_))); (case side2 => exact (Kd.V_reads' HO_7.out).2.1); rintro e w' ⟨rfl, ⟨nd, rfl⟩⟩))
                        go_meet
                        case rel => exact ⟨_, (true), (by first | rfl | (simp; done) | (simp [*]; done) | (simp [i64_w]; done) | (simp [*, i64_w]; done)), H', ⟨by have := HJ5.out; have := HJ22.out; first | omega | exact Nat.le_refl _⟩, ⟨by (with_reducible repeat (first | apply Kd.V_alloc | apply Kd.V_drewN | apply Kd.V_drew)); exact HO_7.out⟩, ⟨by (with_reducible repeat (first | apply Kd.V_alloc | apply Kd.V_drewN | apply Kd.V_drew)); exact HO_11.out⟩, ⟨by (with_reducible repeat (first | apply Kd.V_alloc | apply Kd.V_drewN | apply Kd.V_drew)); exact HO_416000.out⟩, ⟨by (with_reducible repeat (first | apply Kd.V_alloc | apply Kd.V_drewN | apply Kd.V_drew)); exact HO_425000.out⟩, ⟨by (with_reducible repeat (first | refine blk_drewN ?_ _ | refine blk_drew ?_ | refine blk_alloc ?_ _)); exact BK415.out⟩, ⟨by (with_reducible repeat (first | refine blk_drewN ?_ _ | refine blk_drew ?_ | refine blk_alloc ?_ _)); exact BK424.out⟩, ⟨by repeat (first | (with_reducible first | exact HB.out | apply below_alloc | apply pw_below_drewN | apply below_drew1 | refine below_set ?_ GE415.out | refine below_set ?_ GE424.out) | exact HB.out)⟩⟩
                    · rw [if_neg c37] at H
                      have c37b0 : (t430.toList == t431.toList) = false := beq_eq_false_iff_ne.mpr c37
                      have c37b1 : (t430.toList != t431.toList) = true := bne_iff_ne.mpr c37
                      have H' := Aside0.mk H
                      clear H
                      have hnb57 := NB415_424.out
                      have hnc57 := NB424_415.out
                      have hcz58_0 : w31.cell? ⟨gb415, 0, none⟩ = some (.slice Ao9 t410.length co9) := (blk_cell BK415.out 0).trans rfl
                      have hfz58_0 := blk_frozen BK415.out 0
                      go_wp2_with (first | (go_at_call 20; (with_reducible refine (nat_Nat_Text.calls kj22 (fun k_ => (k_ ≠ gb415 ∧ k_ ≠ gb424)) _ _ t410 t430 _ ?side1 A35.out).mono ?_); (case side1 => exact HO_416000.out); rintro e w59 ⟨rfl, hb⟩; have n0_ := Aside0.mk (Kd.V_below (by (with_reducible repeat (first | apply Kd.V_alloc | apply Kd.V_drewN | apply Kd.V_drew)); exact HO_7.out) hb); have n1_ := Aside0.mk (Kd.V_below (by (with_reducible repeat (first | apply Kd.V_alloc | apply Kd.V_drewN | apply Kd.V_drew)); exact HO_11.out) hb); have n2_ := Aside0.mk (Kd.V_below (by (with_reducible repeat (first | apply Kd.V_alloc | apply Kd.V_drewN | apply Kd.V_drew)); exact HO_416000.out) hb); have n3_ := Aside0.mk (Kd.V_below (by (with_reducible repeat (first | apply Kd.V_alloc | apply Kd.V_drewN | apply Kd.V_drew)); exact HO_425000.out) hb); have n4_ := Aside0.mk (blk_below (g := gb415) (o := .cells #[.slice Ao9 t410.length co9] 26 (0, 0)) (by (with_reducible repeat (first | refine blk_drewN ?_ _ | refine blk_drew ?_ | refine blk_alloc ?_ _)); exact BK415.out) hb); have n5_ := Aside0.mk (blk_below (g := gb424) (o := .cells #[.slice Ao13 t419.length co13] 26 (0, 0)) (by (with_reducible repeat (first | refine blk_drewN ?_ _ | refine blk_drew ?_ | refine blk_alloc ?_ _)); exact BK424.out) hb); have n6_ := Aside0.mk (below_step (by repeat (first | (with_reducible first | exact HB.out | apply below_alloc | apply pw_below_drewN | apply below_drew1 | refine below_set ?_ GE415.out | refine below_set ?_ GE424.out) | exact HB.out)) hb); clear HO_7; clear HO_11; clear HO_416000; clear HO_425000; clear BK415; clear BK424; clear HB; have HO_7 := n0_; have HO_11 := n1_; have HO_416000 := n2_; have HO_425000 := n3_; have BK415 := n4_; have BK424 := n5_; have HB := n6_; clear n0_ n1_ n2_ n3_ n4_ n5_ n6_; (try clear hb); (try clear hb2); (try clear hk); (try clear hi)) | (go_at_call 24; (with_reducible refine (heraldref04_Text.calls kj22 (fun k_ => (k_ ≠ gb415 ∧ k_ ≠ gb424)) _ _ t407 t431 _ ?side1 A36.out).mono ?_); (case side1 => exact HO_7.out); rintro e w60 ⟨rfl, hb⟩; have n0_ := Aside0.mk (Kd.V_below (by (with_reducible repeat (first | apply Kd.V_alloc | apply Kd.V_drewN | apply Kd.V_drew)); exact HO_7.out) hb); have n1_ := Aside0.mk (Kd.V_below (by (with_reducible repeat (first | apply Kd.V_alloc | apply Kd.V_drewN | apply Kd.V_drew)); exact HO_11.out) hb); have n2_ := Aside0.mk (Kd.V_below (by (with_reducible repeat (first | apply Kd.V_alloc | apply Kd.V_drewN | apply Kd.V_drew)); exact HO_416000.out) hb); have n3_ := Aside0.mk (Kd.V_below (by (with_reducible repeat (first | apply Kd.V_alloc | apply Kd.V_drewN | apply Kd.V_drew)); exact HO_425000.out) hb); have n4_ := Aside0.mk (blk_below (g := gb415) (o := .cells #[.slice Ao9 t410.length co9] 26 (0, 0)) (by (with_reducible repeat (first | refine blk_drewN ?_ _ | refine blk_drew ?_ | refine blk_alloc ?_ _)); exact BK415.out) hb); have n5_ := Aside0.mk (blk_below (g := gb424) (o := .cells #[.slice Ao13 t419.length co13] 26 (0, 0)) (by (with_reducible repeat (first | refine blk_drewN ?_ _ | refine blk_drew ?_ | refine blk_alloc ?_ _)); exact BK424.out) hb); have n6_ := Aside0.mk (below_step (by repeat (first | (with_reducible first | exact HB.out | apply below_alloc | apply pw_below_drewN | apply below_drew1 | refine below_set ?_ GE415.out | refine below_set ?_ GE424.out) | exact HB.out)) hb); clear HO_7; clear HO_11; clear HO_416000; clear HO_425000; clear BK415; clear BK424; clear HB; have HO_7 := n0_; have HO_11 := n1_; have HO_416000 := n2_; have HO_425000 := n3_; have BK415 := n4_; have BK424 := n5_; have HB := n6_; clear n0_ n1_ n2_ n3_ n4_ n5_ n6_; (try clear hb); (try clear hb2); (try clear hk); (try clear hi)))
                      go_meet
                      case rel => exact ⟨_, (true), (by first | rfl | (simp; done) | (simp [*]; done) | (simp [i64_w]; done) | (simp [*, i64_w]; done)), H', ⟨by have := HJ5.out; have := HJ22.out; first | omega | exact Nat.le_refl _⟩, ⟨by (with_reducible repeat (first | apply Kd.V_alloc | apply Kd.V_drewN | apply Kd.V_drew)); exact HO_7.out⟩, ⟨by (with_reducible repeat (first | apply Kd.V_alloc | apply Kd.V_drewN | apply Kd.V_drew)); exact HO_11.out⟩, ⟨by (with_reducible repeat (first | apply Kd.V_alloc | apply Kd.V_drewN | apply Kd.V_drew)); exact HO_416000.out⟩, ⟨by (with_reducible repeat (first | apply Kd.V_alloc | apply Kd.V_drewN | apply Kd.V_drew)); exact HO_425000.out⟩, ⟨by (with_reducible repeat (first | refine blk_drewN ?_ _ | refine blk_drew ?_ | refine blk_alloc ?_ _)); exact BK415.out⟩, ⟨by (with_reducible repeat (first | refine blk_drewN ?_ _ | refine blk_drew ?_ | refine blk_alloc ?_ _)); exact BK424.out⟩, ⟨by repeat (first | (with_reducible first | exact HB.out | apply below_alloc | apply pw_below_drewN | apply below_drew1 | refine below_set ?_ GE415.out | refine below_set ?_ GE424.out) | exact HB.out)⟩⟩
                · rw [if_neg c33] at H
                  have c33b0 : (t426 == t428) = false := beq_eq_false_iff_ne.mpr c33
                  have c33b1 : (t426 != t428) = true := bne_iff_ne.mpr c33
                  (first | rw [c33b0] | (simp only [i64_w, i32_w]; rw [c33b0]) | skip)
                  have H' := Aside0.mk H
                  clear H
                  go_wp2
                  go_meet
                  case rel => exact ⟨_, (true), (by first | rfl | (simp; done) | (simp [*]; done) | (simp [i64_w]; done) | (simp [*, i64_w]; done)), H', ⟨by have := HJ5.out; have := HJ22.out; first | omega | exact Nat.le_refl _⟩, ⟨by (with_reducible repeat (first | apply Kd.V_alloc | apply Kd.V_drewN | apply Kd.V_drew)); exact HO_7.out⟩, ⟨by (with_reducible repeat (first | apply Kd.V_alloc | apply Kd.V_drewN | apply Kd.V_drew)); exact HO_11.out⟩, ⟨by (with_reducible repeat (first | apply Kd.V_alloc | apply Kd.V_drewN | apply Kd.V_drew)); exact HO_416000.out⟩, ⟨by (with_reducible repeat (first | apply Kd.V_alloc | apply Kd.V_drewN | apply Kd.V_drew)); exact HO_425000.out⟩, ⟨by (with_reducible repeat (first | refine blk_drewN ?_ _ | refine blk_drew ?_ | refine blk_alloc ?_ _)); exact BK415.out⟩, ⟨by (with_reducible repeat (first | refine blk_drewN ?_ _ | refine blk_drew ?_ | refine blk_alloc ?_ _)); exact BK424.out⟩, ⟨by repeat (first | (with_reducible first | exact HB.out | apply below_alloc | apply pw_below_drewN | apply below_drew1 | refine below_set ?_ GE415.out | refine below_set ?_ GE424.out) | exact HB.out)⟩⟩
              case rest =>
                clear HC28
                try clear c1
                try clear c2
                try clear p2
                try clear c3
                try clear c4
                try clear c5
                try clear c12
                try clear c14
                try clear c17
                try clear c18
                try clear c21
                try clear c22
                try clear c23
                try clear c24
                try clear c25
                try clear c29
                try clear c33
                try clear c33b0
                try clear c33b1
                try clear c34
                try clear c34b0
                try clear c34b1
                try clear c34b2
                try clear c37
                try clear c37b0
                try clear c37b1
                try clear c40
                try clear c40b0
                try clear c40b1
                try clear c43
                try clear c51
                try clear c57
                try clear hcz10_0
                try clear hcz15_0
                try clear hcz30_0
                try clear hcz44_0
                try clear hcz47_0
                try clear hcz49_0
                try clear hcz52_0
                try clear hcz55_0
                try clear hcz58_0
                try clear hfz10_0
                try clear hfz15_0
                try clear hfz30_0
                try clear hfz44_0
                try clear hfz47_0
                try clear hfz49_0
                try clear hfz52_0
                try clear hfz55_0
                try clear hfz58_0
                try clear p2
                obtain ⟨kq, x89_27, rfl, HA, HJ27, HO_7, HO_11, HO_416000, HO_425000, BK415, BK424, HB⟩ := hcut
                cases kq with
                | zero => exact absurd HA.out (by simp [heraldlaw04_NatLooks.j2])
                | succ kj27 =>
                  have H := HA.out
                  clear HA
                  simp only [heraldlaw04_NatLooks.j2] at H
                  by_cases c61 : x89_27 = true
                  · subst c61
                    have H1 : (some false) = some r := by rw [if_pos rfl] at H; exact H
                    clear H
                    have H := H1
                    clear H1
                    obtain rfl := Option.some.inj H
                    go_wp2
                    go_ret
                    exact ⟨by first | rfl | (simp [errW_none, errW_some] <;> rfl) | (simp [*, errW_none, errW_some] <;> rfl), by repeat (first | (with_reducible first | exact HB.out | apply below_alloc | apply pw_below_drewN | apply below_drew1 | refine below_set ?_ GE415.out | refine below_set ?_ GE424.out) | exact HB.out)⟩
                  · replace c61 := Bool.eq_false_iff.mpr c61
                    subst c61
                    have H1 : ((nat_Nat_Compare.f kj27 t410 t419).bind fun t436 => ((heraldref04_Compare.f kj27 t407 t416).bind fun t437 => (if t436 = t437 then ((nat_Nat_Compare.f kj27 t410 t410).bind fun t438 => (some (t438 == 0))) else (some false)))) = some r := by rw [if_neg (show ¬ (false = true) by decide)] at H; exact H
                    clear H
                    have H := H1
                    clear H1
                    replace H := Option.bind_eq_some_iff.mp H
                    obtain ⟨t436, A620, H⟩ := H
                    replace H : ((heraldref04_Compare.f kj27 t407 t416).bind fun t437 => (if t436 = t437 then ((nat_Nat_Compare.f kj27 t410 t410).bind fun t438 => (some (t438 == 0))) else (some false))) = some r := H
                    have A62 := Aside0.mk A620
                    clear A620
                    replace H := Option.bind_eq_some_iff.mp H
                    obtain ⟨t437, A630, H⟩ := H
                    replace H : (if t436 = t437 then ((nat_Nat_Compare.f kj27 t410 t410).bind fun t438 => (some (t438 == 0))) else (some false)) = some r := H
                    have A63 := Aside0.mk A630
                    clear A630
                    by_cases c64 : t436 = t437
                    · rw [if_pos c64] at H
                      have c64b0 : (t436 == t437) = true := beq_iff_eq.mpr c64
                      have c64b1 : (t436 != t437) = false := bne_eq_false_iff_eq.mpr c64
                      clear c64
                      replace H := Option.bind_eq_some_iff.mp H
                      obtain ⟨t438, A650, H⟩ := H
                      replace H : (some (t438 == 0)) = some r := H
                      have A65 := Aside0.mk A650
                      clear A650
                      obtain rfl := Option.some.inj H
                      have hnb66 := NB415_424.out
                      have hnc66 := NB424_415.out
                      have hcz67_0 : wc.cell? ⟨gb415, 0, none⟩ = some (.slice Ao9 t410.length co9) := (blk_cell BK415.out 0).trans rfl
                      have hfz67_0 := blk_frozen BK415.out 0
                      have hcz68_0 : wc.cell? ⟨gb424, 0, none⟩ = some (.slice Ao13 t419.length co13) := (blk_cell BK424.out 0).trans rfl
                      have hfz68_0 := blk_frozen BK424.out 0
                      go_wp2_with (first | ((with_reducible refine gate_callee (f := 29) rfl ?_); refine goesL_ (some 92) rfl rfl Tryd.func29 (by kernel_rfl) rfl #[.agg #[.slice Ao9 t410.length co9], .agg #[.slice Ao13 t419.length co13]] rfl (by (try simp only [List.map_toArray, List.map_cons, List.map_nil]); first | done | rfl | (simp only [List.length_drop, List.length_take]; rfl)) ?_; (with_reducible refine (nat_Nat_Compare.calls kj27 _ _ t410 _ _ t419 t436 _ ?side1 ?side2 ?side3 ?side4 A62.out).mono ?_); (case side1 => repeat (first | exact (Kd.V_reads' HO_416000.out).2.2 | (with_reducible refine Kd.C_alloc ?_ _) | (with_reducible refine Kd.C_drewN ?_ _) | (with_reducible refine Kd.C_drew ?_))); (case side2 => exact (Kd.V_reads' HO_416000.out).2.1); (case side3 => repeat (first | exact (Kd.V_reads' HO_425000.out).2.2 | (with_reducible refine Kd.C_alloc ?_ _) | (with_reducible refine Kd.C_drewN ?_ _) | (with_reducible refine Kd.C_drew ?_))); (case side4 => exact (Kd.V_reads' HO_425000.out).2.1); rintro e w69 ⟨rfl, hb⟩; refine ⟨_, rfl, ?_⟩; have n0_ := Aside0.mk (Kd.V_below (by (with_reducible repeat (first | apply Kd.V_alloc | apply Kd.V_drewN | apply Kd.V_drew)); exact HO_7.out) hb); have n1_ := Aside0.mk (Kd.V_below (by (with_reducible repeat (first | apply Kd.V_alloc | apply Kd.V_drewN | apply Kd.V_drew)); exact HO_11.out) hb); have n2_ := Aside0.mk (Kd.V_below (by (with_reducible repeat (first | apply Kd.V_alloc | apply Kd.V_drewN | apply Kd.V_drew)); exact HO_416000.out) hb); have n3_ := Aside0.mk (Kd.V_below (by (with_reducible repeat (first | apply Kd.V_alloc | apply Kd.V_drewN | apply Kd.V_drew)); exact HO_425000.out) hb); have n4_ := Aside0.mk (blk_below (g := gb415) (o := .cells #[.slice Ao9 t410.length co9] 26 (0, 0)) (by (with_reducible repeat (first | refine blk_drewN ?_ _ | refine blk_drew ?_ | refine blk_alloc ?_ _)); exact BK415.out) hb); have n5_ := Aside0.mk (blk_below (g := gb424) (o := .cells #[.slice Ao13 t419.length co13] 26 (0, 0)) (by (with_reducible repeat (first | refine blk_drewN ?_ _ | refine blk_drew ?_ | refine blk_alloc ?_ _)); exact BK424.out) hb); have n6_ := Aside0.mk (below_step (by repeat (first | (with_reducible first | exact HB.out | apply below_alloc | apply pw_below_drewN | apply below_drew1 | refine below_set ?_ GE415.out | refine below_set ?_ GE424.out) | exact HB.out)) hb); clear HO_7; clear HO_11; clear HO_416000; clear HO_425000; clear BK415; clear BK424; clear HB; have HO_7 := n0_; have HO_11 := n1_; have HO_416000 := n2_; have HO_425000 := n3_; have BK415 := n4_; have BK424 := n5_; have HB := n6_; clear n0_ n1_ n2_ n3_ n4_ n5_ n6_; (try clear hb); (try clear hb2); (try clear hk); (try clear hi); obtain ⟨Ao70, co70, eo70⟩ := Kd.V_slice HO_11.out; subst eo70) | ((with_reducible refine gate_callee (f := 30) rfl ?_); refine goesL_ (some 95) rfl rfl Tryd.func30 (by kernel_rfl) rfl #[.slice Ao32 t407.length co32, .slice Ao70 t416.length co70] rfl (by (try simp only [List.map_toArray, List.map_cons, List.map_nil]); first | done | rfl | (simp only [List.length_drop, List.length_take]; rfl)) ?_; (with_reducible refine (heraldref04_Compare.calls kj27 _ _ t407 _ _ t416 t437 _ ?side1 ?side2 ?side3 ?side4 A63.out).mono ?_); (case side1 => repeat (first | exact (Kd.V_reads' HO_7.out).2.2 | (with_reducible refine Kd.C_alloc ?_ _) | (with_reducible refine Kd.C_drewN ?_ _) | (with_reducible refine Kd.C_drew ?_))); (case side2 => exact (Kd.V_reads' HO_7.out).2.1); (case side3 => repeat (first | exact (Kd.V_reads' HO_11.out).2.2 | (with_reducible refine Kd.C_alloc ?_ _) | (with_reducible refine Kd.C_drewN ?_ _) | (with_reducible refine Kd.C_drew ?_))); (case side4 => exact (Kd.V_reads' HO_11.out).2.1); rintro e w' ⟨rfl, ⟨nd, rfl⟩⟩; refine ⟨_, rfl, ?_⟩; have hcz71_0 : w69.cell? ⟨gb415, 0, none⟩ = some (.slice Ao9 t410.length co9) := (blk_cell BK415.out 0).trans rfl; have hfz71_0 := blk_frozen BK415.out 0) | (go_at_call 29; (with_reducible refine (nat_Nat_Compare.calls kj27 _ _ t410 _ _ t410 t438 _ ?side1 ?side2 ?side3 ?side4 A65.out).mono ?_); (case side1 => repeat (first | exact (Kd.V_reads' HO_416000.out).2.2 | (with_reducible refine Kd.C_alloc ?_ _) | (with_reducible refine Kd.C_drewN ?_ _) | (with_reducible refine Kd.C_drew ?_))); (case side2 => exact (Kd.V_reads' HO_416000.out).2.1); (case side3 => repeat (first | exact (Kd.V_reads' HO_416000.out).2.2 | (with_reducible refine Kd.C_alloc ?_ _) | (with_reducible refine Kd.C_drewN ?_ _) | (with_reducible refine Kd.C_drew ?_))); (case side4 => exact (Kd.V_reads' HO_416000.out).2.1); rintro e w72 ⟨rfl, hb⟩; have n0_ := Aside0.mk (Kd.V_below (by (with_reducible repeat (first | apply Kd.V_alloc | apply Kd.V_drewN | apply Kd.V_drew)); exact HO_7.out) hb); have n1_ := Aside0.mk (Kd.V_below (by (with_reducible repeat (first | apply Kd.V_alloc | apply Kd.V_drewN | apply Kd.V_drew)); exact HO_11.out) hb); have n2_ := Aside0.mk (Kd.V_below (by (with_reducible repeat (first | apply Kd.V_alloc | apply Kd.V_drewN | apply Kd.V_drew)); exact HO_416000.out) hb); have n3_ := Aside0.mk (Kd.V_below (by (with_reducible repeat (first | apply Kd.V_alloc | apply Kd.V_drewN | apply Kd.V_drew)); exact HO_425000.out) hb); have n4_ := Aside0.mk (blk_below (g := gb415) (o := .cells #[.slice Ao9 t410.length co9] 26 (0, 0)) (by (with_reducible repeat (first | refine blk_drewN ?_ _ | refine blk_drew ?_ | refine blk_alloc ?_ _)); exact BK415.out) hb); have n5_ := Aside0.mk (blk_below (g := gb424) (o := .cells #[.slice Ao13 t419.length co13] 26 (0, 0)) (by (with_reducible repeat (first | refine blk_drewN ?_ _ | refine blk_drew ?_ | refine blk_alloc ?_ _)); exact BK424.out) hb); have n6_ := Aside0.mk (below_step (by repeat (first | (with_reducible first | exact HB.out | apply below_alloc | apply pw_below_drewN | apply below_drew1 | refine below_set ?_ GE415.out | refine below_set ?_ GE424.out) | exact HB.out)) hb); clear HO_7; clear HO_11; clear HO_416000; clear HO_425000; clear BK415; clear BK424; clear HB; have HO_7 := n0_; have HO_11 := n1_; have HO_416000 := n2_; have HO_425000 := n3_; have BK415 := n4_; have BK424 := n5_; have HB := n6_; clear n0_ n1_ n2_ n3_ n4_ n5_ n6_; (try clear hb); (try clear hb2); (try clear hk); (try clear hi)))
                      go_ret
                      exact ⟨by first | rfl | (simp [errW_none, errW_some] <;> rfl) | (simp [*, errW_none, errW_some] <;> rfl), by repeat (first | (with_reducible first | exact HB.out | apply below_alloc | apply pw_below_drewN | apply below_drew1 | refine below_set ?_ GE415.out | refine below_set ?_ GE424.out) | exact HB.out)⟩
                    · rw [if_neg c64] at H
                      have c64b0 : (t436 == t437) = false := beq_eq_false_iff_ne.mpr c64
                      have c64b1 : (t436 != t437) = true := bne_iff_ne.mpr c64
                      obtain rfl := Option.some.inj H
                      have hnb73 := NB415_424.out
                      have hnc73 := NB424_415.out
                      have hcz74_0 : wc.cell? ⟨gb415, 0, none⟩ = some (.slice Ao9 t410.length co9) := (blk_cell BK415.out 0).trans rfl
                      have hfz74_0 := blk_frozen BK415.out 0
                      have hcz75_0 : wc.cell? ⟨gb424, 0, none⟩ = some (.slice Ao13 t419.length co13) := (blk_cell BK424.out 0).trans rfl
                      have hfz75_0 := blk_frozen BK424.out 0
                      go_wp2_with (first | ((with_reducible refine gate_callee (f := 29) rfl ?_); refine goesL_ (some 92) rfl rfl Tryd.func29 (by kernel_rfl) rfl #[.agg #[.slice Ao9 t410.length co9], .agg #[.slice Ao13 t419.length co13]] rfl (by (try simp only [List.map_toArray, List.map_cons, List.map_nil]); first | done | rfl | (simp only [List.length_drop, List.length_take]; rfl)) ?_; (with_reducible refine (nat_Nat_Compare.calls kj27 _ _ t410 _ _ t419 t436 _ ?side1 ?side2 ?side3 ?side4 A62.out).mono ?_); (case side1 => repeat (first | exact (Kd.V_reads' HO_416000.out).2.2 | (with_reducible refine Kd.C_alloc ?_ _) | (with_reducible refine Kd.C_drewN ?_ _) | (with_reducible refine Kd.C_drew ?_))); (case side2 => exact (Kd.V_reads' HO_416000.out).2.1); (case side3 => repeat (first | exact (Kd.V_reads' HO_425000.out).2.2 | (with_reducible refine Kd.C_alloc ?_ _) | (with_reducible refine Kd.C_drewN ?_ _) | (with_reducible refine Kd.C_drew ?_))); (case side4 => exact (Kd.V_reads' HO_425000.out).2.1); rintro e w76 ⟨rfl, hb⟩; refine ⟨_, rfl, ?_⟩; have n0_ := Aside0.mk (Kd.V_below (by (with_reducible repeat (first | apply Kd.V_alloc | apply Kd.V_drewN | apply Kd.V_drew)); exact HO_7.out) hb); have n1_ := Aside0.mk (Kd.V_below (by (with_reducible repeat (first | apply Kd.V_alloc | apply Kd.V_drewN | apply Kd.V_drew)); exact HO_11.out) hb); have n2_ := Aside0.mk (Kd.V_below (by (with_reducible repeat (first | apply Kd.V_alloc | apply Kd.V_drewN | apply Kd.V_drew)); exact HO_416000.out) hb); have n3_ := Aside0.mk (Kd.V_below (by (with_reducible repeat (first | apply Kd.V_alloc | apply Kd.V_drewN | apply Kd.V_drew)); exact HO_425000.out) hb); have n4_ := Aside0.mk (blk_below (g := gb415) (o := .cells #[.slice Ao9 t410.length co9] 26 (0, 0)) (by (with_reducible repeat (first | refine blk_drewN ?_ _ | refine blk_drew ?_ | refine blk_alloc ?_ _)); exact BK415.out) hb); have n5_ := Aside0.mk (blk_below (g := gb424) (o := .cells #[.slice Ao13 t419.length co13] 26 (0, 0)) (by (with_reducible repeat (first | refine blk_drewN ?_ _ | refine blk_drew ?_ | refine blk_alloc ?_ _)); exact BK424.out) hb); have n6_ := Aside0.mk (below_step (by repeat (first | (with_reducible first | exact HB.out | apply below_alloc | apply pw_below_drewN | apply below_drew1 | refine below_set ?_ GE415.out | refine below_set ?_ GE424.out) | exact HB.out)) hb); clear HO_7; clear HO_11; clear HO_416000; clear HO_425000; clear BK415; clear BK424; clear HB; have HO_7 := n0_; have HO_11 := n1_; have HO_416000 := n2_; have HO_425000 := n3_; have BK415 := n4_; have BK424 := n5_; have HB := n6_; clear n0_ n1_ n2_ n3_ n4_ n5_ n6_; (try clear hb); (try clear hb2); (try clear hk); (try clear hi); obtain ⟨Ao77, co77, eo77⟩ := Kd.V_slice HO_11.out; subst eo77) | ((with_reducible refine gate_callee (f := 30) rfl ?_); refine goesL_ (some 95) rfl rfl Tryd.func30 (by kernel_rfl) rfl #[.slice Ao32 t407.length co32, .slice Ao77 t416.length co77] rfl (by (try simp only [List.map_toArray, List.map_cons, List.map_nil]); first | done | rfl | (simp only [List.length_drop, List.length_take]; rfl)) ?_; (with_reducible refine (heraldref04_Compare.calls kj27 _ _ t407 _ _ t416 t437 _ ?side1 ?side2 ?side3 ?side4 A63.out).mono ?_); (case side1 => repeat (first | exact (Kd.V_reads' HO_7.out).2.2 | (with_reducible refine Kd.C_alloc ?_ _) | (with_reducible refine Kd.C_drewN ?_ _) | (with_reducible refine Kd.C_drew ?_))); (case side2 => exact (Kd.V_reads' HO_7.out).2.1); (case side3 => repeat (first | exact (Kd.V_reads' HO_11.out).2.2 | (with_reducible refine Kd.C_alloc ?_ _) | (with_reducible refine Kd.C_drewN ?_ _) | (with_reducible refine Kd.C_drew ?_))); (case side4 => exact (Kd.V_reads' HO_11.out).2.1); rintro e w' ⟨rfl, ⟨nd, rfl⟩⟩; refine ⟨_, rfl, ?_⟩))
                      go_ret
                      exact ⟨by first | rfl | (simp [errW_none, errW_some] <;> rfl) | (simp [*, errW_none, errW_some] <;> rfl), by repeat (first | (with_reducible first | exact HB.out | apply below_alloc | apply pw_below_drewN | apply below_drew1 | refine below_set ?_ GE415.out | refine below_set ?_ GE424.out) | exact HB.out)⟩
end Go.Proofs.YtgcngbmkgjphpaaDoor.PAll
end

section
namespace Go.Proofs.YtgcngbmkgjphpaaDoor.Nums
open Go.RowKit Go.Proofs.YtgcngbmkgjphpaaDoor.PAll Go.Proofs.YtgcngbmkgjphpaaDoorW.PrintWords Go.Proofs.YtgcngbmkgjphpaaDoorW.PrintLast Go.Proofs.YtgcngbmkgjphpaaDoorW.PrintMore
set_option linter.unusedVariables false
set_option linter.unusedSimpArgs false
theorem bit_digit {w : Nat} (hw : 0 < w) (n i : Nat) : (n / (2 ^ w) ^ (i / w) % 2 ^ w) / 2 ^ (i % w) % 2 = n / 2 ^ i % 2 := by
  have hr := Nat.mod_lt i hw
  have e1 : 2 ^ w = 2 ^ (i % w) * 2 ^ (w - i % w) := by rw [← Nat.pow_add]; congr 1; omega
  have e2 : 2 ∣ 2 ^ (w - i % w) := by
    obtain ⟨d, hd⟩ : ∃ d, w - i % w = d + 1 := ⟨w - i % w - 1, by omega⟩
    rw [hd, Nat.pow_succ']; exact Nat.dvd_mul_right _ _
  have e3 : i = w * (i / w) + i % w := (Nat.div_add_mod i w).symm
  rw [show n / (2 ^ w) ^ (i / w) % 2 ^ w = n / (2 ^ w) ^ (i / w) % (2 ^ (i % w) * 2 ^ (w - i % w)) from by rw [← e1], Nat.mod_mul_right_div_self, Nat.mod_mod_of_dvd _ e2, ← Nat.pow_mul, Nat.div_div_eq_div_mul, ← Nat.pow_add, ← e3]
theorem bit_high {b n i : Nat} {w : Nat} (hb : b = 2 ^ w) (hw : 0 < w) (h : (dgs b n).length ≤ i / w) : n / 2 ^ i % 2 = 0 := by
  subst hb
  have hb2 : 2 ≤ 2 ^ w := by
    have := Nat.pow_le_pow_right (show 0 < 2 by omega) hw
    simpa using this
  have h1 : n < (2 ^ w) ^ (i / w) := (dgs_len_le hb2).mp h
  rw [← Nat.pow_mul] at h1
  have h2 : n < 2 ^ i := Nat.lt_of_lt_of_le h1 (Nat.pow_le_pow_right (by omega) (by have := Nat.div_add_mod i w; omega))
  rw [Nat.div_eq_of_lt h2]
theorem and_one32 (x : Nat) (h : x < 4294967296) : Go.bits .and .u32 (x : Int) 1 = ((x % 2 : Nat) : Int) := by
  show IntKind.u32.wrap ((BitVec.ofInt 32 (x : Int) &&& BitVec.ofInt 32 ((1 : Nat) : Int)).toNat : Int) = _
  rw [BitVec.toNat_and, BitVec.ofInt_natCast, BitVec.ofInt_natCast, BitVec.toNat_ofNat, BitVec.toNat_ofNat, Nat.mod_eq_of_lt (by omega), Nat.mod_eq_of_lt (by omega), Nat.and_one_is_mod]
  have e : ∀ x : Int, IntKind.u32.wrap x = x % 4294967296 := fun _ => rfl
  rw [e]; omega
theorem and_one64 (x : Nat) (h : x < 9223372036854775808) : Go.bits .and .i64 (x : Int) 1 = ((x % 2 : Nat) : Int) := by
  show IntKind.i64.wrap ((BitVec.ofInt 64 (x : Int) &&& BitVec.ofInt 64 ((1 : Nat) : Int)).toNat : Int) = _
  rw [BitVec.toNat_and, BitVec.ofInt_natCast, BitVec.ofInt_natCast, BitVec.toNat_ofNat, BitVec.toNat_ofNat, Nat.mod_eq_of_lt (by omega), Nat.mod_eq_of_lt (by omega), Nat.and_one_is_mod]
  rw [i64_w, wrap_in (by omega) (by omega)]
theorem shr_nat (k : IntKind) (x s : Nat) (hs : s ≤ k.bits) : shr k (x : Int) (s : Int) = ((x / 2 ^ s : Nat) : Int) := by
  unfold shr
  rw [Int.toNat_natCast, Nat.min_eq_left hs, Int.natCast_ediv, Int.natCast_pow]
  rfl
/-- A binary digit of a number; 0 ahead of the first place. -/
def bitV (n : Nat) (i : Int) : Int := if i < 0 then 0 else ((n / 2 ^ i.toNat % 2 : Nat) : Int)
theorem bit_some (n : Nat) (i : Int) (h1 : i < 9223372036854775808) (hl : (dgs 4294967296 n).length ≤ 1000000000) : nat_Nat_Bit.f (dgs 4294967296 n) i = some (bitV n i) := by
  unfold nat_Nat_Bit.f bitV
  by_cases c : i < 0
  · rw [if_pos c, if_pos c]
  · obtain ⟨j, rfl⟩ := Int.eq_ofNat_of_zero_le (show 0 ≤ i by omega)
    rw [if_neg c, if_neg c, Int.toNat_natCast, show (32 : Int) = ((32 : Nat) : Int) from rfl, ← Int.ofNat_tdiv, ← Int.ofNat_tmod, wrap_in (by omega) (by omega)]
    have bd := bit_digit (w := 32) (by omega) n j
    rw [show (2 : Nat) ^ 32 = 4294967296 from rfl] at bd
    have hm := Nat.mod_lt (n / 4294967296 ^ (j / 32)) (show 0 < 4294967296 by omega)
    by_cases g : (dgs 4294967296 n).length ≤ j / 32
    · rw [if_pos (by omega), bit_high (b := 4294967296) (w := 32) rfl (by omega) g]
      rfl
    · rw [if_neg (by omega), if_pos (by omega), if_pos (by omega), if_pos (by omega), rd_dgs (by omega)]
      generalize hD : n / 4294967296 ^ (j / 32) % 4294967296 = D at *
      rw [shr_nat .u32 D (j % 32) (by show j % 32 ≤ 32; omega)]
      have hlt : D / 2 ^ (j % 32) < 4294967296 := Nat.lt_of_le_of_lt (Nat.div_le_self _ _) hm
      rw [and_one32 _ hlt, bd, wrap_in (by omega) (by omega)]
theorem rbit_some (n : Nat) (i : Int) (h1 : i < 9223372036854775808) (hl : (dgs 65536 n).length ≤ 1000000000) : heraldref04_Bit.f (dgs 65536 n) i = some (bitV n i) := by
  unfold heraldref04_Bit.f bitV
  by_cases c : i < 0
  · rw [if_pos c, if_pos c]
  · obtain ⟨j, rfl⟩ := Int.eq_ofNat_of_zero_le (show 0 ≤ i by omega)
    rw [if_neg c, if_neg c, Int.toNat_natCast, show (16 : Int) = ((16 : Nat) : Int) from rfl, ← Int.ofNat_tdiv, ← Int.ofNat_tmod, wrap_in (by omega) (by omega)]
    have bd := bit_digit (w := 16) (by omega) n j
    rw [show (2 : Nat) ^ 16 = 65536 from rfl] at bd
    have hm := Nat.mod_lt (n / 65536 ^ (j / 16)) (show 0 < 65536 by omega)
    by_cases g : (dgs 65536 n).length ≤ j / 16
    · rw [if_pos (by omega), bit_high (b := 65536) (w := 16) rfl (by omega) g]
      rfl
    · rw [if_neg (by omega), if_pos (by omega), if_pos (by omega), u64_in (by omega) (by omega), if_pos (by omega), rd_dgs (by omega)]
      generalize hD : n / 65536 ^ (j / 16) % 65536 = D at *
      rw [shr_nat .i64 D (j % 16) (by show j % 16 ≤ 64; omega)]
      have hlt : D / 2 ^ (j % 16) < 65536 := Nat.lt_of_le_of_lt (Nat.div_le_self _ _) hm
      rw [and_one64 _ (by omega), bd]
/-- -1, 0 or 1. -/
def cmpV (m n : Nat) : Int := if m < n then -1 else if n < m then 1 else 0
theorem cmpV_lt {m n : Nat} (h : m < n) : cmpV m n = -1 := by unfold cmpV; rw [if_pos h]
theorem cmpV_gt {m n : Nat} (h : n < m) : cmpV m n = 1 := by unfold cmpV; rw [if_neg (by omega), if_pos h]
theorem cmpV_eq (n : Nat) : cmpV n n = 0 := by unfold cmpV; rw [if_neg (by omega), if_neg (by omega)]
theorem cmp_loop (m n L : Nat) (h1 : (dgs 4294967296 m).length = L) (h2 : (dgs 4294967296 n).length = L) (hL : L ≤ 1000000000) : ∀ i : Nat, i ≤ L → m / 4294967296 ^ i = n / 4294967296 ^ i → Ev (fun k => nat_Nat_Compare.l0 k ((i : Int) - 1) (dgs 4294967296 m) (dgs 4294967296 n)) (cmpV m n) := by
  intro i
  induction i with
  | zero =>
    intro _ he
    rw [Nat.pow_zero, Nat.div_one, Nat.div_one] at he
    subst he
    rw [cmpV_eq]
    refine Ev.step (f := fun _ => some 0) (fun k => ?_) (Ev.now _)
    rw [nat_Nat_Compare.l0, if_neg (by omega)]
  | succ i ih =>
    intro hi he
    have e1 : m / 4294967296 ^ i / 4294967296 = n / 4294967296 ^ i / 4294967296 := by rw [Nat.div_div_eq_div_mul, Nat.div_div_eq_div_mul, ← Nat.pow_succ]; exact he
    rw [show ((i + 1 : Nat) : Int) - 1 = (i : Int) by omega]
    have d1 := rd_dgs (b := 4294967296) (n := m) (by omega) i
    have d2 := rd_dgs (b := 4294967296) (n := n) (by omega) i
    by_cases c1 : m / 4294967296 ^ i % 4294967296 < n / 4294967296 ^ i % 4294967296
    · rw [cmpV_lt (lt_of_div (cmp_lt e1 c1))]
      refine Ev.step (f := fun _ => some (-1)) (fun k => ?_) (Ev.now _)
      rw [nat_Nat_Compare.l0, if_pos (by omega), if_pos (by omega), if_pos (by omega), if_pos (by omega), d1, d2, if_pos (by omega)]
    · by_cases c2 : n / 4294967296 ^ i % 4294967296 < m / 4294967296 ^ i % 4294967296
      · rw [cmpV_gt (lt_of_div (cmp_lt e1.symm c2))]
        refine Ev.step (f := fun _ => some 1) (fun k => ?_) (Ev.now _)
        rw [nat_Nat_Compare.l0, if_pos (by omega), if_pos (by omega), if_pos (by omega), if_pos (by omega), d1, d2, if_neg (by omega), if_pos (by omega)]
      · have e2 := cmp_eq e1 (show m / 4294967296 ^ i % 4294967296 = n / 4294967296 ^ i % 4294967296 by omega)
        refine Ev.step (fun k => ?_) (ih (by omega) e2)
        rw [nat_Nat_Compare.l0, if_pos (by omega), if_pos (by omega), if_pos (by omega), if_pos (by omega), d1, d2, if_neg (by omega), if_neg (by omega), wrap_in (by omega) (by omega)]
theorem cmp_ev (m n : Nat) (h1 : (dgs 4294967296 m).length ≤ 1000000000) (h2 : (dgs 4294967296 n).length ≤ 1000000000) : Ev (fun k => nat_Nat_Compare.f k (dgs 4294967296 m) (dgs 4294967296 n)) (cmpV m n) := by
  by_cases c1 : (dgs 4294967296 m).length < (dgs 4294967296 n).length
  · rw [cmpV_lt (lt_of_len (by omega) c1)]
    refine Ev.congr (fun k => ?_) (Ev.now _)
    unfold nat_Nat_Compare.f; rw [if_pos (by omega)]
  · by_cases c2 : (dgs 4294967296 n).length < (dgs 4294967296 m).length
    · rw [cmpV_gt (lt_of_len (by omega) c2)]
      refine Ev.congr (fun k => ?_) (Ev.now _)
      unfold nat_Nat_Compare.f; rw [if_neg (by omega), if_pos (by omega)]
    · have he : m / 4294967296 ^ (dgs 4294967296 m).length = n / 4294967296 ^ (dgs 4294967296 m).length := by
        rw [Nat.div_eq_of_lt (lt_pow_len (by omega)), show (dgs 4294967296 m).length = (dgs 4294967296 n).length by omega, Nat.div_eq_of_lt (lt_pow_len (by omega))]
      refine Ev.congr (fun k => ?_) (cmp_loop m n (dgs 4294967296 m).length rfl (by omega) (by omega) (dgs 4294967296 m).length (Nat.le_refl _) he)
      unfold nat_Nat_Compare.f; rw [if_neg (by omega), if_neg (by omega), wrap_in (by omega) (by omega)]
theorem rcmp_loop (m n L : Nat) (h1 : (dgs 65536 m).length = L) (h2 : (dgs 65536 n).length = L) (hL : L ≤ 1000000000) : ∀ i : Nat, i ≤ L → m / 65536 ^ i = n / 65536 ^ i → Ev (fun k => heraldref04_Compare.l0 k (dgs 65536 m) (dgs 65536 n) ((i : Int) - 1)) (cmpV m n) := by
  intro i
  induction i with
  | zero =>
    intro _ he
    rw [Nat.pow_zero, Nat.div_one, Nat.div_one] at he
    subst he
    rw [cmpV_eq]
    refine Ev.step (f := fun _ => some 0) (fun k => ?_) (Ev.now _)
    rw [heraldref04_Compare.l0, if_neg (by omega)]
  | succ i ih =>
    intro hi he
    have e1 : m / 65536 ^ i / 65536 = n / 65536 ^ i / 65536 := by rw [Nat.div_div_eq_div_mul, Nat.div_div_eq_div_mul, ← Nat.pow_succ]; exact he
    rw [show ((i + 1 : Nat) : Int) - 1 = (i : Int) by omega]
    have d1 := rd_dgs (b := 65536) (n := m) (by omega) i
    have d2 := rd_dgs (b := 65536) (n := n) (by omega) i
    by_cases c1 : m / 65536 ^ i % 65536 < n / 65536 ^ i % 65536
    · rw [cmpV_lt (lt_of_div (cmp_lt e1 c1))]
      refine Ev.step (f := fun _ => some (-1)) (fun k => ?_) (Ev.now _)
      rw [heraldref04_Compare.l0, if_pos (by omega), if_pos (by omega), if_pos (by omega), if_pos (by omega), d1, d2, if_pos (by omega)]
    · by_cases c2 : n / 65536 ^ i % 65536 < m / 65536 ^ i % 65536
      · rw [cmpV_gt (lt_of_div (cmp_lt e1.symm c2))]
        refine Ev.step (f := fun _ => some 1) (fun k => ?_) (Ev.now _)
        rw [heraldref04_Compare.l0, if_pos (by omega), if_pos (by omega), if_pos (by omega), if_pos (by omega), d1, d2, if_neg (by omega), if_pos (by omega)]
      · have e2 := cmp_eq e1 (show m / 65536 ^ i % 65536 = n / 65536 ^ i % 65536 by omega)
        refine Ev.step (fun k => ?_) (ih (by omega) e2)
        rw [heraldref04_Compare.l0, if_pos (by omega), if_pos (by omega), if_pos (by omega), if_pos (by omega), d1, d2, if_neg (by omega), if_neg (by omega), wrap_in (by omega) (by omega)]
theorem rcmp_ev (m n : Nat) (h1 : (dgs 65536 m).length ≤ 1000000000) (h2 : (dgs 65536 n).length ≤ 1000000000) : Ev (fun k => heraldref04_Compare.f k (dgs 65536 m) (dgs 65536 n)) (cmpV m n) := by
  by_cases c1 : (dgs 65536 m).length < (dgs 65536 n).length
  · rw [cmpV_lt (lt_of_len (by omega) c1)]
    refine Ev.congr (fun k => ?_) (Ev.now _)
    unfold heraldref04_Compare.f; rw [if_neg (by omega), if_pos (by omega)]
  · by_cases c2 : (dgs 65536 n).length < (dgs 65536 m).length
    · rw [cmpV_gt (lt_of_len (by omega) c2)]
      refine Ev.congr (fun k => ?_) (Ev.now _)
      unfold heraldref04_Compare.f; rw [if_neg (by omega), if_neg (by omega)]
    · have he : m / 65536 ^ (dgs 65536 m).length = n / 65536 ^ (dgs 65536 m).length := by
        rw [Nat.div_eq_of_lt (lt_pow_len (by omega)), show (dgs 65536 m).length = (dgs 65536 n).length by omega, Nat.div_eq_of_lt (lt_pow_len (by omega))]
      refine Ev.congr (fun k => ?_) (rcmp_loop m n (dgs 65536 m).length rfl (by omega) (by omega) (dgs 65536 m).length (Nat.le_refl _) he)
      unfold heraldref04_Compare.f; rw [if_pos (by omega), wrap_in (by omega) (by omega)]
/-- It as an int64. -/
theorem top_step (b n i : Nat) : n / b ^ i = b * (n / b ^ (i + 1)) + n / b ^ i % b := by
  rw [Nat.pow_succ, ← Nat.div_div_eq_div_mul]; exact (Nat.div_add_mod _ _).symm
theorem int_loop (n : Nat) (hn : n < 9223372036854775808) (hL : (dgs 4294967296 n).length ≤ 1000000000) : ∀ i : Nat, i ≤ (dgs 4294967296 n).length → Ev (fun k => nat_Nat_Int.l0 k ((n / 4294967296 ^ i : Nat) : Int) ((i : Int) - 1) (dgs 4294967296 n)) ((n : Int), true) := by
  intro i
  induction i with
  | zero =>
    intro _
    refine Ev.step (f := fun _ => some ((n : Int), true)) (fun k => ?_) (Ev.now _)
    rw [nat_Nat_Int.l0, if_neg (by omega), Nat.pow_zero, Nat.div_one]
  | succ i ih =>
    intro hi
    have ts := top_step 4294967296 n i
    have hd := Nat.mod_lt (n / 4294967296 ^ i) (show 0 < 4294967296 by omega)
    have hle : n / 4294967296 ^ i ≤ n := Nat.div_le_self _ _
    refine Ev.step (fun k => ?_) (ih (by omega))
    rw [nat_Nat_Int.l0, if_pos (by omega), if_pos (by omega), if_pos (by omega), show ((i + 1 : Nat) : Int) - 1 = (i : Int) by omega, rd_dgs (by omega), wrap_in (a := (i : Int) - 1) (by omega) (by omega)]
    generalize n / 4294967296 ^ i % 4294967296 = D at *
    generalize n / 4294967296 ^ (i + 1) = Q at *
    generalize n / 4294967296 ^ i = M at *
    have o := ori64 (s := 32) (a := Q) (c := D) (by omega) (by omega)
    rw [wrap_in (a := (Q : Int) * 4294967296) (by omega) (by omega), wrap_in (a := (D : Int)) (by omega) (by omega), show (Q : Int) * 4294967296 = ((2 ^ 32 * Q : Nat) : Int) by omega, o, show 2 ^ 32 * Q + D = M by omega]
theorem int_ev (n : Nat) (hL : (dgs 4294967296 n).length ≤ 1000000000) : Ev (fun k => nat_Nat_Int.f k (dgs 4294967296 n)) (if bl n ≤ 63 then ((n : Int), true) else (0, false)) := by
  have hb := bits_some (n := n) (by omega)
  by_cases c : bl n ≤ 63
  · have hn : n < 9223372036854775808 := bl_le.mp c
    rw [if_pos c]
    have h := int_loop n hn hL (dgs 4294967296 n).length (Nat.le_refl _)
    rw [Nat.div_eq_of_lt (lt_pow_len (by omega))] at h
    refine Ev.congr (fun k => ?_) h
    unfold nat_Nat_Int.f
    rw [hb, Option.bind_some, if_neg (by omega), wrap_in (by omega) (by omega)]
    rfl
  · rw [if_neg c]
    refine Ev.congr (fun k => ?_) (Ev.now _)
    unfold nat_Nat_Int.f
    rw [hb, Option.bind_some, if_pos (by omega)]
theorem rint_loop (n : Nat) (hn : n < 9223372036854775808) (hL : (dgs 65536 n).length ≤ 1000000000) : ∀ i : Nat, i ≤ (dgs 65536 n).length → Ev (fun k => heraldref04_Int.l0 k (dgs 65536 n) ((n / 65536 ^ i : Nat) : Int) ((i : Int) - 1)) ((n : Int), true) := by
  intro i
  induction i with
  | zero =>
    intro _
    refine Ev.step (f := fun _ => some ((n : Int), true)) (fun k => ?_) (Ev.now _)
    rw [heraldref04_Int.l0, if_neg (by omega), Nat.pow_zero, Nat.div_one]
  | succ i ih =>
    intro hi
    have ts := top_step 65536 n i
    have hd := Nat.mod_lt (n / 65536 ^ i) (show 0 < 65536 by omega)
    have hle : n / 65536 ^ i ≤ n := Nat.div_le_self _ _
    refine Ev.step (fun k => ?_) (ih (by omega))
    rw [heraldref04_Int.l0, if_pos (by omega), if_pos (by omega), if_pos (by omega), show ((i + 1 : Nat) : Int) - 1 = (i : Int) by omega, rd_dgs (by omega), wrap_in (a := (i : Int) - 1) (by omega) (by omega)]
    generalize n / 65536 ^ i % 65536 = D at *
    generalize n / 65536 ^ (i + 1) = Q at *
    generalize n / 65536 ^ i = M at *
    rw [wrap_in (a := (Q : Int) * 65536) (by omega) (by omega), wrap_in (by omega) (by omega), show (Q : Int) * 65536 + (D : Int) = (M : Int) by omega]
theorem rint_ev (n : Nat) (hL : (dgs 65536 n).length ≤ 1000000000) : Ev (fun k => heraldref04_Int.f k (dgs 65536 n)) (if bl n ≤ 63 then ((n : Int), true) else (0, false)) := by
  have hb := rbits_ev (n := n) (by omega)
  by_cases c : bl n ≤ 63
  · have hn : n < 9223372036854775808 := bl_le.mp c
    rw [if_pos c]
    have h := rint_loop n hn hL (dgs 65536 n).length (Nat.le_refl _)
    rw [Nat.div_eq_of_lt (lt_pow_len (by omega))] at h
    have q := hb.bind (f := fun k t392 => (if t392 > 63 then (some ((0 : Int), false)) else (heraldref04_Int.l0 k (dgs 65536 n) 0 (wrap64 (((dgs 65536 n).length : Int) - 1))))) (r := ((n : Int), true)) (Ev.congr (fun k => by rw [if_neg (by omega), wrap_in (by omega) (by omega)]; rfl) h)
    exact q
  · rw [if_neg c]
    exact hb.bind (f := fun k t392 => (if t392 > 63 then (some ((0 : Int), false)) else (heraldref04_Int.l0 k (dgs 65536 n) 0 (wrap64 (((dgs 65536 n).length : Int) - 1))))) (r := (0, false)) (Ev.congr (fun k => by rw [if_pos (by omega)]) (Ev.now _))
/-- The words of a number that a law is handed. -/
theorem words_val (l : List Int) (hd : Dg ((4294967296 : Nat) : Int) l) : ∃ v : Nat, vl ((4294967296 : Nat) : Int) l = v := Int.eq_ofNat_of_zero_le (vl_nonneg (by omega) hd)
theorem looks_j2 (m n : Nat) (h1 : bl m ≤ 65536) (h2 : bl n ≤ 65536) : Ev (fun k => heraldlaw04_NatLooks.j2 k (dgs 65536 m) (dgs 65536 n) false (dgs 4294967296 m) (dgs 4294967296 n)) true := by
  have lm := pd_len (n := m) (k := 2048) (by omega)
  have ln := pd_len (n := n) (k := 2048) (by omega)
  have rm := rg_len (n := m) (k := 4096) (by omega)
  have rn := rg_len (n := n) (k := 4096) (by omega)
  have q0 := (cmp_ev m m (by omega) (by omega)).bind (f := fun k t438 => (some (t438 == 0))) (r := true) (Ev.congr (fun k => by rw [cmpV_eq]; rfl) (Ev.now _))
  have q1 := (rcmp_ev m n (by omega) (by omega)).bind (f := fun k t437 => (if cmpV m n = t437 then ((nat_Nat_Compare.f k (dgs 4294967296 m) (dgs 4294967296 m)).bind fun t438 => (some (t438 == 0))) else (some false))) (r := true) (Ev.congr (fun k => by rw [if_pos rfl]) q0)
  have q2 := (cmp_ev m n (by omega) (by omega)).bind (f := fun k t436 => ((heraldref04_Compare.f k (dgs 65536 m) (dgs 65536 n)).bind fun t437 => (if t436 = t437 then ((nat_Nat_Compare.f k (dgs 4294967296 m) (dgs 4294967296 m)).bind fun t438 => (some (t438 == 0))) else (some false)))) q1
  refine Ev.step (fun k => ?_) q2
  rw [heraldlaw04_NatLooks.j2, if_neg (by decide)]
theorem looks_j1 (m n : Nat) (i : Int) (hi : i < 9223372036854775808) (h1 : bl m ≤ 65536) (h2 : bl n ≤ 65536) : Ev (fun k => heraldlaw04_NatLooks.j1 k i (dgs 65536 m) (dgs 65536 n) false (dgs 4294967296 m) (dgs 4294967296 n)) true := by
  have lm := pd_len (n := m) (k := 2048) (by omega)
  have ln := pd_len (n := n) (k := 2048) (by omega)
  have rm := rg_len (n := m) (k := 4096) (by omega)
  have rn := rg_len (n := n) (k := 4096) (by omega)
  obtain ⟨X, hX⟩ : ∃ X : Int × Bool, X = if bl m ≤ 63 then ((m : Int), true) else (0, false) := ⟨_, rfl⟩
  have i1 := int_ev m (by omega)
  have i2 := rint_ev m (by omega)
  rw [← hX] at i1 i2
  have q0 : Ev (fun k => (nat_Nat_Bit.f (dgs 4294967296 m) i).bind fun t434 => ((heraldref04_Bit.f (dgs 65536 m) i).bind fun t435 => (heraldlaw04_NatLooks.j2 k (dgs 65536 m) (dgs 65536 n) (t434 != t435) (dgs 4294967296 m) (dgs 4294967296 n)))) true := by
    refine Ev.congr (fun k => ?_) (looks_j2 m n h1 h2)
    rw [bit_some m i hi (by omega), rbit_some m i hi (by omega), Option.bind_some, Option.bind_some, bne_self_eq_false]
  have q1 := (rbits_ev (n := m) (by omega)).bind (f := fun k t433 => (if ((bl m : Nat) : Int) = t433 then ((nat_Nat_Bit.f (dgs 4294967296 m) i).bind fun t434 => ((heraldref04_Bit.f (dgs 65536 m) i).bind fun t435 => (heraldlaw04_NatLooks.j2 k (dgs 65536 m) (dgs 65536 n) (t434 != t435) (dgs 4294967296 m) (dgs 4294967296 n)))) else (heraldlaw04_NatLooks.j2 k (dgs 65536 m) (dgs 65536 n) true (dgs 4294967296 m) (dgs 4294967296 n)))) (r := true) (Ev.congr (fun k => by rw [if_pos rfl]) q0)
  have q2 : Ev (fun k => (nat_Nat_Bits.f (dgs 4294967296 m)).bind fun t432 => ((heraldref04_Bits.f k (dgs 65536 m)).bind fun t433 => (if t432 = t433 then ((nat_Nat_Bit.f (dgs 4294967296 m) i).bind fun t434 => ((heraldref04_Bit.f (dgs 65536 m) i).bind fun t435 => (heraldlaw04_NatLooks.j2 k (dgs 65536 m) (dgs 65536 n) (t434 != t435) (dgs 4294967296 m) (dgs 4294967296 n)))) else (heraldlaw04_NatLooks.j2 k (dgs 65536 m) (dgs 65536 n) true (dgs 4294967296 m) (dgs 4294967296 n))))) true :=
    Ev.congr (fun k => by rw [bits_some (by omega), Option.bind_some]) q1
  have q3 := (rtext_ev (n := m) (by omega)).bind (f := fun k t431 => (if (dec m).toList = t431.toList then ((nat_Nat_Bits.f (dgs 4294967296 m)).bind fun t432 => ((heraldref04_Bits.f k (dgs 65536 m)).bind fun t433 => (if t432 = t433 then ((nat_Nat_Bit.f (dgs 4294967296 m) i).bind fun t434 => ((heraldref04_Bit.f (dgs 65536 m) i).bind fun t435 => (heraldlaw04_NatLooks.j2 k (dgs 65536 m) (dgs 65536 n) (t434 != t435) (dgs 4294967296 m) (dgs 4294967296 n)))) else (heraldlaw04_NatLooks.j2 k (dgs 65536 m) (dgs 65536 n) true (dgs 4294967296 m) (dgs 4294967296 n))))) else (heraldlaw04_NatLooks.j2 k (dgs 65536 m) (dgs 65536 n) true (dgs 4294967296 m) (dgs 4294967296 n)))) (r := true) (Ev.congr (fun k => by rw [if_pos rfl]) q2)
  have q4 := (text_ev (n := m) (by omega)).bind (f := fun k t430 => ((heraldref04_Text.f k (dgs 65536 m)).bind fun t431 => (if t430.toList = t431.toList then ((nat_Nat_Bits.f (dgs 4294967296 m)).bind fun t432 => ((heraldref04_Bits.f k (dgs 65536 m)).bind fun t433 => (if t432 = t433 then ((nat_Nat_Bit.f (dgs 4294967296 m) i).bind fun t434 => ((heraldref04_Bit.f (dgs 65536 m) i).bind fun t435 => (heraldlaw04_NatLooks.j2 k (dgs 65536 m) (dgs 65536 n) (t434 != t435) (dgs 4294967296 m) (dgs 4294967296 n)))) else (heraldlaw04_NatLooks.j2 k (dgs 65536 m) (dgs 65536 n) true (dgs 4294967296 m) (dgs 4294967296 n))))) else (heraldlaw04_NatLooks.j2 k (dgs 65536 m) (dgs 65536 n) true (dgs 4294967296 m) (dgs 4294967296 n))))) q3
  have q5 := i2.bind (f := fun k bt428 => (if X.1 = bt428.1 then (if (X.2 != bt428.2) = true then (heraldlaw04_NatLooks.j2 k (dgs 65536 m) (dgs 65536 n) true (dgs 4294967296 m) (dgs 4294967296 n)) else ((nat_Nat_Text.f k (dgs 4294967296 m)).bind fun t430 => ((heraldref04_Text.f k (dgs 65536 m)).bind fun t431 => (if t430.toList = t431.toList then ((nat_Nat_Bits.f (dgs 4294967296 m)).bind fun t432 => ((heraldref04_Bits.f k (dgs 65536 m)).bind fun t433 => (if t432 = t433 then ((nat_Nat_Bit.f (dgs 4294967296 m) i).bind fun t434 => ((heraldref04_Bit.f (dgs 65536 m) i).bind fun t435 => (heraldlaw04_NatLooks.j2 k (dgs 65536 m) (dgs 65536 n) (t434 != t435) (dgs 4294967296 m) (dgs 4294967296 n)))) else (heraldlaw04_NatLooks.j2 k (dgs 65536 m) (dgs 65536 n) true (dgs 4294967296 m) (dgs 4294967296 n))))) else (heraldlaw04_NatLooks.j2 k (dgs 65536 m) (dgs 65536 n) true (dgs 4294967296 m) (dgs 4294967296 n)))))) else (heraldlaw04_NatLooks.j2 k (dgs 65536 m) (dgs 65536 n) true (dgs 4294967296 m) (dgs 4294967296 n)))) (r := true) (Ev.congr (fun k => by rw [if_pos rfl, bne_self_eq_false, if_neg (by decide)]) q4)
  have q6 := i1.bind (f := fun k bt426 => ((heraldref04_Int.f k (dgs 65536 m)).bind fun bt428 => (if bt426.1 = bt428.1 then (if (bt426.2 != bt428.2) = true then (heraldlaw04_NatLooks.j2 k (dgs 65536 m) (dgs 65536 n) true (dgs 4294967296 m) (dgs 4294967296 n)) else ((nat_Nat_Text.f k (dgs 4294967296 m)).bind fun t430 => ((heraldref04_Text.f k (dgs 65536 m)).bind fun t431 => (if t430.toList = t431.toList then ((nat_Nat_Bits.f (dgs 4294967296 m)).bind fun t432 => ((heraldref04_Bits.f k (dgs 65536 m)).bind fun t433 => (if t432 = t433 then ((nat_Nat_Bit.f (dgs 4294967296 m) i).bind fun t434 => ((heraldref04_Bit.f (dgs 65536 m) i).bind fun t435 => (heraldlaw04_NatLooks.j2 k (dgs 65536 m) (dgs 65536 n) (t434 != t435) (dgs 4294967296 m) (dgs 4294967296 n)))) else (heraldlaw04_NatLooks.j2 k (dgs 65536 m) (dgs 65536 n) true (dgs 4294967296 m) (dgs 4294967296 n))))) else (heraldlaw04_NatLooks.j2 k (dgs 65536 m) (dgs 65536 n) true (dgs 4294967296 m) (dgs 4294967296 n)))))) else (heraldlaw04_NatLooks.j2 k (dgs 65536 m) (dgs 65536 n) true (dgs 4294967296 m) (dgs 4294967296 n))))) q5
  refine Ev.step (fun k => ?_) q6
  rw [heraldlaw04_NatLooks.j1, if_neg (by decide)]
/-- What two numbers that are handed in come to, for any law that goes on by so. -/
theorem two_given (a b : List Int) (ha : Dg ((4294967296 : Nat) : Int) a) (hb : Dg ((4294967296 : Nat) : Int) b) (la : a.length ≤ 1048576) (lb : b.length ≤ 1048576) (G : Nat → (List Int × List Int × Bool × Bool) → (List Int × List Int × Bool × Bool) → Option Bool) (u v : Nat) (hu : vl ((4294967296 : Nat) : Int) a = u) (hv : vl ((4294967296 : Nat) : Int) b = v)
    (both : bl u ≤ 65536 → bl v ≤ 65536 → Ev (fun k => G k (dgs 65536 u, dgs 4294967296 u, true, true) (dgs 65536 v, dgs 4294967296 v, true, true)) true)
    (one : ∀ (x y : List Int) (p q : Bool), (p = false ∨ q = false) → Ev (fun k => G k (dgs 65536 u, x, p, true) (dgs 65536 v, y, q, true)) true) :
    Ev (fun k => (heraldlaw04_given.f k a).bind fun x => (heraldlaw04_given.f k b).bind fun y => G k x y) true := by
  by_cases g1 : bl u ≤ 65536
  · by_cases g2 : bl v ≤ 65536
    · exact (given_fit a u ha la hu g1).bind (f := fun k x => (heraldlaw04_given.f k b).bind fun y => G k x y) ((given_fit b v hb lb hv g2).bind (f := fun k y => G k (dgs 65536 u, dgs 4294967296 u, true, true) y) (both g1 g2))
    · exact (given_fit a u ha la hu g1).bind (f := fun k x => (heraldlaw04_given.f k b).bind fun y => G k x y) ((given_big b v hb lb hv g2).bind (f := fun k y => G k (dgs 65536 u, dgs 4294967296 u, true, true) y) (one _ _ _ _ (.inr rfl)))
  · by_cases g2 : bl v ≤ 65536
    · exact (given_big a u ha la hu g1).bind (f := fun k x => (heraldlaw04_given.f k b).bind fun y => G k x y) ((given_fit b v hb lb hv g2).bind (f := fun k y => G k (dgs 65536 u, [], false, true) y) (one _ _ _ _ (.inl rfl)))
    · exact (given_big a u ha la hu g1).bind (f := fun k x => (heraldlaw04_given.f k b).bind fun y => G k x y) ((given_big b v hb lb hv g2).bind (f := fun k y => G k (dgs 65536 u, [], false, true) y) (one _ _ _ _ (.inl rfl)))
theorem NatLooks_ev (a b : List Int) (i : Int) (hi : i < 9223372036854775808) (ha : Dg ((4294967296 : Nat) : Int) a) (hb : Dg ((4294967296 : Nat) : Int) b) (la : a.length ≤ 1048576) (lb : b.length ≤ 1048576) : Ev (fun k => heraldlaw04_NatLooks.f k a b i) true := by
  obtain ⟨u, hu⟩ := words_val a ha
  obtain ⟨v, hv⟩ := words_val b hb
  refine two_given a b ha hb la lb (fun k bt407 bt416 => ((heraldlaw04_awake.f k).bind fun t425 => (if t425 = true then (if bt407.2.2.2 = true then (heraldlaw04_NatLooks.j0 k i bt407.1 bt407.2.2.1 bt416.1 bt416.2.2.1 (!bt416.2.2.2) bt407.2.1 bt416.2.1) else (heraldlaw04_NatLooks.j0 k i bt407.1 bt407.2.2.1 bt416.1 bt416.2.2.1 true bt407.2.1 bt416.2.1)) else (heraldlaw04_NatLooks.j0 k i bt407.1 bt407.2.2.1 bt416.1 bt416.2.2.1 true bt407.2.1 bt416.2.1)))) u v hu hv ?_ ?_
  · intro g1 g2
    have q0 : Ev (fun k => heraldlaw04_NatLooks.j0 k i (dgs 65536 u) true (dgs 65536 v) true false (dgs 4294967296 u) (dgs 4294967296 v)) true := by
      refine Ev.step (fun k => ?_) (looks_j1 u v i hi g1 g2)
      rw [heraldlaw04_NatLooks.j0, if_neg (by decide), if_pos rfl]
      rfl
    exact awake_ev.bind (f := fun k t425 => (if t425 = true then (if true = true then (heraldlaw04_NatLooks.j0 k i (dgs 65536 u) true (dgs 65536 v) true (!true) (dgs 4294967296 u) (dgs 4294967296 v)) else (heraldlaw04_NatLooks.j0 k i (dgs 65536 u) true (dgs 65536 v) true true (dgs 4294967296 u) (dgs 4294967296 v))) else (heraldlaw04_NatLooks.j0 k i (dgs 65536 u) true (dgs 65536 v) true true (dgs 4294967296 u) (dgs 4294967296 v)))) (r := true) (Ev.congr (fun k => by rw [if_pos rfl, if_pos rfl]; rfl) q0)
  · intro x y p q hpq
    have jt : Ev (fun k => heraldlaw04_NatLooks.j1 k i (dgs 65536 u) (dgs 65536 v) true x y) true := by
      refine Ev.step (f := fun _ => some true) (fun k => ?_) (Ev.now _)
      rw [heraldlaw04_NatLooks.j1, if_pos rfl]
    have q0 : Ev (fun k => heraldlaw04_NatLooks.j0 k i (dgs 65536 u) p (dgs 65536 v) q false x y) true := by
      refine Ev.step (fun k => ?_) jt
      rw [heraldlaw04_NatLooks.j0, if_neg (by decide)]
      cases p with
      | false => rw [if_neg (by decide)]
      | true =>
        obtain rfl : q = false := hpq.resolve_left (by decide)
        rw [if_pos rfl]
        rfl
    exact awake_ev.bind (f := fun k t425 => (if t425 = true then (if true = true then (heraldlaw04_NatLooks.j0 k i (dgs 65536 u) p (dgs 65536 v) q (!true) x y) else (heraldlaw04_NatLooks.j0 k i (dgs 65536 u) p (dgs 65536 v) q true x y)) else (heraldlaw04_NatLooks.j0 k i (dgs 65536 u) p (dgs 65536 v) q true x y))) (r := true) (Ev.congr (fun k => by rw [if_pos rfl, if_pos rfl]; rfl) q0)
theorem dg_wf (l : List Int) (h : ∀ x ∈ l, (Lit.int .u32 x).wf = true) : Dg ((4294967296 : Nat) : Int) l := fun x hx => by have := wf_u32 (h x hx); omega
end Go.Proofs.YtgcngbmkgjphpaaDoor.Nums
end

section
namespace Go.Proofs.YtgcngbmkgjphpaaDoor.Pure
open Go.RowKit Go.Proofs.YtgcngbmkgjphpaaDoor.PAll Go.Proofs.YtgcngbmkgjphpaaDoor.Nums Go.Proofs.YtgcngbmkgjphpaaDoorW.PrintWords
theorem NatLooks (l0 l1 : List Int) (a2 : Int) (h0 : l0.length ≤ 1048576) (hw0 : ∀ x ∈ l0, (Lit.int .u32 x).wf = true) (h1 : l1.length ≤ 1048576) (hw1 : ∀ x ∈ l1, (Lit.int .u32 x).wf = true) (h2 : (Lit.int .i64 a2).wf = true) : ∃ k, heraldlaw04_NatLooks.f k l0 l1 a2 = some true :=
  (NatLooks_ev l0 l1 a2 (wf_i64 h2).2 (dg_wf l0 hw0) (dg_wf l1 hw1) h0 h1).rounds
end Go.Proofs.YtgcngbmkgjphpaaDoor.Pure
end
