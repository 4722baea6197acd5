/- Texts of this session and printed texts, merged, what is not needed left out: PAllx34. -/
import Derived.Test.YtgcngbmkgjphpaaDoorNpH0
import Derived.Test.YtgcngbmkgjphpaaDoorNpH1
import Derived.Test.YtgcngbmkgjphpaaDoorNpH2
import Derived.Test.YtgcngbmkgjphpaaDoorNpH3
section
namespace Go.Proofs.YtgcngbmkgjphpaaDoor.PAll
open Go.RowKit Go.Proofs.YtgcngbmkgjphpaaDoorW.PrintWords Go.Proofs.YtgcngbmkgjphpaaDoorW.PrintLast Go.Proofs.YtgcngbmkgjphpaaDoorW.PrintMore
attribute [local go_sem] max2_int min2_int max_two min_two max_three min_three max_four min_four   -- for this text's walks alone
set_option linter.unusedVariables false
set_option linter.unusedSimpArgs false
mutual
def heraldlaw04_NatRing.j0 : Nat → Bool → List Int → List Int → List Int → Option (Bool)
 | 0, _, _, _, _ => none
 | k + 1, x71, x705000, x714000, x723000 => if x71 = true then (some false) else ((nat_Nat_Add.f k x705000 x714000).bind fun bt724 => ((nat_Nat_Add.f k x714000 x705000).bind fun bt729 => (if bt724.2 = bt729.2 then ((nat_Nat_Compare.f k bt724.1 bt729.1).bind fun t734 => (heraldlaw04_NatRing.j1 k bt724.2 (t734 != 0) x705000 x714000 x723000 bt724.1)) else (heraldlaw04_NatRing.j1 k bt724.2 true x705000 x714000 x723000 bt724.1))))
def heraldlaw04_NatRing.j1 : Nat → Int → Bool → List Int → List Int → List Int → List Int → Option (Bool)
 | 0, _, _, _, _, _, _ => none
 | k + 1, x20, x92, x705000, x714000, x723000, x729000 => if x92 = true then (some false) else (if x20 = 0 then ((nat_Nat_Sub.f k x729000 x714000).bind fun bt735 => (if bt735.2 = 0 then ((nat_Nat_Compare.f k bt735.1 x705000).bind fun t740 => (heraldlaw04_NatRing.j2 k x20 (t740 != 0) x705000 x714000 x723000 x729000)) else (heraldlaw04_NatRing.j2 k x20 true x705000 x714000 x723000 x729000))) else (heraldlaw04_NatRing.j3 k x20 x705000 x714000 x723000 x729000))
def heraldlaw04_NatRing.j3 : Nat → Int → List Int → List Int → List Int → List Int → Option (Bool)
 | 0, _, _, _, _, _ => none
 | k + 1, x20, x705000, x714000, x723000, x729000 => (nat_Nat_Mul.f k x705000 x723000).bind fun bt741 => ((nat_Nat_Mul.f k x714000 x723000).bind fun bt746 => ((nat_Nat_Mul.f k x729000 x723000).bind fun bt751 => (if x20 = 0 then (if bt741.2 = 0 then (heraldlaw04_NatRing.j4 k bt751.2 (bt746.2 == 0) x705000 x714000 bt741.1 bt746.1 bt751.1) else (heraldlaw04_NatRing.j4 k bt751.2 false x705000 x714000 bt741.1 bt746.1 bt751.1)) else (heraldlaw04_NatRing.j4 k bt751.2 false x705000 x714000 bt741.1 bt746.1 bt751.1))))
def heraldlaw04_NatRing.j4 : Nat → Int → Bool → List Int → List Int → List Int → List Int → List Int → Option (Bool)
 | 0, _, _, _, _, _, _, _ => none
 | k + 1, x30, x136, x705000, x714000, x746000, x751000, x756000 => if x136 = true then ((nat_Nat_Add.f k x746000 x751000).bind fun bt756 => (if bt756.2 = x30 then ((nat_Nat_Compare.f k bt756.1 x756000).bind fun t761 => (heraldlaw04_NatRing.j5 k (t761 != 0) x705000 x714000)) else (heraldlaw04_NatRing.j5 k true x705000 x714000))) else (heraldlaw04_NatRing.j6 k x705000 x714000)
def heraldlaw04_NatRing.j6 : Nat → List Int → List Int → Option (Bool)
 | 0, _, _ => none
 | k + 1, x705000, x714000 => (nat_Nat_Mul.f k x705000 x714000).bind fun bt762 => ((nat_Nat_Mul.f k x714000 x705000).bind fun bt767 => (if bt762.2 = bt767.2 then ((nat_Nat_Compare.f k bt762.1 bt767.1).bind fun t772 => (heraldlaw04_NatRing.j7 k (t772 != 0) x705000)) else (heraldlaw04_NatRing.j7 k true x705000)))
def heraldlaw04_NatRing.j7 : Nat → Bool → List Int → Option (Bool)
 | 0, _, _ => none
 | k + 1, x172, x705000 => if x172 = true then (some false) else ((nat_Nat_Mul.f k x705000 x705000).bind fun bt773 => ((nat_Nat_Power.f k x705000 2).bind fun bt778 => (if bt773.2 = bt778.2 then ((nat_Nat_Compare.f k bt773.1 bt778.1).bind fun t783 => (some (t783 == 0))) else (some false))))
def heraldlaw04_NatRing.j5 : Nat → Bool → List Int → List Int → Option (Bool)
 | 0, _, _, _ => none
 | k + 1, x151, x705000, x714000 => if x151 = true then (some false) else (heraldlaw04_NatRing.j6 k x705000 x714000)
def heraldlaw04_NatRing.j2 : Nat → Int → Bool → List Int → List Int → List Int → List Int → Option (Bool)
 | 0, _, _, _, _, _, _ => none
 | k + 1, x20, x108, x705000, x714000, x723000, x729000 => if x108 = true then (some false) else (heraldlaw04_NatRing.j3 k x20 x705000 x714000 x723000 x729000)
end
def heraldlaw04_NatRing.f (k : Nat) (l0 : List Int) (l1 : List Int) (l2 : List Int) : Option (Bool) := (heraldlaw04_given.f k l0).bind fun bt696 => ((heraldlaw04_given.f k l1).bind fun bt705 => ((heraldlaw04_given.f k l2).bind fun bt714 => ((heraldlaw04_awake.f k).bind fun t723 => (if t723 = true then (if bt696.2.2.2 = true then (if bt705.2.2.2 = true then (heraldlaw04_NatRing.j0 k (!bt714.2.2.2) bt696.2.1 bt705.2.1 bt714.2.1) else (heraldlaw04_NatRing.j0 k true bt696.2.1 bt705.2.1 bt714.2.1)) else (heraldlaw04_NatRing.j0 k true bt696.2.1 bt705.2.1 bt714.2.1)) else (heraldlaw04_NatRing.j0 k true bt696.2.1 bt705.2.1 bt714.2.1)))))
set_option maxHeartbeats 8000000 in
set_option maxRecDepth 100000 in
theorem heraldlaw04_NatRing.calls (k : Nat) (A0 : Option Addr) (c0 : Nat) (l0 : List Int) (A1 : Option Addr) (c1 : Nat) (l1 : List Int) (A2 : Option Addr) (c2 : Nat) (l2 : List Int) (r : Bool) (w : World) (hr0 : Kd.C (Kd.int .u32) w A0 l0.length l0) (hc0 : l0.length ≤ c0) (hr1 : Kd.C (Kd.int .u32) w A1 l1.length l1) (hc1 : l1.length ≤ c1) (hr2 : Kd.C (Kd.int .u32) w A2 l2.length l2) (hc2 : l2.length ≤ c2) (h : heraldlaw04_NatRing.f k l0 l1 l2 = some r) :
  Calls Tryd.prog 9 #[.slice A0 l0.length c0, .slice A1 l1.length c1, .slice A2 l2.length c2] w fun e w' => e = .returned (.bool r) ∧ Below w.heap.size w w' := by
 have hu26 := Tryd.underlying26
 have HR0 := Aside0.mk hr0
 have HC0 := Aside0.mk hc0
 clear hr0 hc0
 have HR1 := Aside0.mk hr1
 have HC1 := Aside0.mk hc1
 clear hr1 hc1
 have HR2 := Aside0.mk hr2
 have HC2 := Aside0.mk hc2
 clear hr2 hc2
 have HB := Aside0.mk (Below.refl w.heap.size w)
 have H : ((heraldlaw04_given.f k l0).bind fun bt696 => ((heraldlaw04_given.f k l1).bind fun bt705 => ((heraldlaw04_given.f k l2).bind fun bt714 => ((heraldlaw04_awake.f k).bind fun t723 => (if t723 = true then (if bt696.2.2.2 = true then (if bt705.2.2.2 = true then (heraldlaw04_NatRing.j0 k (!bt714.2.2.2) bt696.2.1 bt705.2.1 bt714.2.1) else (heraldlaw04_NatRing.j0 k true bt696.2.1 bt705.2.1 bt714.2.1)) else (heraldlaw04_NatRing.j0 k true bt696.2.1 bt705.2.1 bt714.2.1)) else (heraldlaw04_NatRing.j0 k true bt696.2.1 bt705.2.1 bt714.2.1)))))) = some r := h
 clear h
 replace H := Option.bind_eq_some_iff.mp H
 obtain ⟨⟨t696, t699, t702, t703⟩, A40, H⟩ := H
 replace H : ((heraldlaw04_given.f k l1).bind fun bt705 => ((heraldlaw04_given.f k l2).bind fun bt714 => ((heraldlaw04_awake.f k).bind fun t723 => (if t723 = true then (if t703 = true then (if bt705.2.2.2 = true then (heraldlaw04_NatRing.j0 k (!bt714.2.2.2) t699 bt705.2.1 bt714.2.1) else (heraldlaw04_NatRing.j0 k true t699 bt705.2.1 bt714.2.1)) else (heraldlaw04_NatRing.j0 k true t699 bt705.2.1 bt714.2.1)) else (heraldlaw04_NatRing.j0 k true t699 bt705.2.1 bt714.2.1))))) = some r := H
 have A4 := Aside0.mk A40
 clear A40
 replace H := Option.bind_eq_some_iff.mp H
 obtain ⟨⟨t705, t708, t711, t712⟩, A50, H⟩ := H
 replace H : ((heraldlaw04_given.f k l2).bind fun bt714 => ((heraldlaw04_awake.f k).bind fun t723 => (if t723 = true then (if t703 = true then (if t712 = true then (heraldlaw04_NatRing.j0 k (!bt714.2.2.2) t699 t708 bt714.2.1) else (heraldlaw04_NatRing.j0 k true t699 t708 bt714.2.1)) else (heraldlaw04_NatRing.j0 k true t699 t708 bt714.2.1)) else (heraldlaw04_NatRing.j0 k true t699 t708 bt714.2.1)))) = some r := H
 have A5 := Aside0.mk A50
 clear A50
 replace H := Option.bind_eq_some_iff.mp H
 obtain ⟨⟨t714, t717, t720, t721⟩, A60, H⟩ := H
 replace H : ((heraldlaw04_awake.f k).bind fun t723 => (if t723 = true then (if t703 = true then (if t712 = true then (heraldlaw04_NatRing.j0 k (!t721) t699 t708 t717) else (heraldlaw04_NatRing.j0 k true t699 t708 t717)) else (heraldlaw04_NatRing.j0 k true t699 t708 t717)) else (heraldlaw04_NatRing.j0 k true t699 t708 t717))) = some r := H
 have A6 := Aside0.mk A60
 clear A60
 have HC7 := Aside0.mk H
 clear H
 go_enter Tryd.func9, Tryd.ntmps9
 go_upto_region 4 with (first | ((with_reducible refine gate_callee (f := 21) rfl ?_); refine goesL_ (some 39) rfl rfl Tryd.func21 (by kernel_rfl) rfl #[.slice A0 l0.length c0] rfl (by (try simp only [List.map_toArray, List.map_cons, List.map_nil]); first | done | rfl | (simp only [List.length_drop, List.length_take]; rfl)) ?_; (with_reducible refine (heraldlaw04_given.calls k _ _ l0 t696 t699 t702 t703 _ ?side1 ?side2 A4.out).mono ?_); (case side1 => exact HR0.out); (case side2 => exact HC0.out); rintro e w8 ⟨v697, v700, rfl, ho0, ho1, hb⟩; refine ⟨_, rfl, ?_⟩; have HO698 := Aside0.mk (Kd.V_lower (Kd.V_mono (ok' := fun k_ => True) ho0 (fun k_ hk_ => trivial)) (below_size HB.out)); have HO701 := Aside0.mk (Kd.V_lower (Kd.V_mono (ok' := fun k_ => True) ho1 (fun k_ hk_ => trivial)) (below_size HB.out)); replace HB := Aside0.mk (below_step HB.out hb); (try clear hb); (try clear hk); (try clear hi); (try clear ho0); (try clear ho1)) | ((with_reducible refine gate_dst (N := 8) rfl ?_); refine box_event ?hg (N := 8) ?hd (cs := #[.slice none 0 0]) (t := 26) ?hr ?_; (case hd => rfl); (case hg => rfl); (case hr => first | (go_simp; done) | (go_simp; rfl)); intro gb704 hg w9 hbox hb; have BK704 := Aside0.mk (hbox); have GW704 := Aside0.mk ((by rw [hg]; exact (below_size HB.out) : w.heap.size ≤ gb704)); have GE704 := Aside0.mk ((by rw [hg]; exact (below_size HB.out) : w.heap.size ≤ gb704)); replace HO698 := ve HO698 gb704 hg hb; replace HO701 := ve HO701 gb704 hg hb; replace HB := Aside0.mk (below_step HB.out hb); clear hb hbox hg; obtain ⟨Ao10, co10, eo10⟩ := Kd.V_slice HO701.out; subst eo10; have hcz11_0 : w9.cell? ⟨gb704, 0, none⟩ = some (.slice none 0 0) := (blk_cell BK704.out 0).trans rfl; have hfz11_0 := blk_frozen BK704.out 0) | ((with_reducible refine gate_callee (f := 21) rfl ?_); refine goesL_ (some 46) rfl rfl Tryd.func21 (by kernel_rfl) rfl #[.slice A1 l1.length c1] rfl (by (try simp only [List.map_toArray, List.map_cons, List.map_nil]); first | done | rfl | (simp only [List.length_drop, List.length_take]; rfl)) ?_; (with_reducible refine (heraldlaw04_given.calls k _ _ l1 t705 t708 t711 t712 _ ?side1 ?side2 A5.out).mono ?_); (case side1 => exact Kd.C_below HR1.out (by repeat (first | exact HB.out | refine sb ?_ GE704))); (case side2 => exact HC1.out); rintro e w12 ⟨v706, v709, rfl, ho0, ho1, hb⟩; refine ⟨_, rfl, ?_⟩; have HO707 := Aside0.mk (Kd.V_lower (Kd.V_mono (ok' := fun k_ => k_ ≠ gb704) ho0 (fun k_ hk_ => (Kd.freshB (g := gb704) (o := .cells #[.slice Ao10 t699.length co10] 26 (0, 0)) (by refine blk_put (cs := #[.slice none 0 0]) ?_ 0 _ rfl; exact BK704.out) k_ hk_))) (below_size (by repeat (first | exact HB.out | refine sb ?_ GE704)))); have HO710 := Aside0.mk (Kd.V_lower (Kd.V_mono (ok' := fun k_ => k_ ≠ gb704) ho1 (fun k_ hk_ => (Kd.freshB (g := gb704) (o := .cells #[.slice Ao10 t699.length co10] 26 (0, 0)) (by refine blk_put (cs := #[.slice none 0 0]) ?_ 0 _ rfl; exact BK704.out) k_ hk_))) (below_size (by repeat (first | exact HB.out | refine sb ?_ GE704)))); replace HO698 := vf HO698 (fun k_ hk => hk.2) hb; replace HO701 := vf HO701 (fun k_ hk => hk.2) hb; replace BK704 := Aside0.mk (blk_below (g := gb704) (o := .cells #[.slice Ao10 t699.length co10] 26 (0, 0)) (by refine blk_put (cs := #[.slice none 0 0]) ?_ 0 _ rfl; exact BK704.out) hb); replace HB := Aside0.mk (below_step (by repeat (first | exact HB.out | refine sb ?_ GE704)) hb); (try clear hb); (try clear hk); (try clear hi); (try clear ho0); (try clear ho1)) | ((with_reducible refine gate_dst (N := 12) rfl ?_); refine box_event ?hg (N := 12) ?hd (cs := #[.slice none 0 0]) (t := 26) ?hr ?_; (case hd => rfl); (case hg => rfl); (case hr => first | (go_simp; done) | (go_simp; rfl)); intro gb713 hg w13 hbox hb; have BK713 := Aside0.mk (hbox); have GW713 := Aside0.mk ((by rw [hg]; exact (below_size (by repeat (first | exact HB.out | refine sb ?_ GE704))) : w.heap.size ≤ gb713)); have GE713 := Aside0.mk ((by rw [hg]; exact (below_size (by repeat (first | exact HB.out | refine sb ?_ GE704))) : w.heap.size ≤ gb713)); have NB704_713 := nl BK704 hg; have NB713_704 := ng BK704 hg; replace HO698 := ve HO698 gb713 hg hb; replace HO701 := ve HO701 gb713 hg hb; replace HO707 := ve HO707 gb713 hg hb; replace HO710 := ve HO710 gb713 hg hb; replace BK704 := bb BK704 hb; replace HB := Aside0.mk (below_step (by repeat (first | exact HB.out | refine sb ?_ GE704)) hb); clear hb hbox hg; obtain ⟨Ao14, co14, eo14⟩ := Kd.V_slice HO710.out; subst eo14; have hnb15 := NB713_704.out; have hnc15 := NB704_713.out; have hcz16_0 : w13.cell? ⟨gb713, 0, none⟩ = some (.slice none 0 0) := (blk_cell BK713.out 0).trans rfl; have hfz16_0 := blk_frozen BK713.out 0) | ((with_reducible refine gate_callee (f := 21) rfl ?_); refine goesL_ (some 53) rfl rfl Tryd.func21 (by kernel_rfl) rfl #[.slice A2 l2.length c2] rfl (by (try simp only [List.map_toArray, List.map_cons, List.map_nil]); first | done | rfl | (simp only [List.length_drop, List.length_take]; rfl)) ?_; (with_reducible refine (heraldlaw04_given.calls k _ _ l2 t714 t717 t720 t721 _ ?side1 ?side2 A6.out).mono ?_); (case side1 => exact Kd.C_below HR2.out (by repeat (first | exact HB.out | refine sb ?_ GE704 | refine sb ?_ GE713))); (case side2 => exact HC2.out); rintro e w17 ⟨v715, v718, rfl, ho0, ho1, hb⟩; refine ⟨_, rfl, ?_⟩; have HO716 := Aside0.mk (Kd.V_lower (Kd.V_mono (ok' := fun k_ => k_ ≠ gb704 ∧ k_ ≠ gb713) ho0 (fun k_ hk_ => ⟨(Kd.freshB (g := gb704) (o := .cells #[.slice Ao10 t699.length co10] 26 (0, 0)) (by refine blk_far ?_ NB704_713.out _; exact BK704.out) k_ hk_), (Kd.freshB (g := gb713) (o := .cells #[.slice Ao14 t708.length co14] 26 (0, 0)) (by refine blk_put (cs := #[.slice none 0 0]) ?_ 0 _ rfl; exact BK713.out) k_ hk_)⟩)) (below_size (by repeat (first | exact HB.out | refine sb ?_ GE704 | refine sb ?_ GE713)))); have HO719 := Aside0.mk (Kd.V_lower (Kd.V_mono (ok' := fun k_ => k_ ≠ gb704 ∧ k_ ≠ gb713) ho1 (fun k_ hk_ => ⟨(Kd.freshB (g := gb704) (o := .cells #[.slice Ao10 t699.length co10] 26 (0, 0)) (by refine blk_far ?_ NB704_713.out _; exact BK704.out) k_ hk_), (Kd.freshB (g := gb713) (o := .cells #[.slice Ao14 t708.length co14] 26 (0, 0)) (by refine blk_put (cs := #[.slice none 0 0]) ?_ 0 _ rfl; exact BK713.out) k_ hk_)⟩)) (below_size (by repeat (first | exact HB.out | refine sb ?_ GE704 | refine sb ?_ GE713)))); replace HO698 := vf HO698 (fun k_ hk => hk.2) hb; replace HO701 := vf HO701 (fun k_ hk => hk.2) hb; replace HO707 := vf HO707 (fun k_ hk => hk.2) hb; replace HO710 := vf HO710 (fun k_ hk => hk.2) hb; replace BK704 := bf BK704 NB704_713 hb; replace BK713 := Aside0.mk (blk_below (g := gb713) (o := .cells #[.slice Ao14 t708.length co14] 26 (0, 0)) (by refine blk_put (cs := #[.slice none 0 0]) ?_ 0 _ rfl; exact BK713.out) hb); replace HB := Aside0.mk (below_step (by repeat (first | exact HB.out | refine sb ?_ GE704 | refine sb ?_ GE713)) hb); (try clear hb); (try clear hk); (try clear hi); (try clear ho0); (try clear ho1)) | ((with_reducible refine gate_dst (N := 16) rfl ?_); refine box_event ?hg (N := 16) ?hd (cs := #[.slice none 0 0]) (t := 26) ?hr ?_; (case hd => rfl); (case hg => rfl); (case hr => first | (go_simp; done) | (go_simp; rfl)); intro gb722 hg w18 hbox hb; have BK722 := Aside0.mk (hbox); have GW722 := Aside0.mk ((by rw [hg]; exact (below_size (by repeat (first | exact HB.out | refine sb ?_ GE704 | refine sb ?_ GE713))) : w.heap.size ≤ gb722)); have GE722 := Aside0.mk ((by rw [hg]; exact (below_size (by repeat (first | exact HB.out | refine sb ?_ GE704 | refine sb ?_ GE713))) : w.heap.size ≤ gb722)); have NB704_722 := nl BK704 hg; have NB722_704 := ng BK704 hg; have NB713_722 := nl BK713 hg; have NB722_713 := ng BK713 hg; replace HO698 := ve HO698 gb722 hg hb; replace HO701 := ve HO701 gb722 hg hb; replace HO707 := ve HO707 gb722 hg hb; replace HO710 := ve HO710 gb722 hg hb; replace HO716 := ve HO716 gb722 hg hb; replace HO719 := ve HO719 gb722 hg hb; replace BK704 := bb BK704 hb; replace BK713 := bb BK713 hb; replace HB := Aside0.mk (below_step (by repeat (first | exact HB.out | refine sb ?_ GE704 | refine sb ?_ GE713)) hb); clear hb hbox hg; obtain ⟨Ao19, co19, eo19⟩ := Kd.V_slice HO719.out; subst eo19; have hnb20 := NB722_704.out; have hnc20 := NB704_722.out; have hnb21 := NB722_713.out; have hnc21 := NB713_722.out; have hcz22_0 : w18.cell? ⟨gb722, 0, none⟩ = some (.slice none 0 0) := (blk_cell BK722.out 0).trans rfl; have hfz22_0 := blk_frozen BK722.out 0))
 (try simp only [Act.put, List.setIfInBounds_toArray, List.set_cons_zero, List.set_cons_succ])
 go_cut [71] (fun v71 wc => ∃ (kq : Nat) (x71_6 : Bool), v71 = .bool x71_6 ∧ Aside0 (heraldlaw04_NatRing.j0 kq x71_6 t699 t708 t717 = some r) ∧ Aside0 (kq ≤ k) ∧ Aside0 (Kd.V (Kd.int .u32) 79 wc w.heap.size (fun k_ => k_ ≠ gb704 ∧ k_ ≠ gb713 ∧ k_ ≠ gb722) (.slice Ao10 t699.length co10) t699) ∧ Aside0 (Kd.V (Kd.int .u32) 79 wc w.heap.size (fun k_ => k_ ≠ gb704 ∧ k_ ≠ gb713 ∧ k_ ≠ gb722) (.slice Ao14 t708.length co14) t708) ∧ Aside0 (Kd.V (Kd.int .u32) 79 wc w.heap.size (fun k_ => k_ ≠ gb704 ∧ k_ ≠ gb713 ∧ k_ ≠ gb722) (.slice Ao19 t717.length co19) t717) ∧ Aside0 (wc.heap[gb704]? = some (.cells #[(.slice Ao10 t699.length co10)] 26 (0, 0))) ∧ Aside0 (wc.heap[gb713]? = some (.cells #[(.slice Ao14 t708.length co14)] 26 (0, 0))) ∧ Aside0 (wc.heap[gb722]? = some (.cells #[(.slice Ao19 t717.length co19)] 26 (0, 0))) ∧ Aside0 (Below w.heap.size w wc))
 case first =>
  have H := HC7.out
  clear HC7
  replace H := Option.bind_eq_some_iff.mp H
  obtain ⟨t723, A230, H⟩ := H
  replace H : (if t723 = true then (if t703 = true then (if t712 = true then (heraldlaw04_NatRing.j0 k (!t721) t699 t708 t717) else (heraldlaw04_NatRing.j0 k true t699 t708 t717)) else (heraldlaw04_NatRing.j0 k true t699 t708 t717)) else (heraldlaw04_NatRing.j0 k true t699 t708 t717)) = some r := H
  have A23 := Aside0.mk A230
  clear A230
  by_cases c24 : t723 = true
  ·subst c24
   have H1 : (if t703 = true then (if t712 = true then (heraldlaw04_NatRing.j0 k (!t721) t699 t708 t717) else (heraldlaw04_NatRing.j0 k true t699 t708 t717)) else (heraldlaw04_NatRing.j0 k true t699 t708 t717)) = some r := by rw [if_pos rfl] at H; exact H
   clear H
   have H := H1
   clear H1
   by_cases c25 : t703 = true
   ·subst c25
    have H1 : (if t712 = true then (heraldlaw04_NatRing.j0 k (!t721) t699 t708 t717) else (heraldlaw04_NatRing.j0 k true t699 t708 t717)) = some r := by rw [if_pos rfl] at H; exact H
    clear H
    have H := H1
    clear H1
    by_cases c26 : t712 = true
    ·subst c26
     have H1 : (heraldlaw04_NatRing.j0 k (!t721) t699 t708 t717) = some r := by rw [if_pos rfl] at H; exact H
     clear H
     have H := H1
     clear H1
     as_aux_lemma =>
      have H' := Aside0.mk H
      clear H
      go_wp2_with (first | ((with_reducible refine gate_callee (f := 12) rfl ?_); refine goesL_ (some 58) rfl rfl Tryd.func12 (by kernel_rfl) rfl #[] rfl (by (try simp only [List.map_toArray, List.map_cons, List.map_nil]); first | done | rfl | (simp only [List.length_drop, List.length_take]; rfl)) ?_; (with_reducible refine (heraldlaw04_awake.calls k  true _ A23.out).mono ?_); rintro e w27 ⟨rfl, hb⟩; refine ⟨_, rfl, ?_⟩; replace HO698 := vf HO698 (fun k_ hk => hk.2) hb; replace HO701 := vf HO701 (fun k_ hk => hk.2) hb; replace HO707 := vf HO707 (fun k_ hk => hk.2) hb; replace HO710 := vf HO710 (fun k_ hk => hk.2) hb; replace HO716 := vf HO716 (fun k_ hk => hk.2) hb; replace HO719 := vf HO719 (fun k_ hk => hk.2) hb; replace BK704 := bf BK704 NB704_722 hb; replace BK713 := bf BK713 NB713_722 hb; replace BK722 := Aside0.mk (blk_below (g := gb722) (o := .cells #[.slice Ao19 t717.length co19] 26 (0, 0)) (by refine blk_put (cs := #[.slice none 0 0]) ?_ 0 _ rfl; exact BK722.out) hb); replace HB := Aside0.mk (below_step (by repeat (first | exact HB.out | refine sb ?_ GE704 | refine sb ?_ GE713 | refine sb ?_ GE722)) hb); (try clear hb); (try clear hb2); (try clear hk); (try clear hi)))
      go_meet
      case rel => exact ⟨_, (!t721), (by first | rfl | (simp; done) | (simp [*]; done) | (simp [i64_w]; done) | (simp [*, i64_w]; done)), H', ⟨by first | omega | exact Nat.le_refl _⟩, ⟨by exact Kd.V_mono HO701.out (fun _ hk => ⟨hk.1.1.2, ⟨hk.1.2, hk.2⟩⟩)⟩, ⟨by exact Kd.V_mono HO710.out (fun _ hk => ⟨hk.1.1, ⟨hk.1.2, hk.2⟩⟩)⟩, ⟨by exact Kd.V_mono HO719.out (fun _ hk => ⟨hk.1.1, ⟨hk.1.2, hk.2⟩⟩)⟩, ⟨by exact BK704.out⟩, ⟨by exact BK713.out⟩, ⟨by exact BK722.out⟩, ⟨by repeat (first | exact HB.out | refine sb ?_ GE704 | refine sb ?_ GE713 | refine sb ?_ GE722)⟩⟩
    ·replace c26 := Bool.eq_false_iff.mpr c26
     subst c26
     have H1 : (heraldlaw04_NatRing.j0 k true t699 t708 t717) = some r := by rw [if_neg (show ¬ (false = true) by decide)] at H; exact H
     clear H
     have H := H1
     clear H1
     as_aux_lemma =>
      have H' := Aside0.mk H
      clear H
      go_wp2_with (first | ((with_reducible refine gate_callee (f := 12) rfl ?_); refine goesL_ (some 58) rfl rfl Tryd.func12 (by kernel_rfl) rfl #[] rfl (by (try simp only [List.map_toArray, List.map_cons, List.map_nil]); first | done | rfl | (simp only [List.length_drop, List.length_take]; rfl)) ?_; (with_reducible refine (heraldlaw04_awake.calls k  true _ A23.out).mono ?_); rintro e w28 ⟨rfl, hb⟩; refine ⟨_, rfl, ?_⟩; replace HO698 := vf HO698 (fun k_ hk => hk.2) hb; replace HO701 := vf HO701 (fun k_ hk => hk.2) hb; replace HO707 := vf HO707 (fun k_ hk => hk.2) hb; replace HO710 := vf HO710 (fun k_ hk => hk.2) hb; replace HO716 := vf HO716 (fun k_ hk => hk.2) hb; replace HO719 := vf HO719 (fun k_ hk => hk.2) hb; replace BK704 := bf BK704 NB704_722 hb; replace BK713 := bf BK713 NB713_722 hb; replace BK722 := Aside0.mk (blk_below (g := gb722) (o := .cells #[.slice Ao19 t717.length co19] 26 (0, 0)) (by refine blk_put (cs := #[.slice none 0 0]) ?_ 0 _ rfl; exact BK722.out) hb); replace HB := Aside0.mk (below_step (by repeat (first | exact HB.out | refine sb ?_ GE704 | refine sb ?_ GE713 | refine sb ?_ GE722)) hb); (try clear hb); (try clear hb2); (try clear hk); (try clear hi)))
      go_meet
      case rel => exact ⟨_, (true), (by first | rfl | (simp; done) | (simp [*]; done) | (simp [i64_w]; done) | (simp [*, i64_w]; done)), H', ⟨by first | omega | exact Nat.le_refl _⟩, ⟨by exact Kd.V_mono HO701.out (fun _ hk => ⟨hk.1.1.2, ⟨hk.1.2, hk.2⟩⟩)⟩, ⟨by exact Kd.V_mono HO710.out (fun _ hk => ⟨hk.1.1, ⟨hk.1.2, hk.2⟩⟩)⟩, ⟨by exact Kd.V_mono HO719.out (fun _ hk => ⟨hk.1.1, ⟨hk.1.2, hk.2⟩⟩)⟩, ⟨by exact BK704.out⟩, ⟨by exact BK713.out⟩, ⟨by exact BK722.out⟩, ⟨by repeat (first | exact HB.out | refine sb ?_ GE704 | refine sb ?_ GE713 | refine sb ?_ GE722)⟩⟩
   ·replace c25 := Bool.eq_false_iff.mpr c25
    subst c25
    have H1 : (heraldlaw04_NatRing.j0 k true t699 t708 t717) = some r := by rw [if_neg (show ¬ (false = true) by decide)] at H; exact H
    clear H
    have H := H1
    clear H1
    as_aux_lemma =>
     have H' := Aside0.mk H
     clear H
     go_wp2_with (first | ((with_reducible refine gate_callee (f := 12) rfl ?_); refine goesL_ (some 58) rfl rfl Tryd.func12 (by kernel_rfl) rfl #[] rfl (by (try simp only [List.map_toArray, List.map_cons, List.map_nil]); first | done | rfl | (simp only [List.length_drop, List.length_take]; rfl)) ?_; (with_reducible refine (heraldlaw04_awake.calls k  true _ A23.out).mono ?_); rintro e w29 ⟨rfl, hb⟩; refine ⟨_, rfl, ?_⟩; replace HO698 := vf HO698 (fun k_ hk => hk.2) hb; replace HO701 := vf HO701 (fun k_ hk => hk.2) hb; replace HO707 := vf HO707 (fun k_ hk => hk.2) hb; replace HO710 := vf HO710 (fun k_ hk => hk.2) hb; replace HO716 := vf HO716 (fun k_ hk => hk.2) hb; replace HO719 := vf HO719 (fun k_ hk => hk.2) hb; replace BK704 := bf BK704 NB704_722 hb; replace BK713 := bf BK713 NB713_722 hb; replace BK722 := Aside0.mk (blk_below (g := gb722) (o := .cells #[.slice Ao19 t717.length co19] 26 (0, 0)) (by refine blk_put (cs := #[.slice none 0 0]) ?_ 0 _ rfl; exact BK722.out) hb); replace HB := Aside0.mk (below_step (by repeat (first | exact HB.out | refine sb ?_ GE704 | refine sb ?_ GE713 | refine sb ?_ GE722)) hb); (try clear hb); (try clear hb2); (try clear hk); (try clear hi)))
     go_meet
     case rel => exact ⟨_, (true), (by first | rfl | (simp; done) | (simp [*]; done) | (simp [i64_w]; done) | (simp [*, i64_w]; done)), H', ⟨by first | omega | exact Nat.le_refl _⟩, ⟨by exact Kd.V_mono HO701.out (fun _ hk => ⟨hk.1.1.2, ⟨hk.1.2, hk.2⟩⟩)⟩, ⟨by exact Kd.V_mono HO710.out (fun _ hk => ⟨hk.1.1, ⟨hk.1.2, hk.2⟩⟩)⟩, ⟨by exact Kd.V_mono HO719.out (fun _ hk => ⟨hk.1.1, ⟨hk.1.2, hk.2⟩⟩)⟩, ⟨by exact BK704.out⟩, ⟨by exact BK713.out⟩, ⟨by exact BK722.out⟩, ⟨by repeat (first | exact HB.out | refine sb ?_ GE704 | refine sb ?_ GE713 | refine sb ?_ GE722)⟩⟩
  ·replace c24 := Bool.eq_false_iff.mpr c24
   subst c24
   have H1 : (heraldlaw04_NatRing.j0 k true t699 t708 t717) = some r := by rw [if_neg (show ¬ (false = true) by decide)] at H; exact H
   clear H
   have H := H1
   clear H1
   as_aux_lemma =>
    have H' := Aside0.mk H
    clear H
    go_wp2_with (first | ((with_reducible refine gate_callee (f := 12) rfl ?_); refine goesL_ (some 58) rfl rfl Tryd.func12 (by kernel_rfl) rfl #[] rfl (by (try simp only [List.map_toArray, List.map_cons, List.map_nil]); first | done | rfl | (simp only [List.length_drop, List.length_take]; rfl)) ?_; (with_reducible refine (heraldlaw04_awake.calls k  false _ A23.out).mono ?_); rintro e w30 ⟨rfl, hb⟩; refine ⟨_, rfl, ?_⟩; replace HO698 := vf HO698 (fun k_ hk => hk.2) hb; replace HO701 := vf HO701 (fun k_ hk => hk.2) hb; replace HO707 := vf HO707 (fun k_ hk => hk.2) hb; replace HO710 := vf HO710 (fun k_ hk => hk.2) hb; replace HO716 := vf HO716 (fun k_ hk => hk.2) hb; replace HO719 := vf HO719 (fun k_ hk => hk.2) hb; replace BK704 := bf BK704 NB704_722 hb; replace BK713 := bf BK713 NB713_722 hb; replace BK722 := Aside0.mk (blk_below (g := gb722) (o := .cells #[.slice Ao19 t717.length co19] 26 (0, 0)) (by refine blk_put (cs := #[.slice none 0 0]) ?_ 0 _ rfl; exact BK722.out) hb); replace HB := Aside0.mk (below_step (by repeat (first | exact HB.out | refine sb ?_ GE704 | refine sb ?_ GE713 | refine sb ?_ GE722)) hb); (try clear hb); (try clear hb2); (try clear hk); (try clear hi)))
    go_meet
    case rel => exact ⟨_, (true), (by first | rfl | (simp; done) | (simp [*]; done) | (simp [i64_w]; done) | (simp [*, i64_w]; done)), H', ⟨by first | omega | exact Nat.le_refl _⟩, ⟨by exact Kd.V_mono HO701.out (fun _ hk => ⟨hk.1.1.2, ⟨hk.1.2, hk.2⟩⟩)⟩, ⟨by exact Kd.V_mono HO710.out (fun _ hk => ⟨hk.1.1, ⟨hk.1.2, hk.2⟩⟩)⟩, ⟨by exact Kd.V_mono HO719.out (fun _ hk => ⟨hk.1.1, ⟨hk.1.2, hk.2⟩⟩)⟩, ⟨by exact BK704.out⟩, ⟨by exact BK713.out⟩, ⟨by exact BK722.out⟩, ⟨by repeat (first | exact HB.out | refine sb ?_ GE704 | refine sb ?_ GE713 | refine sb ?_ GE722)⟩⟩
 case rest =>
  clear HC7
  try clear c1
  try clear c2
  try clear p2
  try clear c9
  try clear c12
  try clear c15
  try clear c20
  try clear c21
  try clear c24
  try clear c25
  try clear c26
  try clear hcz11_0
  try clear hcz16_0
  try clear hcz22_0
  try clear hfz11_0
  try clear hfz16_0
  try clear hfz22_0
  obtain ⟨kq, x71_6, rfl, HA, HJ6, HO_705000, HO_714000, HO_723000, BK704, BK713, BK722, HB⟩ := hcut
  cases kq with
  | zero => exact absurd HA.out (by simp [heraldlaw04_NatRing.j0])
  | succ kj6 =>
   have H := HA.out
   clear HA
   simp only [heraldlaw04_NatRing.j0] at H
   by_cases c31 : x71_6 = true
   ·subst c31
    have H1 : (some false) = some r := by rw [if_pos rfl] at H; exact H
    clear H
    have H := H1
    clear H1
    as_aux_lemma =>
     obtain rfl := Option.some.inj H
     go_wp2
     go_ret
     exact ⟨by first | rfl | (simp [errW_none, errW_some] <;> rfl) | (simp [*, errW_none, errW_some] <;> rfl), by repeat (first | exact HB.out | refine sb ?_ GE704 | refine sb ?_ GE713 | refine sb ?_ GE722)⟩
   ·replace c31 := Bool.eq_false_iff.mpr c31
    subst c31
    have H1 : ((nat_Nat_Add.f kj6 t699 t708).bind fun bt724 => ((nat_Nat_Add.f kj6 t708 t699).bind fun bt729 => (if bt724.2 = bt729.2 then ((nat_Nat_Compare.f kj6 bt724.1 bt729.1).bind fun t734 => (heraldlaw04_NatRing.j1 kj6 bt724.2 (t734 != 0) t699 t708 t717 bt724.1)) else (heraldlaw04_NatRing.j1 kj6 bt724.2 true t699 t708 t717 bt724.1)))) = some r := by rw [if_neg (show ¬ (false = true) by decide)] at H; exact H
    clear H
    have H := H1
    clear H1
    replace H := Option.bind_eq_some_iff.mp H
    obtain ⟨⟨t724, t727⟩, A320, H⟩ := H
    replace H : ((nat_Nat_Add.f kj6 t708 t699).bind fun bt729 => (if t727 = bt729.2 then ((nat_Nat_Compare.f kj6 t724 bt729.1).bind fun t734 => (heraldlaw04_NatRing.j1 kj6 t727 (t734 != 0) t699 t708 t717 t724)) else (heraldlaw04_NatRing.j1 kj6 t727 true t699 t708 t717 t724))) = some r := H
    have A32 := Aside0.mk A320
    clear A320
    replace H := Option.bind_eq_some_iff.mp H
    obtain ⟨⟨t729, t732⟩, A330, H⟩ := H
    replace H : (if t727 = t732 then ((nat_Nat_Compare.f kj6 t724 t729).bind fun t734 => (heraldlaw04_NatRing.j1 kj6 t727 (t734 != 0) t699 t708 t717 t724)) else (heraldlaw04_NatRing.j1 kj6 t727 true t699 t708 t717 t724)) = some r := H
    have A33 := Aside0.mk A330
    clear A330
    have HC34 := Aside0.mk H
    clear H
    have hnb35 := NB704_713.out
    have hnc35 := NB713_704.out
    have hnb36 := NB704_722.out
    have hnc36 := NB722_704.out
    have hcz37_0 : wc.cell? ⟨gb704, 0, none⟩ = some (.slice Ao10 t699.length co10) := (blk_cell BK704.out 0).trans rfl
    have hfz37_0 := blk_frozen BK704.out 0
    have hnb38 := NB713_722.out
    have hnc38 := NB722_713.out
    have hcz39_0 : wc.cell? ⟨gb713, 0, none⟩ = some (.slice Ao14 t708.length co14) := (blk_cell BK713.out 0).trans rfl
    have hfz39_0 := blk_frozen BK713.out 0
    go_upto_region 8 with (first | ((with_reducible refine gate_callee (f := 33) rfl ?_); refine goesL_ (some 75) rfl rfl Tryd.func33 (by kernel_rfl) rfl #[.agg #[.slice Ao10 t699.length co10], .agg #[.slice Ao14 t708.length co14]] rfl (by (try simp only [List.map_toArray, List.map_cons, List.map_nil]); first | done | rfl | (simp only [List.length_drop, List.length_take]; rfl)) ?_; (with_reducible refine (nat_Nat_Add.calls kj6 _ _ t699 _ _ t708 t724 t727 _ ?side1 ?side2 ?side3 ?side4 A32.out).mono ?_); (case side1 => exact (Kd.V_reads' HO_705000.out).2.2); (case side2 => exact (Kd.V_reads' HO_705000.out).2.1); (case side3 => exact (Kd.V_reads' HO_714000.out).2.2); (case side4 => exact (Kd.V_reads' HO_714000.out).2.1); rintro e w40 ⟨v725, rfl, ho0, hb⟩; refine ⟨_, rfl, ?_⟩; have HO726 := Aside0.mk (Kd.V_lower (Kd.V_mono (ok' := fun k_ => k_ ≠ gb704 ∧ k_ ≠ gb713 ∧ k_ ≠ gb722) ho0 (fun k_ hk_ => ⟨(fb BK704 k_ hk_), (fb BK713 k_ hk_), (fb BK722 k_ hk_)⟩)) (below_size (by repeat (first | exact HB.out | refine sb ?_ GE704 | refine sb ?_ GE713 | refine sb ?_ GE722)))); replace HO_705000 := vb HO_705000 hb; replace HO_714000 := vb HO_714000 hb; replace HO_723000 := vb HO_723000 hb; replace BK704 := bb BK704 hb; replace BK713 := bb BK713 hb; replace BK722 := bb BK722 hb; replace HB := Aside0.mk (below_step (by repeat (first | exact HB.out | refine sb ?_ GE704 | refine sb ?_ GE713 | refine sb ?_ GE722)) hb); (try clear hb); (try clear hk); (try clear hi); (try clear ho0)) | ((with_reducible refine gate_dst (N := 19) rfl ?_); refine box_event ?hg (N := 19) ?hd (cs := #[.slice none 0 0]) (t := 26) ?hr ?_; (case hd => rfl); (case hg => rfl); (case hr => first | (go_simp; done) | (go_simp; rfl)); intro gb728 hg w41 hbox hb; have BK728 := Aside0.mk (hbox); have GW728 := Aside0.mk ((by rw [hg]; exact (below_size (by repeat (first | exact HB.out | refine sb ?_ GE704 | refine sb ?_ GE713 | refine sb ?_ GE722))) : w.heap.size ≤ gb728)); have GE728 := Aside0.mk ((by rw [hg]; exact (below_size (by repeat (first | exact HB.out | refine sb ?_ GE704 | refine sb ?_ GE713 | refine sb ?_ GE722))) : w.heap.size ≤ gb728)); have NB704_728 := nl BK704 hg; have NB728_704 := ng BK704 hg; have NB713_728 := nl BK713 hg; have NB728_713 := ng BK713 hg; have NB722_728 := nl BK722 hg; have NB728_722 := ng BK722 hg; replace HO_705000 := ve HO_705000 gb728 hg hb; replace HO_714000 := ve HO_714000 gb728 hg hb; replace HO_723000 := ve HO_723000 gb728 hg hb; replace HO726 := ve HO726 gb728 hg hb; replace BK704 := bb BK704 hb; replace BK713 := bb BK713 hb; replace BK722 := bb BK722 hb; replace HB := Aside0.mk (below_step (by repeat (first | exact HB.out | refine sb ?_ GE704 | refine sb ?_ GE713 | refine sb ?_ GE722)) hb); clear hb hbox hg; obtain ⟨Ao42, co42, eo42⟩ := Kd.V_slice HO726.out; subst eo42; have hnb43 := NB728_704.out; have hnc43 := NB704_728.out; have hnb44 := NB728_713.out; have hnc44 := NB713_728.out; have hnb45 := NB728_722.out; have hnc45 := NB722_728.out; have hcz46_0 : w41.cell? ⟨gb728, 0, none⟩ = some (.slice none 0 0) := (blk_cell BK728.out 0).trans rfl; have hfz46_0 := blk_frozen BK728.out 0; have hcz47_0 : w41.cell? ⟨gb713, 0, none⟩ = some (.slice Ao14 t708.length co14) := (blk_cell BK713.out 0).trans rfl; have hfz47_0 := blk_frozen BK713.out 0; have hcz48_0 : w41.cell? ⟨gb704, 0, none⟩ = some (.slice Ao10 t699.length co10) := (blk_cell BK704.out 0).trans rfl; have hfz48_0 := blk_frozen BK704.out 0) | ((with_reducible refine gate_callee (f := 33) rfl ?_); refine goesL_ (some 81) rfl rfl Tryd.func33 (by kernel_rfl) rfl #[.agg #[.slice Ao14 t708.length co14], .agg #[.slice Ao10 t699.length co10]] rfl (by (try simp only [List.map_toArray, List.map_cons, List.map_nil]); first | done | rfl | (simp only [List.length_drop, List.length_take]; rfl)) ?_; (with_reducible refine (nat_Nat_Add.calls kj6 _ _ t708 _ _ t699 t729 t732 _ ?side1 ?side2 ?side3 ?side4 A33.out).mono ?_); (case side1 => refine (Kd.V_reads' (e := 79) (base := w.heap.size) (ok := fun k_ => ((k_ ≠ gb704 ∧ (k_ ≠ gb713 ∧ k_ ≠ gb722)) ∧ k_ ≠ gb728)) (n := t708.length) (c := co14) ?_).2.2; exact (by exact (Kd.V_mono (Kd.V_far (p := ⟨gb728, 0, none⟩) (Kd.V_mono HO_714000.out (fun k_ hk => (⟨hk, hk.2⟩ : _ ∧ k_ ≠ gb728))) (fun _ hk => hk.2) (.slice Ao42 t724.length co42)) (fun _ h_ => h_.1)))); (case side2 => exact (Kd.V_reads' HO_714000.out).2.1); (case side3 => refine (Kd.V_reads' (e := 79) (base := w.heap.size) (ok := fun k_ => ((k_ ≠ gb704 ∧ (k_ ≠ gb713 ∧ k_ ≠ gb722)) ∧ k_ ≠ gb728)) (n := t699.length) (c := co10) ?_).2.2; exact (by exact (Kd.V_mono (Kd.V_far (p := ⟨gb728, 0, none⟩) (Kd.V_mono HO_705000.out (fun k_ hk => (⟨hk, hk.2⟩ : _ ∧ k_ ≠ gb728))) (fun _ hk => hk.2) (.slice Ao42 t724.length co42)) (fun _ h_ => h_.1)))); (case side4 => exact (Kd.V_reads' HO_705000.out).2.1); rintro e w49 ⟨v730, rfl, ho0, hb⟩; refine ⟨_, rfl, ?_⟩; have HO731 := Aside0.mk (Kd.V_lower (Kd.V_mono (ok' := fun k_ => k_ ≠ gb704 ∧ k_ ≠ gb713 ∧ k_ ≠ gb722 ∧ k_ ≠ gb728) ho0 (fun k_ hk_ => ⟨(Kd.freshB (g := gb704) (o := .cells #[.slice Ao10 t699.length co10] 26 (0, 0)) (by refine blk_far ?_ NB704_728.out _; exact BK704.out) k_ hk_), (Kd.freshB (g := gb713) (o := .cells #[.slice Ao14 t708.length co14] 26 (0, 0)) (by refine blk_far ?_ NB713_728.out _; exact BK713.out) k_ hk_), (Kd.freshB (g := gb722) (o := .cells #[.slice Ao19 t717.length co19] 26 (0, 0)) (by refine blk_far ?_ NB722_728.out _; exact BK722.out) k_ hk_), (Kd.freshB (g := gb728) (o := .cells #[.slice Ao42 t724.length co42] 26 (0, 0)) (by refine blk_put (cs := #[.slice none 0 0]) ?_ 0 _ rfl; exact BK728.out) k_ hk_)⟩)) (below_size (by repeat (first | exact HB.out | refine sb ?_ GE704 | refine sb ?_ GE713 | refine sb ?_ GE722 | refine sb ?_ GE728)))); replace HO_705000 := vf HO_705000 (fun k_ hk => hk.2) hb; replace HO_714000 := vf HO_714000 (fun k_ hk => hk.2) hb; replace HO_723000 := vf HO_723000 (fun k_ hk => hk.2) hb; replace HO726 := vf HO726 (fun k_ hk => hk.2) hb; replace BK704 := bf BK704 NB704_728 hb; replace BK713 := bf BK713 NB713_728 hb; replace BK722 := bf BK722 NB722_728 hb; replace BK728 := Aside0.mk (blk_below (g := gb728) (o := .cells #[.slice Ao42 t724.length co42] 26 (0, 0)) (by refine blk_put (cs := #[.slice none 0 0]) ?_ 0 _ rfl; exact BK728.out) hb); replace HB := Aside0.mk (below_step (by repeat (first | exact HB.out | refine sb ?_ GE704 | refine sb ?_ GE713 | refine sb ?_ GE722 | refine sb ?_ GE728)) hb); (try clear hb); (try clear hk); (try clear hi); (try clear ho0)) | ((with_reducible refine gate_dst (N := 21) rfl ?_); refine box_event ?hg (N := 21) ?hd (cs := #[.slice none 0 0]) (t := 26) ?hr ?_; (case hd => rfl); (case hg => rfl); (case hr => first | (go_simp; done) | (go_simp; rfl)); intro gb733 hg w50 hbox hb; have BK733 := Aside0.mk (hbox); have GW733 := Aside0.mk ((by rw [hg]; exact (below_size (by repeat (first | exact HB.out | refine sb ?_ GE704 | refine sb ?_ GE713 | refine sb ?_ GE722 | refine sb ?_ GE728))) : w.heap.size ≤ gb733)); have GE733 := Aside0.mk ((by rw [hg]; exact (below_size (by repeat (first | exact HB.out | refine sb ?_ GE704 | refine sb ?_ GE713 | refine sb ?_ GE722 | refine sb ?_ GE728))) : w.heap.size ≤ gb733)); have NB704_733 := nl BK704 hg; have NB733_704 := ng BK704 hg; have NB713_733 := nl BK713 hg; have NB733_713 := ng BK713 hg; have NB722_733 := nl BK722 hg; have NB733_722 := ng BK722 hg; have NB728_733 := nl BK728 hg; have NB733_728 := ng BK728 hg; replace HO_705000 := ve HO_705000 gb733 hg hb; replace HO_714000 := ve HO_714000 gb733 hg hb; replace HO_723000 := ve HO_723000 gb733 hg hb; replace HO726 := ve HO726 gb733 hg hb; replace HO731 := ve HO731 gb733 hg hb; replace BK704 := bb BK704 hb; replace BK713 := bb BK713 hb; replace BK722 := bb BK722 hb; replace BK728 := bb BK728 hb; replace HB := Aside0.mk (below_step (by repeat (first | exact HB.out | refine sb ?_ GE704 | refine sb ?_ GE713 | refine sb ?_ GE722 | refine sb ?_ GE728)) hb); clear hb hbox hg; obtain ⟨Ao51, co51, eo51⟩ := Kd.V_slice HO731.out; subst eo51; have hnb52 := NB733_704.out; have hnc52 := NB704_733.out; have hnb53 := NB733_713.out; have hnc53 := NB713_733.out; have hnb54 := NB733_722.out; have hnc54 := NB722_733.out; have hnb55 := NB733_728.out; have hnc55 := NB728_733.out; have hcz56_0 : w50.cell? ⟨gb733, 0, none⟩ = some (.slice none 0 0) := (blk_cell BK733.out 0).trans rfl; have hfz56_0 := blk_frozen BK733.out 0))
    (try simp only [Act.put, List.setIfInBounds_toArray, List.set_cons_zero, List.set_cons_succ])
    go_cut [92] (fun v92 wc => ∃ (kq : Nat) (x92_33 : Bool), v92 = .bool x92_33 ∧ Aside0 (heraldlaw04_NatRing.j1 kq t727 x92_33 t699 t708 t717 t724 = some r) ∧ Aside0 (kq ≤ kj6) ∧ Aside0 (Kd.V (Kd.int .u32) 79 wc w.heap.size (fun k_ => k_ ≠ gb704 ∧ k_ ≠ gb713 ∧ k_ ≠ gb722 ∧ k_ ≠ gb728 ∧ k_ ≠ gb733) (.slice Ao10 t699.length co10) t699) ∧ Aside0 (Kd.V (Kd.int .u32) 79 wc w.heap.size (fun k_ => k_ ≠ gb704 ∧ k_ ≠ gb713 ∧ k_ ≠ gb722 ∧ k_ ≠ gb728 ∧ k_ ≠ gb733) (.slice Ao14 t708.length co14) t708) ∧ Aside0 (Kd.V (Kd.int .u32) 79 wc w.heap.size (fun k_ => k_ ≠ gb704 ∧ k_ ≠ gb713 ∧ k_ ≠ gb722 ∧ k_ ≠ gb728 ∧ k_ ≠ gb733) (.slice Ao19 t717.length co19) t717) ∧ Aside0 (Kd.V (Kd.int .u32) 79 wc w.heap.size (fun k_ => k_ ≠ gb704 ∧ k_ ≠ gb713 ∧ k_ ≠ gb722 ∧ k_ ≠ gb728 ∧ k_ ≠ gb733) (.slice Ao42 t724.length co42) t724) ∧ Aside0 (Kd.V (Kd.int .u32) 79 wc w.heap.size (fun k_ => k_ ≠ gb704 ∧ k_ ≠ gb713 ∧ k_ ≠ gb722 ∧ k_ ≠ gb728 ∧ k_ ≠ gb733) (.slice Ao51 t729.length co51) t729) ∧ Aside0 (wc.heap[gb704]? = some (.cells #[(.slice Ao10 t699.length co10)] 26 (0, 0))) ∧ Aside0 (wc.heap[gb713]? = some (.cells #[(.slice Ao14 t708.length co14)] 26 (0, 0))) ∧ Aside0 (wc.heap[gb722]? = some (.cells #[(.slice Ao19 t717.length co19)] 26 (0, 0))) ∧ Aside0 (wc.heap[gb728]? = some (.cells #[(.slice Ao42 t724.length co42)] 26 (0, 0))) ∧ Aside0 (wc.heap[gb733]? = some (.cells #[(.slice Ao51 t729.length co51)] 26 (0, 0))) ∧ Aside0 (Below w.heap.size w wc))
    case first =>
     have H := HC34.out
     clear HC34
     by_cases c57 : t727 = t732
     ·rw [if_pos c57] at H
      have c57b0 : (t727 == t732) = true := beq_iff_eq.mpr c57
      have c57b1 : (t727 != t732) = false := bne_eq_false_iff_eq.mpr c57
      clear c57
      (first | rw [c57b0] | (simp only [i64_w, i32_w]; rw [c57b0]) | skip)
      replace H := Option.bind_eq_some_iff.mp H
      obtain ⟨t734, A580, H⟩ := H
      replace H : (heraldlaw04_NatRing.j1 kj6 t727 (t734 != 0) t699 t708 t717 t724) = some r := H
      have A58 := Aside0.mk A580
      clear A580
      as_aux_lemma =>
       have H' := Aside0.mk H
       clear H
       have hnb59 := NB728_704.out
       have hnc59 := NB704_728.out
       have hnb60 := NB728_713.out
       have hnc60 := NB713_728.out
       have hnb61 := NB728_722.out
       have hnc61 := NB722_728.out
       have hnb62 := NB728_733.out
       have hnc62 := NB733_728.out
       have hcz63_0 : w50.cell? ⟨gb728, 0, none⟩ = some (.slice Ao42 t724.length co42) := (blk_cell BK728.out 0).trans rfl
       have hfz63_0 := blk_frozen BK728.out 0
       have hnb64 := NB733_704.out
       have hnc64 := NB704_733.out
       have hnb65 := NB733_713.out
       have hnc65 := NB713_733.out
       have hnb66 := NB733_722.out
       have hnc66 := NB722_733.out
       have hcz67_0 : w50.cell? ⟨gb733, 0, none⟩ = some (.slice none 0 0) := (blk_cell BK733.out 0).trans rfl
       have hfz67_0 := blk_frozen BK733.out 0
       go_wp2_with (first | (go_at_call 29; (with_reducible refine (nat_Nat_Compare.calls kj6 _ _ t724 _ _ t729 t734 _ ?side1 ?side2 ?side3 ?side4 A58.out).mono ?_); (case side1 => refine (Kd.V_reads' (e := 79) (base := w.heap.size) (ok := fun k_ => (((k_ ≠ gb704 ∧ (k_ ≠ gb713 ∧ k_ ≠ gb722)) ∧ k_ ≠ gb728) ∧ k_ ≠ gb733)) (n := t724.length) (c := co42) ?_).2.2; exact (by exact (Kd.V_mono (Kd.V_far (p := ⟨gb733, 0, none⟩) (Kd.V_mono HO726.out (fun k_ hk => (⟨hk, hk.2⟩ : _ ∧ k_ ≠ gb733))) (fun _ hk => hk.2) (.slice Ao51 t729.length co51)) (fun _ h_ => h_.1)))); (case side2 => exact (Kd.V_reads' HO726.out).2.1); (case side3 => refine (Kd.V_reads' (e := 79) (base := w.heap.size) (ok := fun k_ => ((k_ ≠ gb704 ∧ (k_ ≠ gb713 ∧ (k_ ≠ gb722 ∧ k_ ≠ gb728))) ∧ k_ ≠ gb733)) (n := t729.length) (c := co51) ?_).2.2; exact (by exact (Kd.V_mono (Kd.V_far (p := ⟨gb733, 0, none⟩) (Kd.V_mono HO731.out (fun k_ hk => (⟨hk, hk.2⟩ : _ ∧ k_ ≠ gb733))) (fun _ hk => hk.2) (.slice Ao51 t729.length co51)) (fun _ h_ => h_.1)))); (case side4 => exact (Kd.V_reads' HO731.out).2.1); rintro e w68 ⟨rfl, hb⟩; replace HO_705000 := vf HO_705000 (fun k_ hk => hk.2) hb; replace HO_714000 := vf HO_714000 (fun k_ hk => hk.2) hb; replace HO_723000 := vf HO_723000 (fun k_ hk => hk.2) hb; replace HO726 := vf HO726 (fun k_ hk => hk.2) hb; replace HO731 := vf HO731 (fun k_ hk => hk.2) hb; replace BK704 := bf BK704 NB704_733 hb; replace BK713 := bf BK713 NB713_733 hb; replace BK722 := bf BK722 NB722_733 hb; replace BK728 := bf BK728 NB728_733 hb; replace BK733 := Aside0.mk (blk_below (g := gb733) (o := .cells #[.slice Ao51 t729.length co51] 26 (0, 0)) (by refine blk_put (cs := #[.slice none 0 0]) ?_ 0 _ rfl; exact BK733.out) hb); replace HB := Aside0.mk (below_step (by repeat (first | exact HB.out | refine sb ?_ GE704 | refine sb ?_ GE713 | refine sb ?_ GE722 | refine sb ?_ GE728 | refine sb ?_ GE733)) hb); (try clear hb); (try clear hb2); (try clear hk); (try clear hi)))
       go_meet
       case rel => exact ⟨_, ((t734 != 0)), (by first | rfl | (simp; done) | (simp [*]; done) | (simp [i64_w]; done) | (simp [*, i64_w]; done)), H', ⟨by have := HJ6.out; first | omega | exact Nat.le_refl _⟩, ⟨by exact Kd.V_mono HO_705000.out (fun _ hk => ⟨hk.1.1.1, ⟨hk.1.1.2.1, ⟨hk.1.1.2.2, ⟨hk.1.2, hk.2⟩⟩⟩⟩)⟩, ⟨by exact Kd.V_mono HO_714000.out (fun _ hk => ⟨hk.1.1.1, ⟨hk.1.1.2.1, ⟨hk.1.1.2.2, ⟨hk.1.2, hk.2⟩⟩⟩⟩)⟩, ⟨by exact Kd.V_mono HO_723000.out (fun _ hk => ⟨hk.1.1.1, ⟨hk.1.1.2.1, ⟨hk.1.1.2.2, ⟨hk.1.2, hk.2⟩⟩⟩⟩)⟩, ⟨by exact Kd.V_mono HO726.out (fun _ hk => ⟨hk.1.1.1, ⟨hk.1.1.2.1, ⟨hk.1.1.2.2, ⟨hk.1.2, hk.2⟩⟩⟩⟩)⟩, ⟨by exact Kd.V_mono HO731.out (fun _ hk => ⟨hk.1.1, ⟨hk.1.2.1, ⟨hk.1.2.2.1, ⟨hk.1.2.2.2, hk.2⟩⟩⟩⟩)⟩, ⟨by exact BK704.out⟩, ⟨by exact BK713.out⟩, ⟨by exact BK722.out⟩, ⟨by exact BK728.out⟩, ⟨by exact BK733.out⟩, ⟨by repeat (first | exact HB.out | refine sb ?_ GE704 | refine sb ?_ GE713 | refine sb ?_ GE722 | refine sb ?_ GE728 | refine sb ?_ GE733)⟩⟩
     ·rw [if_neg c57] at H
      have c57b0 : (t727 == t732) = false := beq_eq_false_iff_ne.mpr c57
      have c57b1 : (t727 != t732) = true := bne_iff_ne.mpr c57
      (first | rw [c57b0] | (simp only [i64_w, i32_w]; rw [c57b0]) | skip)
      as_aux_lemma =>
       have H' := Aside0.mk H
       clear H
       go_wp2
       go_meet
       case rel => exact ⟨_, (true), (by first | rfl | (simp; done) | (simp [*]; done) | (simp [i64_w]; done) | (simp [*, i64_w]; done)), H', ⟨by have := HJ6.out; first | omega | exact Nat.le_refl _⟩, ⟨by exact Kd.V_mono (Kd.V_far (p := ⟨gb733, 0, none⟩) (Kd.V_mono HO_705000.out (fun k_ hk => (⟨hk, hk.2⟩ : _ ∧ k_ ≠ gb733))) (fun _ hk => hk.2) (.slice Ao51 t729.length co51)) (fun _ hk => ⟨hk.1.1.1.1, ⟨hk.1.1.1.2.1, ⟨hk.1.1.1.2.2, ⟨hk.1.1.2, hk.1.2⟩⟩⟩⟩)⟩, ⟨by exact Kd.V_mono (Kd.V_far (p := ⟨gb733, 0, none⟩) (Kd.V_mono HO_714000.out (fun k_ hk => (⟨hk, hk.2⟩ : _ ∧ k_ ≠ gb733))) (fun _ hk => hk.2) (.slice Ao51 t729.length co51)) (fun _ hk => ⟨hk.1.1.1.1, ⟨hk.1.1.1.2.1, ⟨hk.1.1.1.2.2, ⟨hk.1.1.2, hk.1.2⟩⟩⟩⟩)⟩, ⟨by exact Kd.V_mono (Kd.V_far (p := ⟨gb733, 0, none⟩) (Kd.V_mono HO_723000.out (fun k_ hk => (⟨hk, hk.2⟩ : _ ∧ k_ ≠ gb733))) (fun _ hk => hk.2) (.slice Ao51 t729.length co51)) (fun _ hk => ⟨hk.1.1.1.1, ⟨hk.1.1.1.2.1, ⟨hk.1.1.1.2.2, ⟨hk.1.1.2, hk.1.2⟩⟩⟩⟩)⟩, ⟨by exact Kd.V_mono (Kd.V_far (p := ⟨gb733, 0, none⟩) (Kd.V_mono HO726.out (fun k_ hk => (⟨hk, hk.2⟩ : _ ∧ k_ ≠ gb733))) (fun _ hk => hk.2) (.slice Ao51 t729.length co51)) (fun _ hk => ⟨hk.1.1.1.1, ⟨hk.1.1.1.2.1, ⟨hk.1.1.1.2.2, ⟨hk.1.1.2, hk.1.2⟩⟩⟩⟩)⟩, ⟨by exact Kd.V_mono (Kd.V_far (p := ⟨gb733, 0, none⟩) (Kd.V_mono HO731.out (fun k_ hk => (⟨hk, hk.2⟩ : _ ∧ k_ ≠ gb733))) (fun _ hk => hk.2) (.slice Ao51 t729.length co51)) (fun _ hk => ⟨hk.1.1.1, ⟨hk.1.1.2.1, ⟨hk.1.1.2.2.1, ⟨hk.1.1.2.2.2, hk.1.2⟩⟩⟩⟩)⟩, ⟨by refine blk_far ?_ NB704_733.out _; exact BK704.out⟩, ⟨by refine blk_far ?_ NB713_733.out _; exact BK713.out⟩, ⟨by refine blk_far ?_ NB722_733.out _; exact BK722.out⟩, ⟨by refine blk_far ?_ NB728_733.out _; exact BK728.out⟩, ⟨by refine blk_put (cs := #[.slice none 0 0]) ?_ 0 _ rfl; exact BK733.out⟩, ⟨by repeat (first | exact HB.out | refine sb ?_ GE704 | refine sb ?_ GE713 | refine sb ?_ GE722 | refine sb ?_ GE728 | refine sb ?_ GE733)⟩⟩
    case rest =>
     clear HC34
     try clear c1
     try clear c2
     try clear p2
     try clear c3
     try clear c4
     try clear c5
     try clear c6
     try clear c9
     try clear c12
     try clear c15
     try clear c20
     try clear c21
     try clear c24
     try clear c25
     try clear c26
     try clear c31
     try clear c33
     try clear c35
     try clear c36
     try clear c38
     try clear c43
     try clear c44
     try clear c45
     try clear c52
     try clear c53
     try clear c54
     try clear c55
     try clear c57
     try clear c57b0
     try clear c57b1
     try clear c59
     try clear c60
     try clear c61
     try clear c62
     try clear c64
     try clear c65
     try clear c66
     try clear hcz11_0
     try clear hcz16_0
     try clear hcz22_0
     try clear hcz37_0
     try clear hcz39_0
     try clear hcz46_0
     try clear hcz47_0
     try clear hcz48_0
     try clear hcz56_0
     try clear hcz63_0
     try clear hcz67_0
     try clear hfz11_0
     try clear hfz16_0
     try clear hfz22_0
     try clear hfz37_0
     try clear hfz39_0
     try clear hfz46_0
     try clear hfz47_0
     try clear hfz48_0
     try clear hfz56_0
     try clear hfz63_0
     try clear hfz67_0
     try clear p2
     obtain ⟨kq, x92_33, rfl, HA, HJ33, HO_705000, HO_714000, HO_723000, HO_729000, HO_734000, BK704, BK713, BK722, BK728, BK733, HB⟩ := hcut
     cases kq with
     | zero => exact absurd HA.out (by simp [heraldlaw04_NatRing.j1])
     | succ kj33 =>
      have H := HA.out
      clear HA
      simp only [heraldlaw04_NatRing.j1] at H
      by_cases c69 : x92_33 = true
      ·subst c69
       have H1 : (some false) = some r := by rw [if_pos rfl] at H; exact H
       clear H
       have H := H1
       clear H1
       as_aux_lemma =>
        obtain rfl := Option.some.inj H
        go_wp2
        go_ret
        exact ⟨by first | rfl | (simp [errW_none, errW_some] <;> rfl) | (simp [*, errW_none, errW_some] <;> rfl), by repeat (first | exact HB.out | refine sb ?_ GE704 | refine sb ?_ GE713 | refine sb ?_ GE722 | refine sb ?_ GE728 | refine sb ?_ GE733)⟩
      ·replace c69 := Bool.eq_false_iff.mpr c69
       subst c69
       have H1 : (if t727 = 0 then ((nat_Nat_Sub.f kj33 t724 t708).bind fun bt735 => (if bt735.2 = 0 then ((nat_Nat_Compare.f kj33 bt735.1 t699).bind fun t740 => (heraldlaw04_NatRing.j2 kj33 t727 (t740 != 0) t699 t708 t717 t724)) else (heraldlaw04_NatRing.j2 kj33 t727 true t699 t708 t717 t724))) else (heraldlaw04_NatRing.j3 kj33 t727 t699 t708 t717 t724)) = some r := by rw [if_neg (show ¬ (false = true) by decide)] at H; exact H
       clear H
       have H := H1
       clear H1
       have HC70 := Aside0.mk H
       clear H
       go_upto_if 94 with (fail)
       go_cut [] (fun wc => ∃ (kq : Nat), Aside0 (heraldlaw04_NatRing.j3 kq t727 t699 t708 t717 t724 = some r) ∧ Aside0 (kq ≤ kj33) ∧ Aside0 (Kd.V (Kd.int .u32) 79 wc w.heap.size (fun k_ => k_ ≠ gb704 ∧ k_ ≠ gb713 ∧ k_ ≠ gb722 ∧ k_ ≠ gb728 ∧ k_ ≠ gb733) (.slice Ao10 t699.length co10) t699) ∧ Aside0 (Kd.V (Kd.int .u32) 79 wc w.heap.size (fun k_ => k_ ≠ gb704 ∧ k_ ≠ gb713 ∧ k_ ≠ gb722 ∧ k_ ≠ gb728 ∧ k_ ≠ gb733) (.slice Ao14 t708.length co14) t708) ∧ Aside0 (Kd.V (Kd.int .u32) 79 wc w.heap.size (fun k_ => k_ ≠ gb704 ∧ k_ ≠ gb713 ∧ k_ ≠ gb722 ∧ k_ ≠ gb728 ∧ k_ ≠ gb733) (.slice Ao19 t717.length co19) t717) ∧ Aside0 (Kd.V (Kd.int .u32) 79 wc w.heap.size (fun k_ => k_ ≠ gb704 ∧ k_ ≠ gb713 ∧ k_ ≠ gb722 ∧ k_ ≠ gb728 ∧ k_ ≠ gb733) (.slice Ao42 t724.length co42) t724) ∧ Aside0 (Kd.V (Kd.int .u32) 79 wc w.heap.size (fun k_ => k_ ≠ gb704 ∧ k_ ≠ gb713 ∧ k_ ≠ gb722 ∧ k_ ≠ gb728 ∧ k_ ≠ gb733) (.slice Ao51 t729.length co51) t729) ∧ Aside0 (wc.heap[gb704]? = some (.cells #[(.slice Ao10 t699.length co10)] 26 (0, 0))) ∧ Aside0 (wc.heap[gb713]? = some (.cells #[(.slice Ao14 t708.length co14)] 26 (0, 0))) ∧ Aside0 (wc.heap[gb722]? = some (.cells #[(.slice Ao19 t717.length co19)] 26 (0, 0))) ∧ Aside0 (wc.heap[gb728]? = some (.cells #[(.slice Ao42 t724.length co42)] 26 (0, 0))) ∧ Aside0 (wc.heap[gb733]? = some (.cells #[(.slice Ao51 t729.length co51)] 26 (0, 0))) ∧ Aside0 (Below w.heap.size w wc))
       case first =>
        have H := HC70.out
        clear HC70
        by_cases c71 : t727 = 0
        ·rw [if_pos c71] at H
         have c71b0 : (t727 == 0) = true := beq_iff_eq.mpr c71
         have c71b1 : (t727 != 0) = false := bne_eq_false_iff_eq.mpr c71
         clear c71
         (first | rw [c71b0] | (simp only [i64_w, i32_w]; rw [c71b0]) | skip)
         replace H := Option.bind_eq_some_iff.mp H
         obtain ⟨⟨t735, t738⟩, A720, H⟩ := H
         replace H : (if t738 = 0 then ((nat_Nat_Compare.f kj33 t735 t699).bind fun t740 => (heraldlaw04_NatRing.j2 kj33 t727 (t740 != 0) t699 t708 t717 t724)) else (heraldlaw04_NatRing.j2 kj33 t727 true t699 t708 t717 t724)) = some r := H
         have A72 := Aside0.mk A720
         clear A720
         have HC73 := Aside0.mk H
         clear H
         have hnb74 := NB728_704.out
         have hnc74 := NB704_728.out
         have hnb75 := NB728_713.out
         have hnc75 := NB713_728.out
         have hnb76 := NB728_722.out
         have hnc76 := NB722_728.out
         have hnb77 := NB728_733.out
         have hnc77 := NB733_728.out
         have hcz78_0 : wc.cell? ⟨gb728, 0, none⟩ = some (.slice Ao42 t724.length co42) := (blk_cell BK728.out 0).trans rfl
         have hfz78_0 := blk_frozen BK728.out 0
         have hnb79 := NB713_704.out
         have hnc79 := NB704_713.out
         have hnb80 := NB713_722.out
         have hnc80 := NB722_713.out
         have hnb81 := NB713_733.out
         have hnc81 := NB733_713.out
         have hcz82_0 : wc.cell? ⟨gb713, 0, none⟩ = some (.slice Ao14 t708.length co14) := (blk_cell BK713.out 0).trans rfl
         have hfz82_0 := blk_frozen BK713.out 0
         go_upto_region 12 with (first | ((with_reducible refine gate_callee (f := 42) rfl ?_); refine goesL_ (some 98) rfl rfl Tryd.func42 (by kernel_rfl) rfl #[.agg #[.slice Ao42 t724.length co42], .agg #[.slice Ao14 t708.length co14]] rfl (by (try simp only [List.map_toArray, List.map_cons, List.map_nil]); first | done | rfl | (simp only [List.length_drop, List.length_take]; rfl)) ?_; (with_reducible refine (nat_Nat_Sub.calls kj33 _ _ t724 _ _ t708 t735 t738 _ ?side1 ?side2 ?side3 ?side4 A72.out).mono ?_); (case side1 => exact (Kd.V_reads' HO_729000.out).2.2); (case side2 => exact (Kd.V_reads' HO_729000.out).2.1); (case side3 => exact (Kd.V_reads' HO_714000.out).2.2); (case side4 => exact (Kd.V_reads' HO_714000.out).2.1); rintro e w83 ⟨v736, rfl, ho0, hb⟩; refine ⟨_, rfl, ?_⟩; have HO737 := Aside0.mk (Kd.V_lower (Kd.V_mono (ok' := fun k_ => k_ ≠ gb704 ∧ k_ ≠ gb713 ∧ k_ ≠ gb722 ∧ k_ ≠ gb728 ∧ k_ ≠ gb733) ho0 (fun k_ hk_ => ⟨(fb BK704 k_ hk_), (fb BK713 k_ hk_), (fb BK722 k_ hk_), (fb BK728 k_ hk_), (fb BK733 k_ hk_)⟩)) (below_size (by repeat (first | exact HB.out | refine sb ?_ GE704 | refine sb ?_ GE713 | refine sb ?_ GE722 | refine sb ?_ GE728 | refine sb ?_ GE733)))); replace HO_705000 := vb HO_705000 hb; replace HO_714000 := vb HO_714000 hb; replace HO_723000 := vb HO_723000 hb; replace HO_729000 := vb HO_729000 hb; replace HO_734000 := vb HO_734000 hb; replace BK704 := bb BK704 hb; replace BK713 := bb BK713 hb; replace BK722 := bb BK722 hb; replace BK728 := bb BK728 hb; replace BK733 := bb BK733 hb; replace HB := Aside0.mk (below_step (by repeat (first | exact HB.out | refine sb ?_ GE704 | refine sb ?_ GE713 | refine sb ?_ GE722 | refine sb ?_ GE728 | refine sb ?_ GE733)) hb); (try clear hb); (try clear hk); (try clear hi); (try clear ho0)) | ((with_reducible refine gate_dst (N := 23) rfl ?_); refine box_event ?hg (N := 23) ?hd (cs := #[.slice none 0 0]) (t := 26) ?hr ?_; (case hd => rfl); (case hg => rfl); (case hr => first | (go_simp; done) | (go_simp; rfl)); intro gb739 hg w84 hbox hb; have BK739 := Aside0.mk (hbox); have GW739 := Aside0.mk ((by rw [hg]; exact (below_size (by repeat (first | exact HB.out | refine sb ?_ GE704 | refine sb ?_ GE713 | refine sb ?_ GE722 | refine sb ?_ GE728 | refine sb ?_ GE733))) : w.heap.size ≤ gb739)); have GE739 := Aside0.mk ((by rw [hg]; exact (below_size (by repeat (first | exact HB.out | refine sb ?_ GE704 | refine sb ?_ GE713 | refine sb ?_ GE722 | refine sb ?_ GE728 | refine sb ?_ GE733))) : w.heap.size ≤ gb739)); have NB704_739 := nl BK704 hg; have NB739_704 := ng BK704 hg; have NB713_739 := nl BK713 hg; have NB739_713 := ng BK713 hg; have NB722_739 := nl BK722 hg; have NB739_722 := ng BK722 hg; have NB728_739 := nl BK728 hg; have NB739_728 := ng BK728 hg; have NB733_739 := nl BK733 hg; have NB739_733 := ng BK733 hg; replace HO_705000 := ve HO_705000 gb739 hg hb; replace HO_714000 := ve HO_714000 gb739 hg hb; replace HO_723000 := ve HO_723000 gb739 hg hb; replace HO_729000 := ve HO_729000 gb739 hg hb; replace HO_734000 := ve HO_734000 gb739 hg hb; replace HO737 := ve HO737 gb739 hg hb; replace BK704 := bb BK704 hb; replace BK713 := bb BK713 hb; replace BK722 := bb BK722 hb; replace BK728 := bb BK728 hb; replace BK733 := bb BK733 hb; replace HB := Aside0.mk (below_step (by repeat (first | exact HB.out | refine sb ?_ GE704 | refine sb ?_ GE713 | refine sb ?_ GE722 | refine sb ?_ GE728 | refine sb ?_ GE733)) hb); clear hb hbox hg; obtain ⟨Ao85, co85, eo85⟩ := Kd.V_slice HO737.out; subst eo85; have hnb86 := NB739_704.out; have hnc86 := NB704_739.out; have hnb87 := NB739_713.out; have hnc87 := NB713_739.out; have hnb88 := NB739_722.out; have hnc88 := NB722_739.out; have hnb89 := NB739_728.out; have hnc89 := NB728_739.out; have hnb90 := NB739_733.out; have hnc90 := NB733_739.out; have hcz91_0 : w84.cell? ⟨gb739, 0, none⟩ = some (.slice none 0 0) := (blk_cell BK739.out 0).trans rfl; have hfz91_0 := blk_frozen BK739.out 0))
         (try simp only [Act.put, List.setIfInBounds_toArray, List.set_cons_zero, List.set_cons_succ])
         go_cut [108] (fun v108 wc => ∃ (kq : Nat) (x108_72 : Bool), v108 = .bool x108_72 ∧ Aside0 (heraldlaw04_NatRing.j2 kq t727 x108_72 t699 t708 t717 t724 = some r) ∧ Aside0 (kq ≤ kj33) ∧ Aside0 (Kd.V (Kd.int .u32) 79 wc w.heap.size (fun k_ => k_ ≠ gb704 ∧ k_ ≠ gb713 ∧ k_ ≠ gb722 ∧ k_ ≠ gb728 ∧ k_ ≠ gb733 ∧ k_ ≠ gb739) (.slice Ao10 t699.length co10) t699) ∧ Aside0 (Kd.V (Kd.int .u32) 79 wc w.heap.size (fun k_ => k_ ≠ gb704 ∧ k_ ≠ gb713 ∧ k_ ≠ gb722 ∧ k_ ≠ gb728 ∧ k_ ≠ gb733 ∧ k_ ≠ gb739) (.slice Ao14 t708.length co14) t708) ∧ Aside0 (Kd.V (Kd.int .u32) 79 wc w.heap.size (fun k_ => k_ ≠ gb704 ∧ k_ ≠ gb713 ∧ k_ ≠ gb722 ∧ k_ ≠ gb728 ∧ k_ ≠ gb733 ∧ k_ ≠ gb739) (.slice Ao19 t717.length co19) t717) ∧ Aside0 (Kd.V (Kd.int .u32) 79 wc w.heap.size (fun k_ => k_ ≠ gb704 ∧ k_ ≠ gb713 ∧ k_ ≠ gb722 ∧ k_ ≠ gb728 ∧ k_ ≠ gb733 ∧ k_ ≠ gb739) (.slice Ao42 t724.length co42) t724) ∧ Aside0 (Kd.V (Kd.int .u32) 79 wc w.heap.size (fun k_ => k_ ≠ gb704 ∧ k_ ≠ gb713 ∧ k_ ≠ gb722 ∧ k_ ≠ gb728 ∧ k_ ≠ gb733 ∧ k_ ≠ gb739) (.slice Ao51 t729.length co51) t729) ∧ Aside0 (Kd.V (Kd.int .u32) 79 wc w.heap.size (fun k_ => k_ ≠ gb704 ∧ k_ ≠ gb713 ∧ k_ ≠ gb722 ∧ k_ ≠ gb728 ∧ k_ ≠ gb733 ∧ k_ ≠ gb739) (.slice Ao85 t735.length co85) t735) ∧ Aside0 (wc.heap[gb704]? = some (.cells #[(.slice Ao10 t699.length co10)] 26 (0, 0))) ∧ Aside0 (wc.heap[gb713]? = some (.cells #[(.slice Ao14 t708.length co14)] 26 (0, 0))) ∧ Aside0 (wc.heap[gb722]? = some (.cells #[(.slice Ao19 t717.length co19)] 26 (0, 0))) ∧ Aside0 (wc.heap[gb728]? = some (.cells #[(.slice Ao42 t724.length co42)] 26 (0, 0))) ∧ Aside0 (wc.heap[gb733]? = some (.cells #[(.slice Ao51 t729.length co51)] 26 (0, 0))) ∧ Aside0 (wc.heap[gb739]? = some (.cells #[(.slice Ao85 t735.length co85)] 26 (0, 0))) ∧ Aside0 (Below w.heap.size w wc))
         case first =>
          have H := HC73.out
          clear HC73
          by_cases c92 : t738 = 0
          ·rw [if_pos c92] at H
           have c92b0 : (t738 == 0) = true := beq_iff_eq.mpr c92
           have c92b1 : (t738 != 0) = false := bne_eq_false_iff_eq.mpr c92
           clear c92
           (first | rw [c92b0] | (simp only [i64_w, i32_w]; rw [c92b0]) | skip)
           replace H := Option.bind_eq_some_iff.mp H
           obtain ⟨t740, A930, H⟩ := H
           replace H : (heraldlaw04_NatRing.j2 kj33 t727 (t740 != 0) t699 t708 t717 t724) = some r := H
           have A93 := Aside0.mk A930
           clear A930
           as_aux_lemma =>
            have H' := Aside0.mk H
            clear H
            have hnb94 := NB739_704.out
            have hnc94 := NB704_739.out
            have hnb95 := NB739_713.out
            have hnc95 := NB713_739.out
            have hnb96 := NB739_722.out
            have hnc96 := NB722_739.out
            have hnb97 := NB739_728.out
            have hnc97 := NB728_739.out
            have hnb98 := NB739_733.out
            have hnc98 := NB733_739.out
            have hcz99_0 : w84.cell? ⟨gb739, 0, none⟩ = some (.slice none 0 0) := (blk_cell BK739.out 0).trans rfl
            have hfz99_0 := blk_frozen BK739.out 0
            have hnb100 := NB704_713.out
            have hnc100 := NB713_704.out
            have hnb101 := NB704_722.out
            have hnc101 := NB722_704.out
            have hnb102 := NB704_728.out
            have hnc102 := NB728_704.out
            have hnb103 := NB704_733.out
            have hnc103 := NB733_704.out
            have hcz104_0 : w84.cell? ⟨gb704, 0, none⟩ = some (.slice Ao10 t699.length co10) := (blk_cell BK704.out 0).trans rfl
            have hfz104_0 := blk_frozen BK704.out 0
            go_wp2_with (first | (go_at_call 29; (with_reducible refine (nat_Nat_Compare.calls kj33 _ _ t735 _ _ t699 t740 _ ?side1 ?side2 ?side3 ?side4 A93.out).mono ?_); (case side1 => refine (Kd.V_reads' (e := 79) (base := w.heap.size) (ok := fun k_ => ((k_ ≠ gb704 ∧ (k_ ≠ gb713 ∧ (k_ ≠ gb722 ∧ (k_ ≠ gb728 ∧ k_ ≠ gb733)))) ∧ k_ ≠ gb739)) (n := t735.length) (c := co85) ?_).2.2; exact (by exact (Kd.V_mono (Kd.V_far (p := ⟨gb739, 0, none⟩) (Kd.V_mono HO737.out (fun k_ hk => (⟨hk, hk.2⟩ : _ ∧ k_ ≠ gb739))) (fun _ hk => hk.2) (.slice Ao85 t735.length co85)) (fun _ h_ => h_.1)))); (case side2 => exact (Kd.V_reads' HO737.out).2.1); (case side3 => refine (Kd.V_reads' (e := 79) (base := w.heap.size) (ok := fun k_ => ((k_ ≠ gb704 ∧ (k_ ≠ gb713 ∧ (k_ ≠ gb722 ∧ (k_ ≠ gb728 ∧ k_ ≠ gb733)))) ∧ k_ ≠ gb739)) (n := t699.length) (c := co10) ?_).2.2; exact (by exact (Kd.V_mono (Kd.V_far (p := ⟨gb739, 0, none⟩) (Kd.V_mono HO_705000.out (fun k_ hk => (⟨hk, hk.2⟩ : _ ∧ k_ ≠ gb739))) (fun _ hk => hk.2) (.slice Ao85 t735.length co85)) (fun _ h_ => h_.1)))); (case side4 => exact (Kd.V_reads' HO_705000.out).2.1); rintro e w105 ⟨rfl, hb⟩; replace HO_705000 := vf HO_705000 (fun k_ hk => hk.2) hb; replace HO_714000 := vf HO_714000 (fun k_ hk => hk.2) hb; replace HO_723000 := vf HO_723000 (fun k_ hk => hk.2) hb; replace HO_729000 := vf HO_729000 (fun k_ hk => hk.2) hb; replace HO_734000 := vf HO_734000 (fun k_ hk => hk.2) hb; replace HO737 := vf HO737 (fun k_ hk => hk.2) hb; replace BK704 := bf BK704 NB704_739 hb; replace BK713 := bf BK713 NB713_739 hb; replace BK722 := bf BK722 NB722_739 hb; replace BK728 := bf BK728 NB728_739 hb; replace BK733 := bf BK733 NB733_739 hb; replace BK739 := Aside0.mk (blk_below (g := gb739) (o := .cells #[.slice Ao85 t735.length co85] 26 (0, 0)) (by refine blk_put (cs := #[.slice none 0 0]) ?_ 0 _ rfl; exact BK739.out) hb); replace HB := Aside0.mk (below_step (by repeat (first | exact HB.out | refine sb ?_ GE704 | refine sb ?_ GE713 | refine sb ?_ GE722 | refine sb ?_ GE728 | refine sb ?_ GE733 | refine sb ?_ GE739)) hb); (try clear hb); (try clear hb2); (try clear hk); (try clear hi)))
            go_meet
            case rel => exact ⟨_, ((t740 != 0)), (by first | rfl | (simp; done) | (simp [*]; done) | (simp [i64_w]; done) | (simp [*, i64_w]; done)), H', ⟨by have := HJ6.out; have := HJ33.out; first | omega | exact Nat.le_refl _⟩, ⟨by exact Kd.V_mono HO_705000.out (fun _ hk => ⟨hk.1.1, ⟨hk.1.2.1, ⟨hk.1.2.2.1, ⟨hk.1.2.2.2.1, ⟨hk.1.2.2.2.2, hk.2⟩⟩⟩⟩⟩)⟩, ⟨by exact Kd.V_mono HO_714000.out (fun _ hk => ⟨hk.1.1, ⟨hk.1.2.1, ⟨hk.1.2.2.1, ⟨hk.1.2.2.2.1, ⟨hk.1.2.2.2.2, hk.2⟩⟩⟩⟩⟩)⟩, ⟨by exact Kd.V_mono HO_723000.out (fun _ hk => ⟨hk.1.1, ⟨hk.1.2.1, ⟨hk.1.2.2.1, ⟨hk.1.2.2.2.1, ⟨hk.1.2.2.2.2, hk.2⟩⟩⟩⟩⟩)⟩, ⟨by exact Kd.V_mono HO_729000.out (fun _ hk => ⟨hk.1.1, ⟨hk.1.2.1, ⟨hk.1.2.2.1, ⟨hk.1.2.2.2.1, ⟨hk.1.2.2.2.2, hk.2⟩⟩⟩⟩⟩)⟩, ⟨by exact Kd.V_mono HO_734000.out (fun _ hk => ⟨hk.1.1, ⟨hk.1.2.1, ⟨hk.1.2.2.1, ⟨hk.1.2.2.2.1, ⟨hk.1.2.2.2.2, hk.2⟩⟩⟩⟩⟩)⟩, ⟨by exact Kd.V_mono HO737.out (fun _ hk => ⟨hk.1.1, ⟨hk.1.2.1, ⟨hk.1.2.2.1, ⟨hk.1.2.2.2.1, ⟨hk.1.2.2.2.2, hk.2⟩⟩⟩⟩⟩)⟩, ⟨by exact BK704.out⟩, ⟨by exact BK713.out⟩, ⟨by exact BK722.out⟩, ⟨by exact BK728.out⟩, ⟨by exact BK733.out⟩, ⟨by exact BK739.out⟩, ⟨by repeat (first | exact HB.out | refine sb ?_ GE704 | refine sb ?_ GE713 | refine sb ?_ GE722 | refine sb ?_ GE728 | refine sb ?_ GE733 | refine sb ?_ GE739)⟩⟩
          ·rw [if_neg c92] at H
           have c92b0 : (t738 == 0) = false := beq_eq_false_iff_ne.mpr c92
           have c92b1 : (t738 != 0) = true := bne_iff_ne.mpr c92
           (first | rw [c92b0] | (simp only [i64_w, i32_w]; rw [c92b0]) | skip)
           as_aux_lemma =>
            have H' := Aside0.mk H
            clear H
            go_wp2
            go_meet
            case rel => exact ⟨_, (true), (by first | rfl | (simp; done) | (simp [*]; done) | (simp [i64_w]; done) | (simp [*, i64_w]; done)), H', ⟨by have := HJ6.out; have := HJ33.out; first | omega | exact Nat.le_refl _⟩, ⟨by exact Kd.V_mono (Kd.V_far (p := ⟨gb739, 0, none⟩) (Kd.V_mono HO_705000.out (fun k_ hk => (⟨hk, hk.2⟩ : _ ∧ k_ ≠ gb739))) (fun _ hk => hk.2) (.slice Ao85 t735.length co85)) (fun _ hk => ⟨hk.1.1.1, ⟨hk.1.1.2.1, ⟨hk.1.1.2.2.1, ⟨hk.1.1.2.2.2.1, ⟨hk.1.1.2.2.2.2, hk.1.2⟩⟩⟩⟩⟩)⟩, ⟨by exact Kd.V_mono (Kd.V_far (p := ⟨gb739, 0, none⟩) (Kd.V_mono HO_714000.out (fun k_ hk => (⟨hk, hk.2⟩ : _ ∧ k_ ≠ gb739))) (fun _ hk => hk.2) (.slice Ao85 t735.length co85)) (fun _ hk => ⟨hk.1.1.1, ⟨hk.1.1.2.1, ⟨hk.1.1.2.2.1, ⟨hk.1.1.2.2.2.1, ⟨hk.1.1.2.2.2.2, hk.1.2⟩⟩⟩⟩⟩)⟩, ⟨by exact Kd.V_mono (Kd.V_far (p := ⟨gb739, 0, none⟩) (Kd.V_mono HO_723000.out (fun k_ hk => (⟨hk, hk.2⟩ : _ ∧ k_ ≠ gb739))) (fun _ hk => hk.2) (.slice Ao85 t735.length co85)) (fun _ hk => ⟨hk.1.1.1, ⟨hk.1.1.2.1, ⟨hk.1.1.2.2.1, ⟨hk.1.1.2.2.2.1, ⟨hk.1.1.2.2.2.2, hk.1.2⟩⟩⟩⟩⟩)⟩, ⟨by exact Kd.V_mono (Kd.V_far (p := ⟨gb739, 0, none⟩) (Kd.V_mono HO_729000.out (fun k_ hk => (⟨hk, hk.2⟩ : _ ∧ k_ ≠ gb739))) (fun _ hk => hk.2) (.slice Ao85 t735.length co85)) (fun _ hk => ⟨hk.1.1.1, ⟨hk.1.1.2.1, ⟨hk.1.1.2.2.1, ⟨hk.1.1.2.2.2.1, ⟨hk.1.1.2.2.2.2, hk.1.2⟩⟩⟩⟩⟩)⟩, ⟨by exact Kd.V_mono (Kd.V_far (p := ⟨gb739, 0, none⟩) (Kd.V_mono HO_734000.out (fun k_ hk => (⟨hk, hk.2⟩ : _ ∧ k_ ≠ gb739))) (fun _ hk => hk.2) (.slice Ao85 t735.length co85)) (fun _ hk => ⟨hk.1.1.1, ⟨hk.1.1.2.1, ⟨hk.1.1.2.2.1, ⟨hk.1.1.2.2.2.1, ⟨hk.1.1.2.2.2.2, hk.1.2⟩⟩⟩⟩⟩)⟩, ⟨by exact Kd.V_mono (Kd.V_far (p := ⟨gb739, 0, none⟩) (Kd.V_mono HO737.out (fun k_ hk => (⟨hk, hk.2⟩ : _ ∧ k_ ≠ gb739))) (fun _ hk => hk.2) (.slice Ao85 t735.length co85)) (fun _ hk => ⟨hk.1.1.1, ⟨hk.1.1.2.1, ⟨hk.1.1.2.2.1, ⟨hk.1.1.2.2.2.1, ⟨hk.1.1.2.2.2.2, hk.1.2⟩⟩⟩⟩⟩)⟩, ⟨by refine blk_far ?_ NB704_739.out _; exact BK704.out⟩, ⟨by refine blk_far ?_ NB713_739.out _; exact BK713.out⟩, ⟨by refine blk_far ?_ NB722_739.out _; exact BK722.out⟩, ⟨by refine blk_far ?_ NB728_739.out _; exact BK728.out⟩, ⟨by refine blk_far ?_ NB733_739.out _; exact BK733.out⟩, ⟨by refine blk_put (cs := #[.slice none 0 0]) ?_ 0 _ rfl; exact BK739.out⟩, ⟨by repeat (first | exact HB.out | refine sb ?_ GE704 | refine sb ?_ GE713 | refine sb ?_ GE722 | refine sb ?_ GE728 | refine sb ?_ GE733 | refine sb ?_ GE739)⟩⟩
         case rest =>
          clear HC73
          try clear c1
          try clear c2
          try clear p2
          try clear c3
          try clear c4
          try clear c5
          try clear c6
          try clear c7
          try clear c8
          try clear c9
          try clear c10
          try clear c12
          try clear c15
          try clear c20
          try clear c21
          try clear c24
          try clear c25
          try clear c26
          try clear c31
          try clear c33
          try clear c35
          try clear c36
          try clear c38
          try clear c42
          try clear c43
          try clear c44
          try clear c45
          try clear c52
          try clear c53
          try clear c54
          try clear c55
          try clear c57
          try clear c57b0
          try clear c57b1
          try clear c59
          try clear c60
          try clear c61
          try clear c62
          try clear c64
          try clear c65
          try clear c66
          try clear c69
          try clear c71
          try clear c71b0
          try clear c71b1
          try clear c74
          try clear c75
          try clear c76
          try clear c77
          try clear c79
          try clear c80
          try clear c81
          try clear c86
          try clear c87
          try clear c88
          try clear c89
          try clear c90
          try clear c92
          try clear c92b0
          try clear c92b1
          try clear c94
          try clear c95
          try clear c96
          try clear c97
          try clear c98
          try clear c100
          try clear c101
          try clear c102
          try clear c103
          try clear hcz104_0
          try clear hcz11_0
          try clear hcz16_0
          try clear hcz22_0
          try clear hcz37_0
          try clear hcz39_0
          try clear hcz46_0
          try clear hcz47_0
          try clear hcz48_0
          try clear hcz56_0
          try clear hcz63_0
          try clear hcz67_0
          try clear hcz78_0
          try clear hcz82_0
          try clear hcz91_0
          try clear hcz99_0
          try clear hfz104_0
          try clear hfz11_0
          try clear hfz16_0
          try clear hfz22_0
          try clear hfz37_0
          try clear hfz39_0
          try clear hfz46_0
          try clear hfz47_0
          try clear hfz48_0
          try clear hfz56_0
          try clear hfz63_0
          try clear hfz67_0
          try clear hfz78_0
          try clear hfz82_0
          try clear hfz91_0
          try clear hfz99_0
          try clear p2
          obtain ⟨kq, x108_72, rfl, HA, HJ72, HO_705000, HO_714000, HO_723000, HO_729000, HO_734000, HO_740000, BK704, BK713, BK722, BK728, BK733, BK739, HB⟩ := hcut
          cases kq with
          | zero => exact absurd HA.out (by simp [heraldlaw04_NatRing.j2])
          | succ kj72 =>
           have H := HA.out
           clear HA
           simp only [heraldlaw04_NatRing.j2] at H
           by_cases c106 : x108_72 = true
           ·subst c106
            have H1 : (some false) = some r := by rw [if_pos rfl] at H; exact H
            clear H
            have H := H1
            clear H1
            as_aux_lemma =>
             obtain rfl := Option.some.inj H
             go_wp2
             go_ret
             exact ⟨by first | rfl | (simp [errW_none, errW_some] <;> rfl) | (simp [*, errW_none, errW_some] <;> rfl), by repeat (first | exact HB.out | refine sb ?_ GE704 | refine sb ?_ GE713 | refine sb ?_ GE722 | refine sb ?_ GE728 | refine sb ?_ GE733 | refine sb ?_ GE739)⟩
           ·replace c106 := Bool.eq_false_iff.mpr c106
            subst c106
            have H1 : (heraldlaw04_NatRing.j3 kj72 t727 t699 t708 t717 t724) = some r := by rw [if_neg (show ¬ (false = true) by decide)] at H; exact H
            clear H
            have H := H1
            clear H1
            as_aux_lemma =>
             have H' := Aside0.mk H
             clear H
             go_wp2
             go_meet
             case rel => exact ⟨_, H', ⟨by have := HJ6.out; have := HJ33.out; have := HJ72.out; first | omega | exact Nat.le_refl _⟩, ⟨by exact Kd.V_mono HO_705000.out (fun _ hk => ⟨hk.1, ⟨hk.2.1, ⟨hk.2.2.1, ⟨hk.2.2.2.1, hk.2.2.2.2.1⟩⟩⟩⟩)⟩, ⟨by exact Kd.V_mono HO_714000.out (fun _ hk => ⟨hk.1, ⟨hk.2.1, ⟨hk.2.2.1, ⟨hk.2.2.2.1, hk.2.2.2.2.1⟩⟩⟩⟩)⟩, ⟨by exact Kd.V_mono HO_723000.out (fun _ hk => ⟨hk.1, ⟨hk.2.1, ⟨hk.2.2.1, ⟨hk.2.2.2.1, hk.2.2.2.2.1⟩⟩⟩⟩)⟩, ⟨by exact Kd.V_mono HO_729000.out (fun _ hk => ⟨hk.1, ⟨hk.2.1, ⟨hk.2.2.1, ⟨hk.2.2.2.1, hk.2.2.2.2.1⟩⟩⟩⟩)⟩, ⟨by exact Kd.V_mono HO_734000.out (fun _ hk => ⟨hk.1, ⟨hk.2.1, ⟨hk.2.2.1, ⟨hk.2.2.2.1, hk.2.2.2.2.1⟩⟩⟩⟩)⟩, ⟨by exact BK704.out⟩, ⟨by exact BK713.out⟩, ⟨by exact BK722.out⟩, ⟨by exact BK728.out⟩, ⟨by exact BK733.out⟩, ⟨by repeat (first | exact HB.out | refine sb ?_ GE704 | refine sb ?_ GE713 | refine sb ?_ GE722 | refine sb ?_ GE728 | refine sb ?_ GE733 | refine sb ?_ GE739)⟩⟩
        ·rw [if_neg c71] at H
         have c71b0 : (t727 == 0) = false := beq_eq_false_iff_ne.mpr c71
         have c71b1 : (t727 != 0) = true := bne_iff_ne.mpr c71
         (first | rw [c71b0] | (simp only [i64_w, i32_w]; rw [c71b0]) | skip)
         as_aux_lemma =>
          have H' := Aside0.mk H
          clear H
          go_wp2
          go_meet
          case rel => exact ⟨_, H', ⟨by have := HJ6.out; have := HJ33.out; first | omega | exact Nat.le_refl _⟩, ⟨by exact HO_705000.out⟩, ⟨by exact HO_714000.out⟩, ⟨by exact HO_723000.out⟩, ⟨by exact HO_729000.out⟩, ⟨by exact HO_734000.out⟩, ⟨by exact BK704.out⟩, ⟨by exact BK713.out⟩, ⟨by exact BK722.out⟩, ⟨by exact BK728.out⟩, ⟨by exact BK733.out⟩, ⟨by repeat (first | exact HB.out | refine sb ?_ GE704 | refine sb ?_ GE713 | refine sb ?_ GE722 | refine sb ?_ GE728 | refine sb ?_ GE733)⟩⟩
       case rest =>
        clear HC70
        try clear c1
        try clear c2
        try clear p2
        try clear c3
        try clear c4
        try clear c5
        try clear c6
        try clear c7
        try clear c8
        try clear c9
        try clear c10
        try clear c12
        try clear c15
        try clear c20
        try clear c21
        try clear c24
        try clear c25
        try clear c26
        try clear c31
        try clear c33
        try clear c35
        try clear c36
        try clear c38
        try clear c42
        try clear c43
        try clear c44
        try clear c45
        try clear c52
        try clear c53
        try clear c54
        try clear c55
        try clear c57
        try clear c57b0
        try clear c57b1
        try clear c59
        try clear c60
        try clear c61
        try clear c62
        try clear c64
        try clear c65
        try clear c66
        try clear c69
        try clear c71
        try clear c71b0
        try clear c71b1
        try clear c74
        try clear c75
        try clear c76
        try clear c77
        try clear c79
        try clear c80
        try clear c81
        try clear c86
        try clear c87
        try clear c88
        try clear c89
        try clear c90
        try clear c92
        try clear c92b0
        try clear c92b1
        try clear c94
        try clear c95
        try clear c96
        try clear c97
        try clear c98
        try clear c100
        try clear c101
        try clear c102
        try clear c103
        try clear c106
        try clear hcz104_0
        try clear hcz11_0
        try clear hcz16_0
        try clear hcz22_0
        try clear hcz37_0
        try clear hcz39_0
        try clear hcz46_0
        try clear hcz47_0
        try clear hcz48_0
        try clear hcz56_0
        try clear hcz63_0
        try clear hcz67_0
        try clear hcz78_0
        try clear hcz82_0
        try clear hcz91_0
        try clear hcz99_0
        try clear hfz104_0
        try clear hfz11_0
        try clear hfz16_0
        try clear hfz22_0
        try clear hfz37_0
        try clear hfz39_0
        try clear hfz46_0
        try clear hfz47_0
        try clear hfz48_0
        try clear hfz56_0
        try clear hfz63_0
        try clear hfz67_0
        try clear hfz78_0
        try clear hfz82_0
        try clear hfz91_0
        try clear hfz99_0
        try clear p2
        obtain ⟨kq, HA, HJ69, HO_705000, HO_714000, HO_723000, HO_729000, HO_734000, BK704, BK713, BK722, BK728, BK733, HB⟩ := hcut
        cases kq with
        | zero => exact absurd HA.out (by simp [heraldlaw04_NatRing.j3])
        | succ kj69 =>
         have H := HA.out
         clear HA
         simp only [heraldlaw04_NatRing.j3] at H
         replace H := Option.bind_eq_some_iff.mp H
         obtain ⟨⟨t741, t744⟩, A1070, H⟩ := H
         replace H : ((nat_Nat_Mul.f kj69 t708 t717).bind fun bt746 => ((nat_Nat_Mul.f kj69 t724 t717).bind fun bt751 => (if t727 = 0 then (if t744 = 0 then (heraldlaw04_NatRing.j4 kj69 bt751.2 (bt746.2 == 0) t699 t708 t741 bt746.1 bt751.1) else (heraldlaw04_NatRing.j4 kj69 bt751.2 false t699 t708 t741 bt746.1 bt751.1)) else (heraldlaw04_NatRing.j4 kj69 bt751.2 false t699 t708 t741 bt746.1 bt751.1)))) = some r := H
         have A107 := Aside0.mk A1070
         clear A1070
         replace H := Option.bind_eq_some_iff.mp H
         obtain ⟨⟨t746, t749⟩, A1080, H⟩ := H
         replace H : ((nat_Nat_Mul.f kj69 t724 t717).bind fun bt751 => (if t727 = 0 then (if t744 = 0 then (heraldlaw04_NatRing.j4 kj69 bt751.2 (t749 == 0) t699 t708 t741 t746 bt751.1) else (heraldlaw04_NatRing.j4 kj69 bt751.2 false t699 t708 t741 t746 bt751.1)) else (heraldlaw04_NatRing.j4 kj69 bt751.2 false t699 t708 t741 t746 bt751.1))) = some r := H
         have A108 := Aside0.mk A1080
         clear A1080
         replace H := Option.bind_eq_some_iff.mp H
         obtain ⟨⟨t751, t754⟩, A1090, H⟩ := H
         replace H : (if t727 = 0 then (if t744 = 0 then (heraldlaw04_NatRing.j4 kj69 t754 (t749 == 0) t699 t708 t741 t746 t751) else (heraldlaw04_NatRing.j4 kj69 t754 false t699 t708 t741 t746 t751)) else (heraldlaw04_NatRing.j4 kj69 t754 false t699 t708 t741 t746 t751)) = some r := H
         have A109 := Aside0.mk A1090
         clear A1090
         have HC110 := Aside0.mk H
         clear H
         have hnb111 := NB704_713.out
         have hnc111 := NB713_704.out
         have hnb112 := NB704_722.out
         have hnc112 := NB722_704.out
         have hnb113 := NB704_728.out
         have hnc113 := NB728_704.out
         have hnb114 := NB704_733.out
         have hnc114 := NB733_704.out
         have hcz115_0 : wc.cell? ⟨gb704, 0, none⟩ = some (.slice Ao10 t699.length co10) := (blk_cell BK704.out 0).trans rfl
         have hfz115_0 := blk_frozen BK704.out 0
         have hnb116 := NB722_713.out
         have hnc116 := NB713_722.out
         have hnb117 := NB722_728.out
         have hnc117 := NB728_722.out
         have hnb118 := NB722_733.out
         have hnc118 := NB733_722.out
         have hcz119_0 : wc.cell? ⟨gb722, 0, none⟩ = some (.slice Ao19 t717.length co19) := (blk_cell BK722.out 0).trans rfl
         have hfz119_0 := blk_frozen BK722.out 0
         go_upto_region 17 with (first | ((with_reducible refine gate_callee (f := 44) rfl ?_); refine goesL_ (some 112) rfl rfl Tryd.func44 (by kernel_rfl) rfl #[.agg #[.slice Ao10 t699.length co10], .agg #[.slice Ao19 t717.length co19]] rfl (by (try simp only [List.map_toArray, List.map_cons, List.map_nil]); first | done | rfl | (simp only [List.length_drop, List.length_take]; rfl)) ?_; (with_reducible refine (nat_Nat_Mul.calls kj69 _ _ t699 _ _ t717 t741 t744 _ ?side1 ?side2 ?side3 ?side4 A107.out).mono ?_); (case side1 => exact (Kd.V_reads' HO_705000.out).2.2); (case side2 => exact (Kd.V_reads' HO_705000.out).2.1); (case side3 => exact (Kd.V_reads' HO_723000.out).2.2); (case side4 => exact (Kd.V_reads' HO_723000.out).2.1); rintro e w120 ⟨v742, rfl, ho0, hb⟩; refine ⟨_, rfl, ?_⟩; have HO743 := Aside0.mk (Kd.V_lower (Kd.V_mono (ok' := fun k_ => k_ ≠ gb704 ∧ k_ ≠ gb713 ∧ k_ ≠ gb722 ∧ k_ ≠ gb728 ∧ k_ ≠ gb733) ho0 (fun k_ hk_ => ⟨(fb BK704 k_ hk_), (fb BK713 k_ hk_), (fb BK722 k_ hk_), (fb BK728 k_ hk_), (fb BK733 k_ hk_)⟩)) (below_size (by repeat (first | exact HB.out | refine sb ?_ GE704 | refine sb ?_ GE713 | refine sb ?_ GE722 | refine sb ?_ GE728 | refine sb ?_ GE733)))); replace HO_705000 := vb HO_705000 hb; replace HO_714000 := vb HO_714000 hb; replace HO_723000 := vb HO_723000 hb; replace HO_729000 := vb HO_729000 hb; replace HO_734000 := vb HO_734000 hb; replace BK704 := bb BK704 hb; replace BK713 := bb BK713 hb; replace BK722 := bb BK722 hb; replace BK728 := bb BK728 hb; replace BK733 := bb BK733 hb; replace HB := Aside0.mk (below_step (by repeat (first | exact HB.out | refine sb ?_ GE704 | refine sb ?_ GE713 | refine sb ?_ GE722 | refine sb ?_ GE728 | refine sb ?_ GE733)) hb); (try clear hb); (try clear hk); (try clear hi); (try clear ho0)) | ((with_reducible refine gate_dst (N := 25) rfl ?_); refine box_event ?hg (N := 25) ?hd (cs := #[.slice none 0 0]) (t := 26) ?hr ?_; (case hd => rfl); (case hg => rfl); (case hr => first | (go_simp; done) | (go_simp; rfl)); intro gb745 hg w121 hbox hb; have BK745 := Aside0.mk (hbox); have GW745 := Aside0.mk ((by rw [hg]; exact (below_size (by repeat (first | exact HB.out | refine sb ?_ GE704 | refine sb ?_ GE713 | refine sb ?_ GE722 | refine sb ?_ GE728 | refine sb ?_ GE733))) : w.heap.size ≤ gb745)); have GE745 := Aside0.mk ((by rw [hg]; exact (below_size (by repeat (first | exact HB.out | refine sb ?_ GE704 | refine sb ?_ GE713 | refine sb ?_ GE722 | refine sb ?_ GE728 | refine sb ?_ GE733))) : w.heap.size ≤ gb745)); have NB704_745 := nl BK704 hg; have NB745_704 := ng BK704 hg; have NB713_745 := nl BK713 hg; have NB745_713 := ng BK713 hg; have NB722_745 := nl BK722 hg; have NB745_722 := ng BK722 hg; have NB728_745 := nl BK728 hg; have NB745_728 := ng BK728 hg; have NB733_745 := nl BK733 hg; have NB745_733 := ng BK733 hg; replace HO_705000 := ve HO_705000 gb745 hg hb; replace HO_714000 := ve HO_714000 gb745 hg hb; replace HO_723000 := ve HO_723000 gb745 hg hb; replace HO_729000 := ve HO_729000 gb745 hg hb; replace HO_734000 := ve HO_734000 gb745 hg hb; replace HO743 := ve HO743 gb745 hg hb; replace BK704 := bb BK704 hb; replace BK713 := bb BK713 hb; replace BK722 := bb BK722 hb; replace BK728 := bb BK728 hb; replace BK733 := bb BK733 hb; replace HB := Aside0.mk (below_step (by repeat (first | exact HB.out | refine sb ?_ GE704 | refine sb ?_ GE713 | refine sb ?_ GE722 | refine sb ?_ GE728 | refine sb ?_ GE733)) hb); clear hb hbox hg; obtain ⟨Ao122, co122, eo122⟩ := Kd.V_slice HO743.out; subst eo122; have hnb123 := NB745_704.out; have hnc123 := NB704_745.out; have hnb124 := NB745_713.out; have hnc124 := NB713_745.out; have hnb125 := NB745_722.out; have hnc125 := NB722_745.out; have hnb126 := NB745_728.out; have hnc126 := NB728_745.out; have hnb127 := NB745_733.out; have hnc127 := NB733_745.out; have hcz128_0 : w121.cell? ⟨gb745, 0, none⟩ = some (.slice none 0 0) := (blk_cell BK745.out 0).trans rfl; have hfz128_0 := blk_frozen BK745.out 0; have hnb129 := NB713_728.out; have hnc129 := NB728_713.out; have hnb130 := NB713_733.out; have hnc130 := NB733_713.out; have hcz131_0 : w121.cell? ⟨gb713, 0, none⟩ = some (.slice Ao14 t708.length co14) := (blk_cell BK713.out 0).trans rfl; have hfz131_0 := blk_frozen BK713.out 0; have hcz132_0 : w121.cell? ⟨gb722, 0, none⟩ = some (.slice Ao19 t717.length co19) := (blk_cell BK722.out 0).trans rfl; have hfz132_0 := blk_frozen BK722.out 0) | ((with_reducible refine gate_callee (f := 44) rfl ?_); refine goesL_ (some 118) rfl rfl Tryd.func44 (by kernel_rfl) rfl #[.agg #[.slice Ao14 t708.length co14], .agg #[.slice Ao19 t717.length co19]] rfl (by (try simp only [List.map_toArray, List.map_cons, List.map_nil]); first | done | rfl | (simp only [List.length_drop, List.length_take]; rfl)) ?_; (with_reducible refine (nat_Nat_Mul.calls kj69 _ _ t708 _ _ t717 t746 t749 _ ?side1 ?side2 ?side3 ?side4 A108.out).mono ?_); (case side1 => refine (Kd.V_reads' (e := 79) (base := w.heap.size) (ok := fun k_ => ((k_ ≠ gb704 ∧ (k_ ≠ gb713 ∧ (k_ ≠ gb722 ∧ (k_ ≠ gb728 ∧ k_ ≠ gb733)))) ∧ k_ ≠ gb745)) (n := t708.length) (c := co14) ?_).2.2; exact (by exact (Kd.V_mono (Kd.V_far (p := ⟨gb745, 0, none⟩) (Kd.V_mono HO_714000.out (fun k_ hk => (⟨hk, hk.2⟩ : _ ∧ k_ ≠ gb745))) (fun _ hk => hk.2) (.slice Ao122 t741.length co122)) (fun _ h_ => h_.1)))); (case side2 => exact (Kd.V_reads' HO_714000.out).2.1); (case side3 => refine (Kd.V_reads' (e := 79) (base := w.heap.size) (ok := fun k_ => ((k_ ≠ gb704 ∧ (k_ ≠ gb713 ∧ (k_ ≠ gb722 ∧ (k_ ≠ gb728 ∧ k_ ≠ gb733)))) ∧ k_ ≠ gb745)) (n := t717.length) (c := co19) ?_).2.2; exact (by exact (Kd.V_mono (Kd.V_far (p := ⟨gb745, 0, none⟩) (Kd.V_mono HO_723000.out (fun k_ hk => (⟨hk, hk.2⟩ : _ ∧ k_ ≠ gb745))) (fun _ hk => hk.2) (.slice Ao122 t741.length co122)) (fun _ h_ => h_.1)))); (case side4 => exact (Kd.V_reads' HO_723000.out).2.1); rintro e w133 ⟨v747, rfl, ho0, hb⟩; refine ⟨_, rfl, ?_⟩; have HO748 := Aside0.mk (Kd.V_lower (Kd.V_mono (ok' := fun k_ => k_ ≠ gb704 ∧ k_ ≠ gb713 ∧ k_ ≠ gb722 ∧ k_ ≠ gb728 ∧ k_ ≠ gb733 ∧ k_ ≠ gb745) ho0 (fun k_ hk_ => ⟨(Kd.freshB (g := gb704) (o := .cells #[.slice Ao10 t699.length co10] 26 (0, 0)) (by refine blk_far ?_ NB704_745.out _; exact BK704.out) k_ hk_), (Kd.freshB (g := gb713) (o := .cells #[.slice Ao14 t708.length co14] 26 (0, 0)) (by refine blk_far ?_ NB713_745.out _; exact BK713.out) k_ hk_), (Kd.freshB (g := gb722) (o := .cells #[.slice Ao19 t717.length co19] 26 (0, 0)) (by refine blk_far ?_ NB722_745.out _; exact BK722.out) k_ hk_), (Kd.freshB (g := gb728) (o := .cells #[.slice Ao42 t724.length co42] 26 (0, 0)) (by refine blk_far ?_ NB728_745.out _; exact BK728.out) k_ hk_), (Kd.freshB (g := gb733) (o := .cells #[.slice Ao51 t729.length co51] 26 (0, 0)) (by refine blk_far ?_ NB733_745.out _; exact BK733.out) k_ hk_), (Kd.freshB (g := gb745) (o := .cells #[.slice Ao122 t741.length co122] 26 (0, 0)) (by refine blk_put (cs := #[.slice none 0 0]) ?_ 0 _ rfl; exact BK745.out) k_ hk_)⟩)) (below_size (by repeat (first | exact HB.out | refine sb ?_ GE704 | refine sb ?_ GE713 | refine sb ?_ GE722 | refine sb ?_ GE728 | refine sb ?_ GE733 | refine sb ?_ GE745)))); replace HO_705000 := vf HO_705000 (fun k_ hk => hk.2) hb; replace HO_714000 := vf HO_714000 (fun k_ hk => hk.2) hb; replace HO_723000 := vf HO_723000 (fun k_ hk => hk.2) hb; replace HO_729000 := vf HO_729000 (fun k_ hk => hk.2) hb; replace HO_734000 := vf HO_734000 (fun k_ hk => hk.2) hb; replace HO743 := vf HO743 (fun k_ hk => hk.2) hb; replace BK704 := bf BK704 NB704_745 hb; replace BK713 := bf BK713 NB713_745 hb; replace BK722 := bf BK722 NB722_745 hb; replace BK728 := bf BK728 NB728_745 hb; replace BK733 := bf BK733 NB733_745 hb; replace BK745 := Aside0.mk (blk_below (g := gb745) (o := .cells #[.slice Ao122 t741.length co122] 26 (0, 0)) (by refine blk_put (cs := #[.slice none 0 0]) ?_ 0 _ rfl; exact BK745.out) hb); replace HB := Aside0.mk (below_step (by repeat (first | exact HB.out | refine sb ?_ GE704 | refine sb ?_ GE713 | refine sb ?_ GE722 | refine sb ?_ GE728 | refine sb ?_ GE733 | refine sb ?_ GE745)) hb); (try clear hb); (try clear hk); (try clear hi); (try clear ho0)) | ((with_reducible refine gate_dst (N := 27) rfl ?_); refine box_event ?hg (N := 27) ?hd (cs := #[.slice none 0 0]) (t := 26) ?hr ?_; (case hd => rfl); (case hg => rfl); (case hr => first | (go_simp; done) | (go_simp; rfl)); intro gb750 hg w134 hbox hb; have BK750 := Aside0.mk (hbox); have GW750 := Aside0.mk ((by rw [hg]; exact (below_size (by repeat (first | exact HB.out | refine sb ?_ GE704 | refine sb ?_ GE713 | refine sb ?_ GE722 | refine sb ?_ GE728 | refine sb ?_ GE733 | refine sb ?_ GE745))) : w.heap.size ≤ gb750)); have GE750 := Aside0.mk ((by rw [hg]; exact (below_size (by repeat (first | exact HB.out | refine sb ?_ GE704 | refine sb ?_ GE713 | refine sb ?_ GE722 | refine sb ?_ GE728 | refine sb ?_ GE733 | refine sb ?_ GE745))) : w.heap.size ≤ gb750)); have NB704_750 := nl BK704 hg; have NB750_704 := ng BK704 hg; have NB713_750 := nl BK713 hg; have NB750_713 := ng BK713 hg; have NB722_750 := nl BK722 hg; have NB750_722 := ng BK722 hg; have NB728_750 := nl BK728 hg; have NB750_728 := ng BK728 hg; have NB733_750 := nl BK733 hg; have NB750_733 := ng BK733 hg; have NB745_750 := nl BK745 hg; have NB750_745 := ng BK745 hg; replace HO_705000 := ve HO_705000 gb750 hg hb; replace HO_714000 := ve HO_714000 gb750 hg hb; replace HO_723000 := ve HO_723000 gb750 hg hb; replace HO_729000 := ve HO_729000 gb750 hg hb; replace HO_734000 := ve HO_734000 gb750 hg hb; replace HO743 := ve HO743 gb750 hg hb; replace HO748 := ve HO748 gb750 hg hb; replace BK704 := bb BK704 hb; replace BK713 := bb BK713 hb; replace BK722 := bb BK722 hb; replace BK728 := bb BK728 hb; replace BK733 := bb BK733 hb; replace BK745 := bb BK745 hb; replace HB := Aside0.mk (below_step (by repeat (first | exact HB.out | refine sb ?_ GE704 | refine sb ?_ GE713 | refine sb ?_ GE722 | refine sb ?_ GE728 | refine sb ?_ GE733 | refine sb ?_ GE745)) hb); clear hb hbox hg; obtain ⟨Ao135, co135, eo135⟩ := Kd.V_slice HO748.out; subst eo135; have hnb136 := NB750_704.out; have hnc136 := NB704_750.out; have hnb137 := NB750_713.out; have hnc137 := NB713_750.out; have hnb138 := NB750_722.out; have hnc138 := NB722_750.out; have hnb139 := NB750_728.out; have hnc139 := NB728_750.out; have hnb140 := NB750_733.out; have hnc140 := NB733_750.out; have hnb141 := NB750_745.out; have hnc141 := NB745_750.out; have hcz142_0 : w134.cell? ⟨gb750, 0, none⟩ = some (.slice none 0 0) := (blk_cell BK750.out 0).trans rfl; have hfz142_0 := blk_frozen BK750.out 0; have hnb143 := NB728_733.out; have hnc143 := NB733_728.out; have hcz144_0 : w134.cell? ⟨gb728, 0, none⟩ = some (.slice Ao42 t724.length co42) := (blk_cell BK728.out 0).trans rfl; have hfz144_0 := blk_frozen BK728.out 0; have hcz145_0 : w134.cell? ⟨gb722, 0, none⟩ = some (.slice Ao19 t717.length co19) := (blk_cell BK722.out 0).trans rfl; have hfz145_0 := blk_frozen BK722.out 0) | ((with_reducible refine gate_callee (f := 44) rfl ?_); refine goesL_ (some 124) rfl rfl Tryd.func44 (by kernel_rfl) rfl #[.agg #[.slice Ao42 t724.length co42], .agg #[.slice Ao19 t717.length co19]] rfl (by (try simp only [List.map_toArray, List.map_cons, List.map_nil]); first | done | rfl | (simp only [List.length_drop, List.length_take]; rfl)) ?_; (with_reducible refine (nat_Nat_Mul.calls kj69 _ _ t724 _ _ t717 t751 t754 _ ?side1 ?side2 ?side3 ?side4 A109.out).mono ?_); (case side1 => refine (Kd.V_reads' (e := 79) (base := w.heap.size) (ok := fun k_ => (((k_ ≠ gb704 ∧ (k_ ≠ gb713 ∧ (k_ ≠ gb722 ∧ (k_ ≠ gb728 ∧ k_ ≠ gb733)))) ∧ k_ ≠ gb745) ∧ k_ ≠ gb750)) (n := t724.length) (c := co42) ?_).2.2; exact (by exact (Kd.V_mono (Kd.V_far (p := ⟨gb750, 0, none⟩) (Kd.V_mono HO_729000.out (fun k_ hk => (⟨hk, hk.2⟩ : _ ∧ k_ ≠ gb750))) (fun _ hk => hk.2) (.slice Ao135 t746.length co135)) (fun _ h_ => h_.1)))); (case side2 => exact (Kd.V_reads' HO_729000.out).2.1); (case side3 => refine (Kd.V_reads' (e := 79) (base := w.heap.size) (ok := fun k_ => (((k_ ≠ gb704 ∧ (k_ ≠ gb713 ∧ (k_ ≠ gb722 ∧ (k_ ≠ gb728 ∧ k_ ≠ gb733)))) ∧ k_ ≠ gb745) ∧ k_ ≠ gb750)) (n := t717.length) (c := co19) ?_).2.2; exact (by exact (Kd.V_mono (Kd.V_far (p := ⟨gb750, 0, none⟩) (Kd.V_mono HO_723000.out (fun k_ hk => (⟨hk, hk.2⟩ : _ ∧ k_ ≠ gb750))) (fun _ hk => hk.2) (.slice Ao135 t746.length co135)) (fun _ h_ => h_.1)))); (case side4 => exact (Kd.V_reads' HO_723000.out).2.1); rintro e w146 ⟨v752, rfl, ho0, hb⟩; refine ⟨_, rfl, ?_⟩; have HO753 := Aside0.mk (Kd.V_lower (Kd.V_mono (ok' := fun k_ => k_ ≠ gb704 ∧ k_ ≠ gb713 ∧ k_ ≠ gb722 ∧ k_ ≠ gb728 ∧ k_ ≠ gb733 ∧ k_ ≠ gb745 ∧ k_ ≠ gb750) ho0 (fun k_ hk_ => ⟨(Kd.freshB (g := gb704) (o := .cells #[.slice Ao10 t699.length co10] 26 (0, 0)) (by refine blk_far ?_ NB704_750.out _; exact BK704.out) k_ hk_), (Kd.freshB (g := gb713) (o := .cells #[.slice Ao14 t708.length co14] 26 (0, 0)) (by refine blk_far ?_ NB713_750.out _; exact BK713.out) k_ hk_), (Kd.freshB (g := gb722) (o := .cells #[.slice Ao19 t717.length co19] 26 (0, 0)) (by refine blk_far ?_ NB722_750.out _; exact BK722.out) k_ hk_), (Kd.freshB (g := gb728) (o := .cells #[.slice Ao42 t724.length co42] 26 (0, 0)) (by refine blk_far ?_ NB728_750.out _; exact BK728.out) k_ hk_), (Kd.freshB (g := gb733) (o := .cells #[.slice Ao51 t729.length co51] 26 (0, 0)) (by refine blk_far ?_ NB733_750.out _; exact BK733.out) k_ hk_), (Kd.freshB (g := gb745) (o := .cells #[.slice Ao122 t741.length co122] 26 (0, 0)) (by refine blk_far ?_ NB745_750.out _; exact BK745.out) k_ hk_), (Kd.freshB (g := gb750) (o := .cells #[.slice Ao135 t746.length co135] 26 (0, 0)) (by refine blk_put (cs := #[.slice none 0 0]) ?_ 0 _ rfl; exact BK750.out) k_ hk_)⟩)) (below_size (by repeat (first | exact HB.out | refine sb ?_ GE704 | refine sb ?_ GE713 | refine sb ?_ GE722 | refine sb ?_ GE728 | refine sb ?_ GE733 | refine sb ?_ GE745 | refine sb ?_ GE750)))); replace HO_705000 := vf HO_705000 (fun k_ hk => hk.2) hb; replace HO_714000 := vf HO_714000 (fun k_ hk => hk.2) hb; replace HO_723000 := vf HO_723000 (fun k_ hk => hk.2) hb; replace HO_729000 := vf HO_729000 (fun k_ hk => hk.2) hb; replace HO_734000 := vf HO_734000 (fun k_ hk => hk.2) hb; replace HO743 := vf HO743 (fun k_ hk => hk.2) hb; replace HO748 := vf HO748 (fun k_ hk => hk.2) hb; replace BK704 := bf BK704 NB704_750 hb; replace BK713 := bf BK713 NB713_750 hb; replace BK722 := bf BK722 NB722_750 hb; replace BK728 := bf BK728 NB728_750 hb; replace BK733 := bf BK733 NB733_750 hb; replace BK745 := bf BK745 NB745_750 hb; replace BK750 := Aside0.mk (blk_below (g := gb750) (o := .cells #[.slice Ao135 t746.length co135] 26 (0, 0)) (by refine blk_put (cs := #[.slice none 0 0]) ?_ 0 _ rfl; exact BK750.out) hb); replace HB := Aside0.mk (below_step (by repeat (first | exact HB.out | refine sb ?_ GE704 | refine sb ?_ GE713 | refine sb ?_ GE722 | refine sb ?_ GE728 | refine sb ?_ GE733 | refine sb ?_ GE745 | refine sb ?_ GE750)) hb); (try clear hb); (try clear hk); (try clear hi); (try clear ho0)) | ((with_reducible refine gate_dst (N := 29) rfl ?_); refine box_event ?hg (N := 29) ?hd (cs := #[.slice none 0 0]) (t := 26) ?hr ?_; (case hd => rfl); (case hg => rfl); (case hr => first | (go_simp; done) | (go_simp; rfl)); intro gb755 hg w147 hbox hb; have BK755 := Aside0.mk (hbox); have GW755 := Aside0.mk ((by rw [hg]; exact (below_size (by repeat (first | exact HB.out | refine sb ?_ GE704 | refine sb ?_ GE713 | refine sb ?_ GE722 | refine sb ?_ GE728 | refine sb ?_ GE733 | refine sb ?_ GE745 | refine sb ?_ GE750))) : w.heap.size ≤ gb755)); have GE755 := Aside0.mk ((by rw [hg]; exact (below_size (by repeat (first | exact HB.out | refine sb ?_ GE704 | refine sb ?_ GE713 | refine sb ?_ GE722 | refine sb ?_ GE728 | refine sb ?_ GE733 | refine sb ?_ GE745 | refine sb ?_ GE750))) : w.heap.size ≤ gb755)); have NB704_755 := nl BK704 hg; have NB755_704 := ng BK704 hg; have NB713_755 := nl BK713 hg; have NB755_713 := ng BK713 hg; have NB722_755 := nl BK722 hg; have NB755_722 := ng BK722 hg; have NB728_755 := nl BK728 hg; have NB755_728 := ng BK728 hg; have NB733_755 := nl BK733 hg; have NB755_733 := ng BK733 hg; have NB745_755 := nl BK745 hg; have NB755_745 := ng BK745 hg; have NB750_755 := nl BK750 hg; have NB755_750 := ng BK750 hg; replace HO_705000 := ve HO_705000 gb755 hg hb; replace HO_714000 := ve HO_714000 gb755 hg hb; replace HO_723000 := ve HO_723000 gb755 hg hb; replace HO_729000 := ve HO_729000 gb755 hg hb; replace HO_734000 := ve HO_734000 gb755 hg hb; replace HO743 := ve HO743 gb755 hg hb; replace HO748 := ve HO748 gb755 hg hb; replace HO753 := ve HO753 gb755 hg hb; replace BK704 := bb BK704 hb; replace BK713 := bb BK713 hb; replace BK722 := bb BK722 hb; replace BK728 := bb BK728 hb; replace BK733 := bb BK733 hb; replace BK745 := bb BK745 hb; replace BK750 := bb BK750 hb; replace HB := Aside0.mk (below_step (by repeat (first | exact HB.out | refine sb ?_ GE704 | refine sb ?_ GE713 | refine sb ?_ GE722 | refine sb ?_ GE728 | refine sb ?_ GE733 | refine sb ?_ GE745 | refine sb ?_ GE750)) hb); clear hb hbox hg; obtain ⟨Ao148, co148, eo148⟩ := Kd.V_slice HO753.out; subst eo148; have hnb149 := NB755_704.out; have hnc149 := NB704_755.out; have hnb150 := NB755_713.out; have hnc150 := NB713_755.out; have hnb151 := NB755_722.out; have hnc151 := NB722_755.out; have hnb152 := NB755_728.out; have hnc152 := NB728_755.out; have hnb153 := NB755_733.out; have hnc153 := NB733_755.out; have hnb154 := NB755_745.out; have hnc154 := NB745_755.out; have hnb155 := NB755_750.out; have hnc155 := NB750_755.out; have hcz156_0 : w147.cell? ⟨gb755, 0, none⟩ = some (.slice none 0 0) := (blk_cell BK755.out 0).trans rfl; have hfz156_0 := blk_frozen BK755.out 0))
         (try simp only [Act.put, List.setIfInBounds_toArray, List.set_cons_zero, List.set_cons_succ])
         go_cut [136] (fun v136 wc => ∃ (kq : Nat) (x136_109 : Bool), v136 = .bool x136_109 ∧ Aside0 (heraldlaw04_NatRing.j4 kq t754 x136_109 t699 t708 t741 t746 t751 = some r) ∧ Aside0 (kq ≤ kj69) ∧ Aside0 (Kd.V (Kd.int .u32) 79 wc w.heap.size (fun k_ => k_ ≠ gb704 ∧ k_ ≠ gb713 ∧ k_ ≠ gb722 ∧ k_ ≠ gb728 ∧ k_ ≠ gb733 ∧ k_ ≠ gb745 ∧ k_ ≠ gb750 ∧ k_ ≠ gb755) (.slice Ao10 t699.length co10) t699) ∧ Aside0 (Kd.V (Kd.int .u32) 79 wc w.heap.size (fun k_ => k_ ≠ gb704 ∧ k_ ≠ gb713 ∧ k_ ≠ gb722 ∧ k_ ≠ gb728 ∧ k_ ≠ gb733 ∧ k_ ≠ gb745 ∧ k_ ≠ gb750 ∧ k_ ≠ gb755) (.slice Ao14 t708.length co14) t708) ∧ Aside0 (Kd.V (Kd.int .u32) 79 wc w.heap.size (fun k_ => k_ ≠ gb704 ∧ k_ ≠ gb713 ∧ k_ ≠ gb722 ∧ k_ ≠ gb728 ∧ k_ ≠ gb733 ∧ k_ ≠ gb745 ∧ k_ ≠ gb750 ∧ k_ ≠ gb755) (.slice Ao19 t717.length co19) t717) ∧ Aside0 (Kd.V (Kd.int .u32) 79 wc w.heap.size (fun k_ => k_ ≠ gb704 ∧ k_ ≠ gb713 ∧ k_ ≠ gb722 ∧ k_ ≠ gb728 ∧ k_ ≠ gb733 ∧ k_ ≠ gb745 ∧ k_ ≠ gb750 ∧ k_ ≠ gb755) (.slice Ao42 t724.length co42) t724) ∧ Aside0 (Kd.V (Kd.int .u32) 79 wc w.heap.size (fun k_ => k_ ≠ gb704 ∧ k_ ≠ gb713 ∧ k_ ≠ gb722 ∧ k_ ≠ gb728 ∧ k_ ≠ gb733 ∧ k_ ≠ gb745 ∧ k_ ≠ gb750 ∧ k_ ≠ gb755) (.slice Ao51 t729.length co51) t729) ∧ Aside0 (Kd.V (Kd.int .u32) 79 wc w.heap.size (fun k_ => k_ ≠ gb704 ∧ k_ ≠ gb713 ∧ k_ ≠ gb722 ∧ k_ ≠ gb728 ∧ k_ ≠ gb733 ∧ k_ ≠ gb745 ∧ k_ ≠ gb750 ∧ k_ ≠ gb755) (.slice Ao122 t741.length co122) t741) ∧ Aside0 (Kd.V (Kd.int .u32) 79 wc w.heap.size (fun k_ => k_ ≠ gb704 ∧ k_ ≠ gb713 ∧ k_ ≠ gb722 ∧ k_ ≠ gb728 ∧ k_ ≠ gb733 ∧ k_ ≠ gb745 ∧ k_ ≠ gb750 ∧ k_ ≠ gb755) (.slice Ao135 t746.length co135) t746) ∧ Aside0 (Kd.V (Kd.int .u32) 79 wc w.heap.size (fun k_ => k_ ≠ gb704 ∧ k_ ≠ gb713 ∧ k_ ≠ gb722 ∧ k_ ≠ gb728 ∧ k_ ≠ gb733 ∧ k_ ≠ gb745 ∧ k_ ≠ gb750 ∧ k_ ≠ gb755) (.slice Ao148 t751.length co148) t751) ∧ Aside0 (wc.heap[gb704]? = some (.cells #[(.slice Ao10 t699.length co10)] 26 (0, 0))) ∧ Aside0 (wc.heap[gb713]? = some (.cells #[(.slice Ao14 t708.length co14)] 26 (0, 0))) ∧ Aside0 (wc.heap[gb722]? = some (.cells #[(.slice Ao19 t717.length co19)] 26 (0, 0))) ∧ Aside0 (wc.heap[gb728]? = some (.cells #[(.slice Ao42 t724.length co42)] 26 (0, 0))) ∧ Aside0 (wc.heap[gb733]? = some (.cells #[(.slice Ao51 t729.length co51)] 26 (0, 0))) ∧ Aside0 (wc.heap[gb745]? = some (.cells #[(.slice Ao122 t741.length co122)] 26 (0, 0))) ∧ Aside0 (wc.heap[gb750]? = some (.cells #[(.slice Ao135 t746.length co135)] 26 (0, 0))) ∧ Aside0 (wc.heap[gb755]? = some (.cells #[(.slice Ao148 t751.length co148)] 26 (0, 0))) ∧ Aside0 (Below w.heap.size w wc))
         case first =>
          have H := HC110.out
          clear HC110
          by_cases c157 : t727 = 0
          ·rw [if_pos c157] at H
           have c157b0 : (t727 == 0) = true := beq_iff_eq.mpr c157
           have c157b1 : (t727 != 0) = false := bne_eq_false_iff_eq.mpr c157
           clear c157
           (first | rw [c157b0] | (simp only [i64_w, i32_w]; rw [c157b0]) | skip)
           by_cases c158 : t744 = 0
           ·rw [if_pos c158] at H
            have c158b0 : (t744 == 0) = true := beq_iff_eq.mpr c158
            have c158b1 : (t744 != 0) = false := bne_eq_false_iff_eq.mpr c158
            clear c158
            as_aux_lemma =>
             have H' := Aside0.mk H
             clear H
             go_wp2
             go_meet
             case rel => exact ⟨_, ((t749 == 0)), (by first | rfl | (simp; done) | (simp [*]; done) | (simp [i64_w]; done) | (simp [*, i64_w]; done)), H', ⟨by have := HJ6.out; have := HJ33.out; have := HJ69.out; first | omega | exact Nat.le_refl _⟩, ⟨by exact Kd.V_mono (Kd.V_far (p := ⟨gb755, 0, none⟩) (Kd.V_mono HO_705000.out (fun k_ hk => (⟨hk, hk.2⟩ : _ ∧ k_ ≠ gb755))) (fun _ hk => hk.2) (.slice Ao148 t751.length co148)) (fun _ hk => ⟨hk.1.1.1.1.1, ⟨hk.1.1.1.1.2.1, ⟨hk.1.1.1.1.2.2.1, ⟨hk.1.1.1.1.2.2.2.1, ⟨hk.1.1.1.1.2.2.2.2, ⟨hk.1.1.1.2, ⟨hk.1.1.2, hk.1.2⟩⟩⟩⟩⟩⟩⟩)⟩, ⟨by exact Kd.V_mono (Kd.V_far (p := ⟨gb755, 0, none⟩) (Kd.V_mono HO_714000.out (fun k_ hk => (⟨hk, hk.2⟩ : _ ∧ k_ ≠ gb755))) (fun _ hk => hk.2) (.slice Ao148 t751.length co148)) (fun _ hk => ⟨hk.1.1.1.1.1, ⟨hk.1.1.1.1.2.1, ⟨hk.1.1.1.1.2.2.1, ⟨hk.1.1.1.1.2.2.2.1, ⟨hk.1.1.1.1.2.2.2.2, ⟨hk.1.1.1.2, ⟨hk.1.1.2, hk.1.2⟩⟩⟩⟩⟩⟩⟩)⟩, ⟨by exact Kd.V_mono (Kd.V_far (p := ⟨gb755, 0, none⟩) (Kd.V_mono HO_723000.out (fun k_ hk => (⟨hk, hk.2⟩ : _ ∧ k_ ≠ gb755))) (fun _ hk => hk.2) (.slice Ao148 t751.length co148)) (fun _ hk => ⟨hk.1.1.1.1.1, ⟨hk.1.1.1.1.2.1, ⟨hk.1.1.1.1.2.2.1, ⟨hk.1.1.1.1.2.2.2.1, ⟨hk.1.1.1.1.2.2.2.2, ⟨hk.1.1.1.2, ⟨hk.1.1.2, hk.1.2⟩⟩⟩⟩⟩⟩⟩)⟩, ⟨by exact Kd.V_mono (Kd.V_far (p := ⟨gb755, 0, none⟩) (Kd.V_mono HO_729000.out (fun k_ hk => (⟨hk, hk.2⟩ : _ ∧ k_ ≠ gb755))) (fun _ hk => hk.2) (.slice Ao148 t751.length co148)) (fun _ hk => ⟨hk.1.1.1.1.1, ⟨hk.1.1.1.1.2.1, ⟨hk.1.1.1.1.2.2.1, ⟨hk.1.1.1.1.2.2.2.1, ⟨hk.1.1.1.1.2.2.2.2, ⟨hk.1.1.1.2, ⟨hk.1.1.2, hk.1.2⟩⟩⟩⟩⟩⟩⟩)⟩, ⟨by exact Kd.V_mono (Kd.V_far (p := ⟨gb755, 0, none⟩) (Kd.V_mono HO_734000.out (fun k_ hk => (⟨hk, hk.2⟩ : _ ∧ k_ ≠ gb755))) (fun _ hk => hk.2) (.slice Ao148 t751.length co148)) (fun _ hk => ⟨hk.1.1.1.1.1, ⟨hk.1.1.1.1.2.1, ⟨hk.1.1.1.1.2.2.1, ⟨hk.1.1.1.1.2.2.2.1, ⟨hk.1.1.1.1.2.2.2.2, ⟨hk.1.1.1.2, ⟨hk.1.1.2, hk.1.2⟩⟩⟩⟩⟩⟩⟩)⟩, ⟨by exact Kd.V_mono (Kd.V_far (p := ⟨gb755, 0, none⟩) (Kd.V_mono HO743.out (fun k_ hk => (⟨hk, hk.2⟩ : _ ∧ k_ ≠ gb755))) (fun _ hk => hk.2) (.slice Ao148 t751.length co148)) (fun _ hk => ⟨hk.1.1.1.1.1, ⟨hk.1.1.1.1.2.1, ⟨hk.1.1.1.1.2.2.1, ⟨hk.1.1.1.1.2.2.2.1, ⟨hk.1.1.1.1.2.2.2.2, ⟨hk.1.1.1.2, ⟨hk.1.1.2, hk.1.2⟩⟩⟩⟩⟩⟩⟩)⟩, ⟨by exact Kd.V_mono (Kd.V_far (p := ⟨gb755, 0, none⟩) (Kd.V_mono HO748.out (fun k_ hk => (⟨hk, hk.2⟩ : _ ∧ k_ ≠ gb755))) (fun _ hk => hk.2) (.slice Ao148 t751.length co148)) (fun _ hk => ⟨hk.1.1.1.1, ⟨hk.1.1.1.2.1, ⟨hk.1.1.1.2.2.1, ⟨hk.1.1.1.2.2.2.1, ⟨hk.1.1.1.2.2.2.2.1, ⟨hk.1.1.1.2.2.2.2.2, ⟨hk.1.1.2, hk.1.2⟩⟩⟩⟩⟩⟩⟩)⟩, ⟨by exact Kd.V_mono (Kd.V_far (p := ⟨gb755, 0, none⟩) (Kd.V_mono HO753.out (fun k_ hk => (⟨hk, hk.2⟩ : _ ∧ k_ ≠ gb755))) (fun _ hk => hk.2) (.slice Ao148 t751.length co148)) (fun _ hk => ⟨hk.1.1.1, ⟨hk.1.1.2.1, ⟨hk.1.1.2.2.1, ⟨hk.1.1.2.2.2.1, ⟨hk.1.1.2.2.2.2.1, ⟨hk.1.1.2.2.2.2.2.1, ⟨hk.1.1.2.2.2.2.2.2, hk.1.2⟩⟩⟩⟩⟩⟩⟩)⟩, ⟨by refine blk_far ?_ NB704_755.out _; exact BK704.out⟩, ⟨by refine blk_far ?_ NB713_755.out _; exact BK713.out⟩, ⟨by refine blk_far ?_ NB722_755.out _; exact BK722.out⟩, ⟨by refine blk_far ?_ NB728_755.out _; exact BK728.out⟩, ⟨by refine blk_far ?_ NB733_755.out _; exact BK733.out⟩, ⟨by refine blk_far ?_ NB745_755.out _; exact BK745.out⟩, ⟨by refine blk_far ?_ NB750_755.out _; exact BK750.out⟩, ⟨by refine blk_put (cs := #[.slice none 0 0]) ?_ 0 _ rfl; exact BK755.out⟩, ⟨by repeat (first | exact HB.out | refine sb ?_ GE704 | refine sb ?_ GE713 | refine sb ?_ GE722 | refine sb ?_ GE728 | refine sb ?_ GE733 | refine sb ?_ GE745 | refine sb ?_ GE750 | refine sb ?_ GE755)⟩⟩
           ·rw [if_neg c158] at H
            have c158b0 : (t744 == 0) = false := beq_eq_false_iff_ne.mpr c158
            have c158b1 : (t744 != 0) = true := bne_iff_ne.mpr c158
            as_aux_lemma =>
             have H' := Aside0.mk H
             clear H
             go_wp2
             go_meet
             case rel => exact ⟨_, (false), (by first | rfl | (simp; done) | (simp [*]; done) | (simp [i64_w]; done) | (simp [*, i64_w]; done)), H', ⟨by have := HJ6.out; have := HJ33.out; have := HJ69.out; first | omega | exact Nat.le_refl _⟩, ⟨by exact Kd.V_mono (Kd.V_far (p := ⟨gb755, 0, none⟩) (Kd.V_mono HO_705000.out (fun k_ hk => (⟨hk, hk.2⟩ : _ ∧ k_ ≠ gb755))) (fun _ hk => hk.2) (.slice Ao148 t751.length co148)) (fun _ hk => ⟨hk.1.1.1.1.1, ⟨hk.1.1.1.1.2.1, ⟨hk.1.1.1.1.2.2.1, ⟨hk.1.1.1.1.2.2.2.1, ⟨hk.1.1.1.1.2.2.2.2, ⟨hk.1.1.1.2, ⟨hk.1.1.2, hk.1.2⟩⟩⟩⟩⟩⟩⟩)⟩, ⟨by exact Kd.V_mono (Kd.V_far (p := ⟨gb755, 0, none⟩) (Kd.V_mono HO_714000.out (fun k_ hk => (⟨hk, hk.2⟩ : _ ∧ k_ ≠ gb755))) (fun _ hk => hk.2) (.slice Ao148 t751.length co148)) (fun _ hk => ⟨hk.1.1.1.1.1, ⟨hk.1.1.1.1.2.1, ⟨hk.1.1.1.1.2.2.1, ⟨hk.1.1.1.1.2.2.2.1, ⟨hk.1.1.1.1.2.2.2.2, ⟨hk.1.1.1.2, ⟨hk.1.1.2, hk.1.2⟩⟩⟩⟩⟩⟩⟩)⟩, ⟨by exact Kd.V_mono (Kd.V_far (p := ⟨gb755, 0, none⟩) (Kd.V_mono HO_723000.out (fun k_ hk => (⟨hk, hk.2⟩ : _ ∧ k_ ≠ gb755))) (fun _ hk => hk.2) (.slice Ao148 t751.length co148)) (fun _ hk => ⟨hk.1.1.1.1.1, ⟨hk.1.1.1.1.2.1, ⟨hk.1.1.1.1.2.2.1, ⟨hk.1.1.1.1.2.2.2.1, ⟨hk.1.1.1.1.2.2.2.2, ⟨hk.1.1.1.2, ⟨hk.1.1.2, hk.1.2⟩⟩⟩⟩⟩⟩⟩)⟩, ⟨by exact Kd.V_mono (Kd.V_far (p := ⟨gb755, 0, none⟩) (Kd.V_mono HO_729000.out (fun k_ hk => (⟨hk, hk.2⟩ : _ ∧ k_ ≠ gb755))) (fun _ hk => hk.2) (.slice Ao148 t751.length co148)) (fun _ hk => ⟨hk.1.1.1.1.1, ⟨hk.1.1.1.1.2.1, ⟨hk.1.1.1.1.2.2.1, ⟨hk.1.1.1.1.2.2.2.1, ⟨hk.1.1.1.1.2.2.2.2, ⟨hk.1.1.1.2, ⟨hk.1.1.2, hk.1.2⟩⟩⟩⟩⟩⟩⟩)⟩, ⟨by exact Kd.V_mono (Kd.V_far (p := ⟨gb755, 0, none⟩) (Kd.V_mono HO_734000.out (fun k_ hk => (⟨hk, hk.2⟩ : _ ∧ k_ ≠ gb755))) (fun _ hk => hk.2) (.slice Ao148 t751.length co148)) (fun _ hk => ⟨hk.1.1.1.1.1, ⟨hk.1.1.1.1.2.1, ⟨hk.1.1.1.1.2.2.1, ⟨hk.1.1.1.1.2.2.2.1, ⟨hk.1.1.1.1.2.2.2.2, ⟨hk.1.1.1.2, ⟨hk.1.1.2, hk.1.2⟩⟩⟩⟩⟩⟩⟩)⟩, ⟨by exact Kd.V_mono (Kd.V_far (p := ⟨gb755, 0, none⟩) (Kd.V_mono HO743.out (fun k_ hk => (⟨hk, hk.2⟩ : _ ∧ k_ ≠ gb755))) (fun _ hk => hk.2) (.slice Ao148 t751.length co148)) (fun _ hk => ⟨hk.1.1.1.1.1, ⟨hk.1.1.1.1.2.1, ⟨hk.1.1.1.1.2.2.1, ⟨hk.1.1.1.1.2.2.2.1, ⟨hk.1.1.1.1.2.2.2.2, ⟨hk.1.1.1.2, ⟨hk.1.1.2, hk.1.2⟩⟩⟩⟩⟩⟩⟩)⟩, ⟨by exact Kd.V_mono (Kd.V_far (p := ⟨gb755, 0, none⟩) (Kd.V_mono HO748.out (fun k_ hk => (⟨hk, hk.2⟩ : _ ∧ k_ ≠ gb755))) (fun _ hk => hk.2) (.slice Ao148 t751.length co148)) (fun _ hk => ⟨hk.1.1.1.1, ⟨hk.1.1.1.2.1, ⟨hk.1.1.1.2.2.1, ⟨hk.1.1.1.2.2.2.1, ⟨hk.1.1.1.2.2.2.2.1, ⟨hk.1.1.1.2.2.2.2.2, ⟨hk.1.1.2, hk.1.2⟩⟩⟩⟩⟩⟩⟩)⟩, ⟨by exact Kd.V_mono (Kd.V_far (p := ⟨gb755, 0, none⟩) (Kd.V_mono HO753.out (fun k_ hk => (⟨hk, hk.2⟩ : _ ∧ k_ ≠ gb755))) (fun _ hk => hk.2) (.slice Ao148 t751.length co148)) (fun _ hk => ⟨hk.1.1.1, ⟨hk.1.1.2.1, ⟨hk.1.1.2.2.1, ⟨hk.1.1.2.2.2.1, ⟨hk.1.1.2.2.2.2.1, ⟨hk.1.1.2.2.2.2.2.1, ⟨hk.1.1.2.2.2.2.2.2, hk.1.2⟩⟩⟩⟩⟩⟩⟩)⟩, ⟨by refine blk_far ?_ NB704_755.out _; exact BK704.out⟩, ⟨by refine blk_far ?_ NB713_755.out _; exact BK713.out⟩, ⟨by refine blk_far ?_ NB722_755.out _; exact BK722.out⟩, ⟨by refine blk_far ?_ NB728_755.out _; exact BK728.out⟩, ⟨by refine blk_far ?_ NB733_755.out _; exact BK733.out⟩, ⟨by refine blk_far ?_ NB745_755.out _; exact BK745.out⟩, ⟨by refine blk_far ?_ NB750_755.out _; exact BK750.out⟩, ⟨by refine blk_put (cs := #[.slice none 0 0]) ?_ 0 _ rfl; exact BK755.out⟩, ⟨by repeat (first | exact HB.out | refine sb ?_ GE704 | refine sb ?_ GE713 | refine sb ?_ GE722 | refine sb ?_ GE728 | refine sb ?_ GE733 | refine sb ?_ GE745 | refine sb ?_ GE750 | refine sb ?_ GE755)⟩⟩
          ·rw [if_neg c157] at H
           have c157b0 : (t727 == 0) = false := beq_eq_false_iff_ne.mpr c157
           have c157b1 : (t727 != 0) = true := bne_iff_ne.mpr c157
           (first | rw [c157b0] | (simp only [i64_w, i32_w]; rw [c157b0]) | skip)
           as_aux_lemma =>
            have H' := Aside0.mk H
            clear H
            go_wp2
            go_meet
            case rel => exact ⟨_, (false), (by first | rfl | (simp; done) | (simp [*]; done) | (simp [i64_w]; done) | (simp [*, i64_w]; done)), H', ⟨by have := HJ6.out; have := HJ33.out; have := HJ69.out; first | omega | exact Nat.le_refl _⟩, ⟨by exact Kd.V_mono (Kd.V_far (p := ⟨gb755, 0, none⟩) (Kd.V_mono HO_705000.out (fun k_ hk => (⟨hk, hk.2⟩ : _ ∧ k_ ≠ gb755))) (fun _ hk => hk.2) (.slice Ao148 t751.length co148)) (fun _ hk => ⟨hk.1.1.1.1.1, ⟨hk.1.1.1.1.2.1, ⟨hk.1.1.1.1.2.2.1, ⟨hk.1.1.1.1.2.2.2.1, ⟨hk.1.1.1.1.2.2.2.2, ⟨hk.1.1.1.2, ⟨hk.1.1.2, hk.1.2⟩⟩⟩⟩⟩⟩⟩)⟩, ⟨by exact Kd.V_mono (Kd.V_far (p := ⟨gb755, 0, none⟩) (Kd.V_mono HO_714000.out (fun k_ hk => (⟨hk, hk.2⟩ : _ ∧ k_ ≠ gb755))) (fun _ hk => hk.2) (.slice Ao148 t751.length co148)) (fun _ hk => ⟨hk.1.1.1.1.1, ⟨hk.1.1.1.1.2.1, ⟨hk.1.1.1.1.2.2.1, ⟨hk.1.1.1.1.2.2.2.1, ⟨hk.1.1.1.1.2.2.2.2, ⟨hk.1.1.1.2, ⟨hk.1.1.2, hk.1.2⟩⟩⟩⟩⟩⟩⟩)⟩, ⟨by exact Kd.V_mono (Kd.V_far (p := ⟨gb755, 0, none⟩) (Kd.V_mono HO_723000.out (fun k_ hk => (⟨hk, hk.2⟩ : _ ∧ k_ ≠ gb755))) (fun _ hk => hk.2) (.slice Ao148 t751.length co148)) (fun _ hk => ⟨hk.1.1.1.1.1, ⟨hk.1.1.1.1.2.1, ⟨hk.1.1.1.1.2.2.1, ⟨hk.1.1.1.1.2.2.2.1, ⟨hk.1.1.1.1.2.2.2.2, ⟨hk.1.1.1.2, ⟨hk.1.1.2, hk.1.2⟩⟩⟩⟩⟩⟩⟩)⟩, ⟨by exact Kd.V_mono (Kd.V_far (p := ⟨gb755, 0, none⟩) (Kd.V_mono HO_729000.out (fun k_ hk => (⟨hk, hk.2⟩ : _ ∧ k_ ≠ gb755))) (fun _ hk => hk.2) (.slice Ao148 t751.length co148)) (fun _ hk => ⟨hk.1.1.1.1.1, ⟨hk.1.1.1.1.2.1, ⟨hk.1.1.1.1.2.2.1, ⟨hk.1.1.1.1.2.2.2.1, ⟨hk.1.1.1.1.2.2.2.2, ⟨hk.1.1.1.2, ⟨hk.1.1.2, hk.1.2⟩⟩⟩⟩⟩⟩⟩)⟩, ⟨by exact Kd.V_mono (Kd.V_far (p := ⟨gb755, 0, none⟩) (Kd.V_mono HO_734000.out (fun k_ hk => (⟨hk, hk.2⟩ : _ ∧ k_ ≠ gb755))) (fun _ hk => hk.2) (.slice Ao148 t751.length co148)) (fun _ hk => ⟨hk.1.1.1.1.1, ⟨hk.1.1.1.1.2.1, ⟨hk.1.1.1.1.2.2.1, ⟨hk.1.1.1.1.2.2.2.1, ⟨hk.1.1.1.1.2.2.2.2, ⟨hk.1.1.1.2, ⟨hk.1.1.2, hk.1.2⟩⟩⟩⟩⟩⟩⟩)⟩, ⟨by exact Kd.V_mono (Kd.V_far (p := ⟨gb755, 0, none⟩) (Kd.V_mono HO743.out (fun k_ hk => (⟨hk, hk.2⟩ : _ ∧ k_ ≠ gb755))) (fun _ hk => hk.2) (.slice Ao148 t751.length co148)) (fun _ hk => ⟨hk.1.1.1.1.1, ⟨hk.1.1.1.1.2.1, ⟨hk.1.1.1.1.2.2.1, ⟨hk.1.1.1.1.2.2.2.1, ⟨hk.1.1.1.1.2.2.2.2, ⟨hk.1.1.1.2, ⟨hk.1.1.2, hk.1.2⟩⟩⟩⟩⟩⟩⟩)⟩, ⟨by exact Kd.V_mono (Kd.V_far (p := ⟨gb755, 0, none⟩) (Kd.V_mono HO748.out (fun k_ hk => (⟨hk, hk.2⟩ : _ ∧ k_ ≠ gb755))) (fun _ hk => hk.2) (.slice Ao148 t751.length co148)) (fun _ hk => ⟨hk.1.1.1.1, ⟨hk.1.1.1.2.1, ⟨hk.1.1.1.2.2.1, ⟨hk.1.1.1.2.2.2.1, ⟨hk.1.1.1.2.2.2.2.1, ⟨hk.1.1.1.2.2.2.2.2, ⟨hk.1.1.2, hk.1.2⟩⟩⟩⟩⟩⟩⟩)⟩, ⟨by exact Kd.V_mono (Kd.V_far (p := ⟨gb755, 0, none⟩) (Kd.V_mono HO753.out (fun k_ hk => (⟨hk, hk.2⟩ : _ ∧ k_ ≠ gb755))) (fun _ hk => hk.2) (.slice Ao148 t751.length co148)) (fun _ hk => ⟨hk.1.1.1, ⟨hk.1.1.2.1, ⟨hk.1.1.2.2.1, ⟨hk.1.1.2.2.2.1, ⟨hk.1.1.2.2.2.2.1, ⟨hk.1.1.2.2.2.2.2.1, ⟨hk.1.1.2.2.2.2.2.2, hk.1.2⟩⟩⟩⟩⟩⟩⟩)⟩, ⟨by refine blk_far ?_ NB704_755.out _; exact BK704.out⟩, ⟨by refine blk_far ?_ NB713_755.out _; exact BK713.out⟩, ⟨by refine blk_far ?_ NB722_755.out _; exact BK722.out⟩, ⟨by refine blk_far ?_ NB728_755.out _; exact BK728.out⟩, ⟨by refine blk_far ?_ NB733_755.out _; exact BK733.out⟩, ⟨by refine blk_far ?_ NB745_755.out _; exact BK745.out⟩, ⟨by refine blk_far ?_ NB750_755.out _; exact BK750.out⟩, ⟨by refine blk_put (cs := #[.slice none 0 0]) ?_ 0 _ rfl; exact BK755.out⟩, ⟨by repeat (first | exact HB.out | refine sb ?_ GE704 | refine sb ?_ GE713 | refine sb ?_ GE722 | refine sb ?_ GE728 | refine sb ?_ GE733 | refine sb ?_ GE745 | refine sb ?_ GE750 | refine sb ?_ GE755)⟩⟩
         case rest =>
          clear HC110
          try clear c1
          try clear c2
          try clear p2
          try clear c3
          try clear c4
          try clear c5
          try clear c6
          try clear c7
          try clear c8
          try clear c9
          try clear c10
          try clear c11
          try clear c12
          try clear c13
          try clear c14
          try clear c15
          try clear c20
          try clear c21
          try clear c24
          try clear c25
          try clear c26
          try clear c31
          try clear c33
          try clear c35
          try clear c36
          try clear c38
          try clear c42
          try clear c43
          try clear c44
          try clear c45
          try clear c52
          try clear c53
          try clear c54
          try clear c55
          try clear c57
          try clear c57b0
          try clear c57b1
          try clear c59
          try clear c60
          try clear c61
          try clear c62
          try clear c64
          try clear c65
          try clear c66
          try clear c69
          try clear c71
          try clear c71b0
          try clear c71b1
          try clear c74
          try clear c75
          try clear c76
          try clear c77
          try clear c79
          try clear c80
          try clear c81
          try clear c86
          try clear c87
          try clear c88
          try clear c89
          try clear c90
          try clear c92
          try clear c92b0
          try clear c92b1
          try clear c94
          try clear c95
          try clear c96
          try clear c97
          try clear c98
          try clear c100
          try clear c101
          try clear c102
          try clear c103
          try clear c106
          try clear c111
          try clear c112
          try clear c113
          try clear c114
          try clear c116
          try clear c117
          try clear c118
          try clear c123
          try clear c124
          try clear c125
          try clear c126
          try clear c127
          try clear c129
          try clear c130
          try clear c136
          try clear c137
          try clear c138
          try clear c139
          try clear c140
          try clear c141
          try clear c143
          try clear c149
          try clear c150
          try clear c151
          try clear c152
          try clear c153
          try clear c154
          try clear c155
          try clear c157
          try clear c157b0
          try clear c157b1
          try clear c158
          try clear c158b0
          try clear c158b1
          try clear hcz104_0
          try clear hcz115_0
          try clear hcz119_0
          try clear hcz11_0
          try clear hcz128_0
          try clear hcz131_0
          try clear hcz132_0
          try clear hcz142_0
          try clear hcz144_0
          try clear hcz145_0
          try clear hcz156_0
          try clear hcz16_0
          try clear hcz22_0
          try clear hcz37_0
          try clear hcz39_0
          try clear hcz46_0
          try clear hcz47_0
          try clear hcz48_0
          try clear hcz56_0
          try clear hcz63_0
          try clear hcz67_0
          try clear hcz78_0
          try clear hcz82_0
          try clear hcz91_0
          try clear hcz99_0
          try clear hfz104_0
          try clear hfz115_0
          try clear hfz119_0
          try clear hfz11_0
          try clear hfz128_0
          try clear hfz131_0
          try clear hfz132_0
          try clear hfz142_0
          try clear hfz144_0
          try clear hfz145_0
          try clear hfz156_0
          try clear hfz16_0
          try clear hfz22_0
          try clear hfz37_0
          try clear hfz39_0
          try clear hfz46_0
          try clear hfz47_0
          try clear hfz48_0
          try clear hfz56_0
          try clear hfz63_0
          try clear hfz67_0
          try clear hfz78_0
          try clear hfz82_0
          try clear hfz91_0
          try clear hfz99_0
          try clear p2
          obtain ⟨kq, x136_109, rfl, HA, HJ109, HO_705000, HO_714000, HO_723000, HO_729000, HO_734000, HO_746000, HO_751000, HO_756000, BK704, BK713, BK722, BK728, BK733, BK745, BK750, BK755, HB⟩ := hcut
          cases kq with
          | zero => exact absurd HA.out (by simp [heraldlaw04_NatRing.j4])
          | succ kj109 =>
           have H := HA.out
           clear HA
           simp only [heraldlaw04_NatRing.j4] at H
           have HC159 := Aside0.mk H
           clear H
           go_upto_if 136 with (fail)
           go_cut [] (fun wc => ∃ (kq : Nat), Aside0 (heraldlaw04_NatRing.j6 kq t699 t708 = some r) ∧ Aside0 (kq ≤ kj109) ∧ Aside0 (Kd.V (Kd.int .u32) 79 wc w.heap.size (fun k_ => k_ ≠ gb704 ∧ k_ ≠ gb713 ∧ k_ ≠ gb722 ∧ k_ ≠ gb728 ∧ k_ ≠ gb733 ∧ k_ ≠ gb745 ∧ k_ ≠ gb750 ∧ k_ ≠ gb755) (.slice Ao10 t699.length co10) t699) ∧ Aside0 (Kd.V (Kd.int .u32) 79 wc w.heap.size (fun k_ => k_ ≠ gb704 ∧ k_ ≠ gb713 ∧ k_ ≠ gb722 ∧ k_ ≠ gb728 ∧ k_ ≠ gb733 ∧ k_ ≠ gb745 ∧ k_ ≠ gb750 ∧ k_ ≠ gb755) (.slice Ao14 t708.length co14) t708) ∧ Aside0 (Kd.V (Kd.int .u32) 79 wc w.heap.size (fun k_ => k_ ≠ gb704 ∧ k_ ≠ gb713 ∧ k_ ≠ gb722 ∧ k_ ≠ gb728 ∧ k_ ≠ gb733 ∧ k_ ≠ gb745 ∧ k_ ≠ gb750 ∧ k_ ≠ gb755) (.slice Ao19 t717.length co19) t717) ∧ Aside0 (Kd.V (Kd.int .u32) 79 wc w.heap.size (fun k_ => k_ ≠ gb704 ∧ k_ ≠ gb713 ∧ k_ ≠ gb722 ∧ k_ ≠ gb728 ∧ k_ ≠ gb733 ∧ k_ ≠ gb745 ∧ k_ ≠ gb750 ∧ k_ ≠ gb755) (.slice Ao42 t724.length co42) t724) ∧ Aside0 (Kd.V (Kd.int .u32) 79 wc w.heap.size (fun k_ => k_ ≠ gb704 ∧ k_ ≠ gb713 ∧ k_ ≠ gb722 ∧ k_ ≠ gb728 ∧ k_ ≠ gb733 ∧ k_ ≠ gb745 ∧ k_ ≠ gb750 ∧ k_ ≠ gb755) (.slice Ao51 t729.length co51) t729) ∧ Aside0 (Kd.V (Kd.int .u32) 79 wc w.heap.size (fun k_ => k_ ≠ gb704 ∧ k_ ≠ gb713 ∧ k_ ≠ gb722 ∧ k_ ≠ gb728 ∧ k_ ≠ gb733 ∧ k_ ≠ gb745 ∧ k_ ≠ gb750 ∧ k_ ≠ gb755) (.slice Ao122 t741.length co122) t741) ∧ Aside0 (Kd.V (Kd.int .u32) 79 wc w.heap.size (fun k_ => k_ ≠ gb704 ∧ k_ ≠ gb713 ∧ k_ ≠ gb722 ∧ k_ ≠ gb728 ∧ k_ ≠ gb733 ∧ k_ ≠ gb745 ∧ k_ ≠ gb750 ∧ k_ ≠ gb755) (.slice Ao135 t746.length co135) t746) ∧ Aside0 (Kd.V (Kd.int .u32) 79 wc w.heap.size (fun k_ => k_ ≠ gb704 ∧ k_ ≠ gb713 ∧ k_ ≠ gb722 ∧ k_ ≠ gb728 ∧ k_ ≠ gb733 ∧ k_ ≠ gb745 ∧ k_ ≠ gb750 ∧ k_ ≠ gb755) (.slice Ao148 t751.length co148) t751) ∧ Aside0 (wc.heap[gb704]? = some (.cells #[(.slice Ao10 t699.length co10)] 26 (0, 0))) ∧ Aside0 (wc.heap[gb713]? = some (.cells #[(.slice Ao14 t708.length co14)] 26 (0, 0))) ∧ Aside0 (wc.heap[gb722]? = some (.cells #[(.slice Ao19 t717.length co19)] 26 (0, 0))) ∧ Aside0 (wc.heap[gb728]? = some (.cells #[(.slice Ao42 t724.length co42)] 26 (0, 0))) ∧ Aside0 (wc.heap[gb733]? = some (.cells #[(.slice Ao51 t729.length co51)] 26 (0, 0))) ∧ Aside0 (wc.heap[gb745]? = some (.cells #[(.slice Ao122 t741.length co122)] 26 (0, 0))) ∧ Aside0 (wc.heap[gb750]? = some (.cells #[(.slice Ao135 t746.length co135)] 26 (0, 0))) ∧ Aside0 (wc.heap[gb755]? = some (.cells #[(.slice Ao148 t751.length co148)] 26 (0, 0))) ∧ Aside0 (Below w.heap.size w wc))
           case first =>
            have H := HC159.out
            clear HC159
            by_cases c160 : x136_109 = true
            ·subst c160
             have H1 : ((nat_Nat_Add.f kj109 t741 t746).bind fun bt756 => (if bt756.2 = t754 then ((nat_Nat_Compare.f kj109 bt756.1 t751).bind fun t761 => (heraldlaw04_NatRing.j5 kj109 (t761 != 0) t699 t708)) else (heraldlaw04_NatRing.j5 kj109 true t699 t708))) = some r := by rw [if_pos rfl] at H; exact H
             clear H
             have H := H1
             clear H1
             replace H := Option.bind_eq_some_iff.mp H
             obtain ⟨⟨t756, t759⟩, A1610, H⟩ := H
             replace H : (if t759 = t754 then ((nat_Nat_Compare.f kj109 t756 t751).bind fun t761 => (heraldlaw04_NatRing.j5 kj109 (t761 != 0) t699 t708)) else (heraldlaw04_NatRing.j5 kj109 true t699 t708)) = some r := H
             have A161 := Aside0.mk A1610
             clear A1610
             have HC162 := Aside0.mk H
             clear H
             have hnb163 := NB745_704.out
             have hnc163 := NB704_745.out
             have hnb164 := NB745_713.out
             have hnc164 := NB713_745.out
             have hnb165 := NB745_722.out
             have hnc165 := NB722_745.out
             have hnb166 := NB745_728.out
             have hnc166 := NB728_745.out
             have hnb167 := NB745_733.out
             have hnc167 := NB733_745.out
             have hnb168 := NB745_750.out
             have hnc168 := NB750_745.out
             have hnb169 := NB745_755.out
             have hnc169 := NB755_745.out
             have hcz170_0 : wc.cell? ⟨gb745, 0, none⟩ = some (.slice Ao122 t741.length co122) := (blk_cell BK745.out 0).trans rfl
             have hfz170_0 := blk_frozen BK745.out 0
             have hnb171 := NB750_704.out
             have hnc171 := NB704_750.out
             have hnb172 := NB750_713.out
             have hnc172 := NB713_750.out
             have hnb173 := NB750_722.out
             have hnc173 := NB722_750.out
             have hnb174 := NB750_728.out
             have hnc174 := NB728_750.out
             have hnb175 := NB750_733.out
             have hnc175 := NB733_750.out
             have hnb176 := NB750_755.out
             have hnc176 := NB755_750.out
             have hcz177_0 : wc.cell? ⟨gb750, 0, none⟩ = some (.slice Ao135 t746.length co135) := (blk_cell BK750.out 0).trans rfl
             have hfz177_0 := blk_frozen BK750.out 0
             go_upto_region 19 with (first | ((with_reducible refine gate_callee (f := 33) rfl ?_); refine goesL_ (some 140) rfl rfl Tryd.func33 (by kernel_rfl) rfl #[.agg #[.slice Ao122 t741.length co122], .agg #[.slice Ao135 t746.length co135]] rfl (by (try simp only [List.map_toArray, List.map_cons, List.map_nil]); first | done | rfl | (simp only [List.length_drop, List.length_take]; rfl)) ?_; (with_reducible refine (nat_Nat_Add.calls kj109 _ _ t741 _ _ t746 t756 t759 _ ?side1 ?side2 ?side3 ?side4 A161.out).mono ?_); (case side1 => exact (Kd.V_reads' HO_746000.out).2.2); (case side2 => exact (Kd.V_reads' HO_746000.out).2.1); (case side3 => exact (Kd.V_reads' HO_751000.out).2.2); (case side4 => exact (Kd.V_reads' HO_751000.out).2.1); rintro e w178 ⟨v757, rfl, ho0, hb⟩; refine ⟨_, rfl, ?_⟩; have HO758 := Aside0.mk (Kd.V_lower (Kd.V_mono (ok' := fun k_ => k_ ≠ gb704 ∧ k_ ≠ gb713 ∧ k_ ≠ gb722 ∧ k_ ≠ gb728 ∧ k_ ≠ gb733 ∧ k_ ≠ gb745 ∧ k_ ≠ gb750 ∧ k_ ≠ gb755) ho0 (fun k_ hk_ => ⟨(fb BK704 k_ hk_), (fb BK713 k_ hk_), (fb BK722 k_ hk_), (fb BK728 k_ hk_), (fb BK733 k_ hk_), (fb BK745 k_ hk_), (fb BK750 k_ hk_), (fb BK755 k_ hk_)⟩)) (below_size (by repeat (first | exact HB.out | refine sb ?_ GE704 | refine sb ?_ GE713 | refine sb ?_ GE722 | refine sb ?_ GE728 | refine sb ?_ GE733 | refine sb ?_ GE745 | refine sb ?_ GE750 | refine sb ?_ GE755)))); replace HO_705000 := vb HO_705000 hb; replace HO_714000 := vb HO_714000 hb; replace HO_723000 := vb HO_723000 hb; replace HO_729000 := vb HO_729000 hb; replace HO_734000 := vb HO_734000 hb; replace HO_746000 := vb HO_746000 hb; replace HO_751000 := vb HO_751000 hb; replace HO_756000 := vb HO_756000 hb; replace BK704 := bb BK704 hb; replace BK713 := bb BK713 hb; replace BK722 := bb BK722 hb; replace BK728 := bb BK728 hb; replace BK733 := bb BK733 hb; replace BK745 := bb BK745 hb; replace BK750 := bb BK750 hb; replace BK755 := bb BK755 hb; replace HB := Aside0.mk (below_step (by repeat (first | exact HB.out | refine sb ?_ GE704 | refine sb ?_ GE713 | refine sb ?_ GE722 | refine sb ?_ GE728 | refine sb ?_ GE733 | refine sb ?_ GE745 | refine sb ?_ GE750 | refine sb ?_ GE755)) hb); (try clear hb); (try clear hk); (try clear hi); (try clear ho0)) | ((with_reducible refine gate_dst (N := 31) rfl ?_); refine box_event ?hg (N := 31) ?hd (cs := #[.slice none 0 0]) (t := 26) ?hr ?_; (case hd => rfl); (case hg => rfl); (case hr => first | (go_simp; done) | (go_simp; rfl)); intro gb760 hg w179 hbox hb; have BK760 := Aside0.mk (hbox); have GW760 := Aside0.mk ((by rw [hg]; exact (below_size (by repeat (first | exact HB.out | refine sb ?_ GE704 | refine sb ?_ GE713 | refine sb ?_ GE722 | refine sb ?_ GE728 | refine sb ?_ GE733 | refine sb ?_ GE745 | refine sb ?_ GE750 | refine sb ?_ GE755))) : w.heap.size ≤ gb760)); have GE760 := Aside0.mk ((by rw [hg]; exact (below_size (by repeat (first | exact HB.out | refine sb ?_ GE704 | refine sb ?_ GE713 | refine sb ?_ GE722 | refine sb ?_ GE728 | refine sb ?_ GE733 | refine sb ?_ GE745 | refine sb ?_ GE750 | refine sb ?_ GE755))) : w.heap.size ≤ gb760)); have NB704_760 := nl BK704 hg; have NB760_704 := ng BK704 hg; have NB713_760 := nl BK713 hg; have NB760_713 := ng BK713 hg; have NB722_760 := nl BK722 hg; have NB760_722 := ng BK722 hg; have NB728_760 := nl BK728 hg; have NB760_728 := ng BK728 hg; have NB733_760 := nl BK733 hg; have NB760_733 := ng BK733 hg; have NB745_760 := nl BK745 hg; have NB760_745 := ng BK745 hg; have NB750_760 := nl BK750 hg; have NB760_750 := ng BK750 hg; have NB755_760 := nl BK755 hg; have NB760_755 := ng BK755 hg; replace HO_705000 := ve HO_705000 gb760 hg hb; replace HO_714000 := ve HO_714000 gb760 hg hb; replace HO_723000 := ve HO_723000 gb760 hg hb; replace HO_729000 := ve HO_729000 gb760 hg hb; replace HO_734000 := ve HO_734000 gb760 hg hb; replace HO_746000 := ve HO_746000 gb760 hg hb; replace HO_751000 := ve HO_751000 gb760 hg hb; replace HO_756000 := ve HO_756000 gb760 hg hb; replace HO758 := ve HO758 gb760 hg hb; replace BK704 := bb BK704 hb; replace BK713 := bb BK713 hb; replace BK722 := bb BK722 hb; replace BK728 := bb BK728 hb; replace BK733 := bb BK733 hb; replace BK745 := bb BK745 hb; replace BK750 := bb BK750 hb; replace BK755 := bb BK755 hb; replace HB := Aside0.mk (below_step (by repeat (first | exact HB.out | refine sb ?_ GE704 | refine sb ?_ GE713 | refine sb ?_ GE722 | refine sb ?_ GE728 | refine sb ?_ GE733 | refine sb ?_ GE745 | refine sb ?_ GE750 | refine sb ?_ GE755)) hb); clear hb hbox hg; obtain ⟨Ao180, co180, eo180⟩ := Kd.V_slice HO758.out; subst eo180; have hnb181 := NB760_704.out; have hnc181 := NB704_760.out; have hnb182 := NB760_713.out; have hnc182 := NB713_760.out; have hnb183 := NB760_722.out; have hnc183 := NB722_760.out; have hnb184 := NB760_728.out; have hnc184 := NB728_760.out; have hnb185 := NB760_733.out; have hnc185 := NB733_760.out; have hnb186 := NB760_745.out; have hnc186 := NB745_760.out; have hnb187 := NB760_750.out; have hnc187 := NB750_760.out; have hnb188 := NB760_755.out; have hnc188 := NB755_760.out; have hcz189_0 : w179.cell? ⟨gb760, 0, none⟩ = some (.slice none 0 0) := (blk_cell BK760.out 0).trans rfl; have hfz189_0 := blk_frozen BK760.out 0))
             (try simp only [Act.put, List.setIfInBounds_toArray, List.set_cons_zero, List.set_cons_succ])
             go_cut [151] (fun v151 wc => ∃ (kq : Nat) (x151_161 : Bool), v151 = .bool x151_161 ∧ Aside0 (heraldlaw04_NatRing.j5 kq x151_161 t699 t708 = some r) ∧ Aside0 (kq ≤ kj109) ∧ Aside0 (Kd.V (Kd.int .u32) 79 wc w.heap.size (fun k_ => k_ ≠ gb704 ∧ k_ ≠ gb713 ∧ k_ ≠ gb722 ∧ k_ ≠ gb728 ∧ k_ ≠ gb733 ∧ k_ ≠ gb745 ∧ k_ ≠ gb750 ∧ k_ ≠ gb755 ∧ k_ ≠ gb760) (.slice Ao10 t699.length co10) t699) ∧ Aside0 (Kd.V (Kd.int .u32) 79 wc w.heap.size (fun k_ => k_ ≠ gb704 ∧ k_ ≠ gb713 ∧ k_ ≠ gb722 ∧ k_ ≠ gb728 ∧ k_ ≠ gb733 ∧ k_ ≠ gb745 ∧ k_ ≠ gb750 ∧ k_ ≠ gb755 ∧ k_ ≠ gb760) (.slice Ao14 t708.length co14) t708) ∧ Aside0 (Kd.V (Kd.int .u32) 79 wc w.heap.size (fun k_ => k_ ≠ gb704 ∧ k_ ≠ gb713 ∧ k_ ≠ gb722 ∧ k_ ≠ gb728 ∧ k_ ≠ gb733 ∧ k_ ≠ gb745 ∧ k_ ≠ gb750 ∧ k_ ≠ gb755 ∧ k_ ≠ gb760) (.slice Ao19 t717.length co19) t717) ∧ Aside0 (Kd.V (Kd.int .u32) 79 wc w.heap.size (fun k_ => k_ ≠ gb704 ∧ k_ ≠ gb713 ∧ k_ ≠ gb722 ∧ k_ ≠ gb728 ∧ k_ ≠ gb733 ∧ k_ ≠ gb745 ∧ k_ ≠ gb750 ∧ k_ ≠ gb755 ∧ k_ ≠ gb760) (.slice Ao42 t724.length co42) t724) ∧ Aside0 (Kd.V (Kd.int .u32) 79 wc w.heap.size (fun k_ => k_ ≠ gb704 ∧ k_ ≠ gb713 ∧ k_ ≠ gb722 ∧ k_ ≠ gb728 ∧ k_ ≠ gb733 ∧ k_ ≠ gb745 ∧ k_ ≠ gb750 ∧ k_ ≠ gb755 ∧ k_ ≠ gb760) (.slice Ao51 t729.length co51) t729) ∧ Aside0 (Kd.V (Kd.int .u32) 79 wc w.heap.size (fun k_ => k_ ≠ gb704 ∧ k_ ≠ gb713 ∧ k_ ≠ gb722 ∧ k_ ≠ gb728 ∧ k_ ≠ gb733 ∧ k_ ≠ gb745 ∧ k_ ≠ gb750 ∧ k_ ≠ gb755 ∧ k_ ≠ gb760) (.slice Ao122 t741.length co122) t741) ∧ Aside0 (Kd.V (Kd.int .u32) 79 wc w.heap.size (fun k_ => k_ ≠ gb704 ∧ k_ ≠ gb713 ∧ k_ ≠ gb722 ∧ k_ ≠ gb728 ∧ k_ ≠ gb733 ∧ k_ ≠ gb745 ∧ k_ ≠ gb750 ∧ k_ ≠ gb755 ∧ k_ ≠ gb760) (.slice Ao135 t746.length co135) t746) ∧ Aside0 (Kd.V (Kd.int .u32) 79 wc w.heap.size (fun k_ => k_ ≠ gb704 ∧ k_ ≠ gb713 ∧ k_ ≠ gb722 ∧ k_ ≠ gb728 ∧ k_ ≠ gb733 ∧ k_ ≠ gb745 ∧ k_ ≠ gb750 ∧ k_ ≠ gb755 ∧ k_ ≠ gb760) (.slice Ao148 t751.length co148) t751) ∧ Aside0 (Kd.V (Kd.int .u32) 79 wc w.heap.size (fun k_ => k_ ≠ gb704 ∧ k_ ≠ gb713 ∧ k_ ≠ gb722 ∧ k_ ≠ gb728 ∧ k_ ≠ gb733 ∧ k_ ≠ gb745 ∧ k_ ≠ gb750 ∧ k_ ≠ gb755 ∧ k_ ≠ gb760) (.slice Ao180 t756.length co180) t756) ∧ Aside0 (wc.heap[gb704]? = some (.cells #[(.slice Ao10 t699.length co10)] 26 (0, 0))) ∧ Aside0 (wc.heap[gb713]? = some (.cells #[(.slice Ao14 t708.length co14)] 26 (0, 0))) ∧ Aside0 (wc.heap[gb722]? = some (.cells #[(.slice Ao19 t717.length co19)] 26 (0, 0))) ∧ Aside0 (wc.heap[gb728]? = some (.cells #[(.slice Ao42 t724.length co42)] 26 (0, 0))) ∧ Aside0 (wc.heap[gb733]? = some (.cells #[(.slice Ao51 t729.length co51)] 26 (0, 0))) ∧ Aside0 (wc.heap[gb745]? = some (.cells #[(.slice Ao122 t741.length co122)] 26 (0, 0))) ∧ Aside0 (wc.heap[gb750]? = some (.cells #[(.slice Ao135 t746.length co135)] 26 (0, 0))) ∧ Aside0 (wc.heap[gb755]? = some (.cells #[(.slice Ao148 t751.length co148)] 26 (0, 0))) ∧ Aside0 (wc.heap[gb760]? = some (.cells #[(.slice Ao180 t756.length co180)] 26 (0, 0))) ∧ Aside0 (Below w.heap.size w wc))
             case first =>
              have H := HC162.out
              clear HC162
              by_cases c190 : t759 = t754
              ·rw [if_pos c190] at H
               have c190b0 : (t759 == t754) = true := beq_iff_eq.mpr c190
               have c190b1 : (t759 != t754) = false := bne_eq_false_iff_eq.mpr c190
               clear c190
               (first | rw [c190b0] | (simp only [i64_w, i32_w]; rw [c190b0]) | skip)
               replace H := Option.bind_eq_some_iff.mp H
               obtain ⟨t761, A1910, H⟩ := H
               replace H : (heraldlaw04_NatRing.j5 kj109 (t761 != 0) t699 t708) = some r := H
               have A191 := Aside0.mk A1910
               clear A1910
               as_aux_lemma =>
                have H' := Aside0.mk H
                clear H
                have hnb192 := NB760_704.out
                have hnc192 := NB704_760.out
                have hnb193 := NB760_713.out
                have hnc193 := NB713_760.out
                have hnb194 := NB760_722.out
                have hnc194 := NB722_760.out
                have hnb195 := NB760_728.out
                have hnc195 := NB728_760.out
                have hnb196 := NB760_733.out
                have hnc196 := NB733_760.out
                have hnb197 := NB760_745.out
                have hnc197 := NB745_760.out
                have hnb198 := NB760_750.out
                have hnc198 := NB750_760.out
                have hnb199 := NB760_755.out
                have hnc199 := NB755_760.out
                have hcz200_0 : w179.cell? ⟨gb760, 0, none⟩ = some (.slice none 0 0) := (blk_cell BK760.out 0).trans rfl
                have hfz200_0 := blk_frozen BK760.out 0
                have hnb201 := NB755_704.out
                have hnc201 := NB704_755.out
                have hnb202 := NB755_713.out
                have hnc202 := NB713_755.out
                have hnb203 := NB755_722.out
                have hnc203 := NB722_755.out
                have hnb204 := NB755_728.out
                have hnc204 := NB728_755.out
                have hnb205 := NB755_733.out
                have hnc205 := NB733_755.out
                have hnb206 := NB755_745.out
                have hnc206 := NB745_755.out
                have hnb207 := NB755_750.out
                have hnc207 := NB750_755.out
                have hcz208_0 : w179.cell? ⟨gb755, 0, none⟩ = some (.slice Ao148 t751.length co148) := (blk_cell BK755.out 0).trans rfl
                have hfz208_0 := blk_frozen BK755.out 0
                go_wp2_with (first | (go_at_call 29; (with_reducible refine (nat_Nat_Compare.calls kj109 _ _ t756 _ _ t751 t761 _ ?side1 ?side2 ?side3 ?side4 A191.out).mono ?_); (case side1 => refine (Kd.V_reads' (e := 79) (base := w.heap.size) (ok := fun k_ => ((k_ ≠ gb704 ∧ (k_ ≠ gb713 ∧ (k_ ≠ gb722 ∧ (k_ ≠ gb728 ∧ (k_ ≠ gb733 ∧ (k_ ≠ gb745 ∧ (k_ ≠ gb750 ∧ k_ ≠ gb755))))))) ∧ k_ ≠ gb760)) (n := t756.length) (c := co180) ?_).2.2; exact (by exact (Kd.V_mono (Kd.V_far (p := ⟨gb760, 0, none⟩) (Kd.V_mono HO758.out (fun k_ hk => (⟨hk, hk.2⟩ : _ ∧ k_ ≠ gb760))) (fun _ hk => hk.2) (.slice Ao180 t756.length co180)) (fun _ h_ => h_.1)))); (case side2 => exact (Kd.V_reads' HO758.out).2.1); (case side3 => refine (Kd.V_reads' (e := 79) (base := w.heap.size) (ok := fun k_ => ((k_ ≠ gb704 ∧ (k_ ≠ gb713 ∧ (k_ ≠ gb722 ∧ (k_ ≠ gb728 ∧ (k_ ≠ gb733 ∧ (k_ ≠ gb745 ∧ (k_ ≠ gb750 ∧ k_ ≠ gb755))))))) ∧ k_ ≠ gb760)) (n := t751.length) (c := co148) ?_).2.2; exact (by exact (Kd.V_mono (Kd.V_far (p := ⟨gb760, 0, none⟩) (Kd.V_mono HO_756000.out (fun k_ hk => (⟨hk, hk.2⟩ : _ ∧ k_ ≠ gb760))) (fun _ hk => hk.2) (.slice Ao180 t756.length co180)) (fun _ h_ => h_.1)))); (case side4 => exact (Kd.V_reads' HO_756000.out).2.1); rintro e w209 ⟨rfl, hb⟩; replace HO_705000 := vf HO_705000 (fun k_ hk => hk.2) hb; replace HO_714000 := vf HO_714000 (fun k_ hk => hk.2) hb; replace HO_723000 := vf HO_723000 (fun k_ hk => hk.2) hb; replace HO_729000 := vf HO_729000 (fun k_ hk => hk.2) hb; replace HO_734000 := vf HO_734000 (fun k_ hk => hk.2) hb; replace HO_746000 := vf HO_746000 (fun k_ hk => hk.2) hb; replace HO_751000 := vf HO_751000 (fun k_ hk => hk.2) hb; replace HO_756000 := vf HO_756000 (fun k_ hk => hk.2) hb; replace HO758 := vf HO758 (fun k_ hk => hk.2) hb; replace BK704 := bf BK704 NB704_760 hb; replace BK713 := bf BK713 NB713_760 hb; replace BK722 := bf BK722 NB722_760 hb; replace BK728 := bf BK728 NB728_760 hb; replace BK733 := bf BK733 NB733_760 hb; replace BK745 := bf BK745 NB745_760 hb; replace BK750 := bf BK750 NB750_760 hb; replace BK755 := bf BK755 NB755_760 hb; replace BK760 := Aside0.mk (blk_below (g := gb760) (o := .cells #[.slice Ao180 t756.length co180] 26 (0, 0)) (by refine blk_put (cs := #[.slice none 0 0]) ?_ 0 _ rfl; exact BK760.out) hb); replace HB := Aside0.mk (below_step (by repeat (first | exact HB.out | refine sb ?_ GE704 | refine sb ?_ GE713 | refine sb ?_ GE722 | refine sb ?_ GE728 | refine sb ?_ GE733 | refine sb ?_ GE745 | refine sb ?_ GE750 | refine sb ?_ GE755 | refine sb ?_ GE760)) hb); (try clear hb); (try clear hb2); (try clear hk); (try clear hi)))
                go_meet
                case rel => exact ⟨_, ((t761 != 0)), (by first | rfl | (simp; done) | (simp [*]; done) | (simp [i64_w]; done) | (simp [*, i64_w]; done)), H', ⟨by have := HJ6.out; have := HJ33.out; have := HJ69.out; have := HJ109.out; first | omega | exact Nat.le_refl _⟩, ⟨by exact Kd.V_mono HO_705000.out (fun _ hk => ⟨hk.1.1, ⟨hk.1.2.1, ⟨hk.1.2.2.1, ⟨hk.1.2.2.2.1, ⟨hk.1.2.2.2.2.1, ⟨hk.1.2.2.2.2.2.1, ⟨hk.1.2.2.2.2.2.2.1, ⟨hk.1.2.2.2.2.2.2.2, hk.2⟩⟩⟩⟩⟩⟩⟩⟩)⟩, ⟨by exact Kd.V_mono HO_714000.out (fun _ hk => ⟨hk.1.1, ⟨hk.1.2.1, ⟨hk.1.2.2.1, ⟨hk.1.2.2.2.1, ⟨hk.1.2.2.2.2.1, ⟨hk.1.2.2.2.2.2.1, ⟨hk.1.2.2.2.2.2.2.1, ⟨hk.1.2.2.2.2.2.2.2, hk.2⟩⟩⟩⟩⟩⟩⟩⟩)⟩, ⟨by exact Kd.V_mono HO_723000.out (fun _ hk => ⟨hk.1.1, ⟨hk.1.2.1, ⟨hk.1.2.2.1, ⟨hk.1.2.2.2.1, ⟨hk.1.2.2.2.2.1, ⟨hk.1.2.2.2.2.2.1, ⟨hk.1.2.2.2.2.2.2.1, ⟨hk.1.2.2.2.2.2.2.2, hk.2⟩⟩⟩⟩⟩⟩⟩⟩)⟩, ⟨by exact Kd.V_mono HO_729000.out (fun _ hk => ⟨hk.1.1, ⟨hk.1.2.1, ⟨hk.1.2.2.1, ⟨hk.1.2.2.2.1, ⟨hk.1.2.2.2.2.1, ⟨hk.1.2.2.2.2.2.1, ⟨hk.1.2.2.2.2.2.2.1, ⟨hk.1.2.2.2.2.2.2.2, hk.2⟩⟩⟩⟩⟩⟩⟩⟩)⟩, ⟨by exact Kd.V_mono HO_734000.out (fun _ hk => ⟨hk.1.1, ⟨hk.1.2.1, ⟨hk.1.2.2.1, ⟨hk.1.2.2.2.1, ⟨hk.1.2.2.2.2.1, ⟨hk.1.2.2.2.2.2.1, ⟨hk.1.2.2.2.2.2.2.1, ⟨hk.1.2.2.2.2.2.2.2, hk.2⟩⟩⟩⟩⟩⟩⟩⟩)⟩, ⟨by exact Kd.V_mono HO_746000.out (fun _ hk => ⟨hk.1.1, ⟨hk.1.2.1, ⟨hk.1.2.2.1, ⟨hk.1.2.2.2.1, ⟨hk.1.2.2.2.2.1, ⟨hk.1.2.2.2.2.2.1, ⟨hk.1.2.2.2.2.2.2.1, ⟨hk.1.2.2.2.2.2.2.2, hk.2⟩⟩⟩⟩⟩⟩⟩⟩)⟩, ⟨by exact Kd.V_mono HO_751000.out (fun _ hk => ⟨hk.1.1, ⟨hk.1.2.1, ⟨hk.1.2.2.1, ⟨hk.1.2.2.2.1, ⟨hk.1.2.2.2.2.1, ⟨hk.1.2.2.2.2.2.1, ⟨hk.1.2.2.2.2.2.2.1, ⟨hk.1.2.2.2.2.2.2.2, hk.2⟩⟩⟩⟩⟩⟩⟩⟩)⟩, ⟨by exact Kd.V_mono HO_756000.out (fun _ hk => ⟨hk.1.1, ⟨hk.1.2.1, ⟨hk.1.2.2.1, ⟨hk.1.2.2.2.1, ⟨hk.1.2.2.2.2.1, ⟨hk.1.2.2.2.2.2.1, ⟨hk.1.2.2.2.2.2.2.1, ⟨hk.1.2.2.2.2.2.2.2, hk.2⟩⟩⟩⟩⟩⟩⟩⟩)⟩, ⟨by exact Kd.V_mono HO758.out (fun _ hk => ⟨hk.1.1, ⟨hk.1.2.1, ⟨hk.1.2.2.1, ⟨hk.1.2.2.2.1, ⟨hk.1.2.2.2.2.1, ⟨hk.1.2.2.2.2.2.1, ⟨hk.1.2.2.2.2.2.2.1, ⟨hk.1.2.2.2.2.2.2.2, hk.2⟩⟩⟩⟩⟩⟩⟩⟩)⟩, ⟨by exact BK704.out⟩, ⟨by exact BK713.out⟩, ⟨by exact BK722.out⟩, ⟨by exact BK728.out⟩, ⟨by exact BK733.out⟩, ⟨by exact BK745.out⟩, ⟨by exact BK750.out⟩, ⟨by exact BK755.out⟩, ⟨by exact BK760.out⟩, ⟨by repeat (first | exact HB.out | refine sb ?_ GE704 | refine sb ?_ GE713 | refine sb ?_ GE722 | refine sb ?_ GE728 | refine sb ?_ GE733 | refine sb ?_ GE745 | refine sb ?_ GE750 | refine sb ?_ GE755 | refine sb ?_ GE760)⟩⟩
              ·rw [if_neg c190] at H
               have c190b0 : (t759 == t754) = false := beq_eq_false_iff_ne.mpr c190
               have c190b1 : (t759 != t754) = true := bne_iff_ne.mpr c190
               (first | rw [c190b0] | (simp only [i64_w, i32_w]; rw [c190b0]) | skip)
               as_aux_lemma =>
                have H' := Aside0.mk H
                clear H
                go_wp2
                go_meet
                case rel => exact ⟨_, (true), (by first | rfl | (simp; done) | (simp [*]; done) | (simp [i64_w]; done) | (simp [*, i64_w]; done)), H', ⟨by have := HJ6.out; have := HJ33.out; have := HJ69.out; have := HJ109.out; first | omega | exact Nat.le_refl _⟩, ⟨by exact Kd.V_mono (Kd.V_far (p := ⟨gb760, 0, none⟩) (Kd.V_mono HO_705000.out (fun k_ hk => (⟨hk, hk.2⟩ : _ ∧ k_ ≠ gb760))) (fun _ hk => hk.2) (.slice Ao180 t756.length co180)) (fun _ hk => ⟨hk.1.1.1, ⟨hk.1.1.2.1, ⟨hk.1.1.2.2.1, ⟨hk.1.1.2.2.2.1, ⟨hk.1.1.2.2.2.2.1, ⟨hk.1.1.2.2.2.2.2.1, ⟨hk.1.1.2.2.2.2.2.2.1, ⟨hk.1.1.2.2.2.2.2.2.2, hk.1.2⟩⟩⟩⟩⟩⟩⟩⟩)⟩, ⟨by exact Kd.V_mono (Kd.V_far (p := ⟨gb760, 0, none⟩) (Kd.V_mono HO_714000.out (fun k_ hk => (⟨hk, hk.2⟩ : _ ∧ k_ ≠ gb760))) (fun _ hk => hk.2) (.slice Ao180 t756.length co180)) (fun _ hk => ⟨hk.1.1.1, ⟨hk.1.1.2.1, ⟨hk.1.1.2.2.1, ⟨hk.1.1.2.2.2.1, ⟨hk.1.1.2.2.2.2.1, ⟨hk.1.1.2.2.2.2.2.1, ⟨hk.1.1.2.2.2.2.2.2.1, ⟨hk.1.1.2.2.2.2.2.2.2, hk.1.2⟩⟩⟩⟩⟩⟩⟩⟩)⟩, ⟨by exact Kd.V_mono (Kd.V_far (p := ⟨gb760, 0, none⟩) (Kd.V_mono HO_723000.out (fun k_ hk => (⟨hk, hk.2⟩ : _ ∧ k_ ≠ gb760))) (fun _ hk => hk.2) (.slice Ao180 t756.length co180)) (fun _ hk => ⟨hk.1.1.1, ⟨hk.1.1.2.1, ⟨hk.1.1.2.2.1, ⟨hk.1.1.2.2.2.1, ⟨hk.1.1.2.2.2.2.1, ⟨hk.1.1.2.2.2.2.2.1, ⟨hk.1.1.2.2.2.2.2.2.1, ⟨hk.1.1.2.2.2.2.2.2.2, hk.1.2⟩⟩⟩⟩⟩⟩⟩⟩)⟩, ⟨by exact Kd.V_mono (Kd.V_far (p := ⟨gb760, 0, none⟩) (Kd.V_mono HO_729000.out (fun k_ hk => (⟨hk, hk.2⟩ : _ ∧ k_ ≠ gb760))) (fun _ hk => hk.2) (.slice Ao180 t756.length co180)) (fun _ hk => ⟨hk.1.1.1, ⟨hk.1.1.2.1, ⟨hk.1.1.2.2.1, ⟨hk.1.1.2.2.2.1, ⟨hk.1.1.2.2.2.2.1, ⟨hk.1.1.2.2.2.2.2.1, ⟨hk.1.1.2.2.2.2.2.2.1, ⟨hk.1.1.2.2.2.2.2.2.2, hk.1.2⟩⟩⟩⟩⟩⟩⟩⟩)⟩, ⟨by exact Kd.V_mono (Kd.V_far (p := ⟨gb760, 0, none⟩) (Kd.V_mono HO_734000.out (fun k_ hk => (⟨hk, hk.2⟩ : _ ∧ k_ ≠ gb760))) (fun _ hk => hk.2) (.slice Ao180 t756.length co180)) (fun _ hk => ⟨hk.1.1.1, ⟨hk.1.1.2.1, ⟨hk.1.1.2.2.1, ⟨hk.1.1.2.2.2.1, ⟨hk.1.1.2.2.2.2.1, ⟨hk.1.1.2.2.2.2.2.1, ⟨hk.1.1.2.2.2.2.2.2.1, ⟨hk.1.1.2.2.2.2.2.2.2, hk.1.2⟩⟩⟩⟩⟩⟩⟩⟩)⟩, ⟨by exact Kd.V_mono (Kd.V_far (p := ⟨gb760, 0, none⟩) (Kd.V_mono HO_746000.out (fun k_ hk => (⟨hk, hk.2⟩ : _ ∧ k_ ≠ gb760))) (fun _ hk => hk.2) (.slice Ao180 t756.length co180)) (fun _ hk => ⟨hk.1.1.1, ⟨hk.1.1.2.1, ⟨hk.1.1.2.2.1, ⟨hk.1.1.2.2.2.1, ⟨hk.1.1.2.2.2.2.1, ⟨hk.1.1.2.2.2.2.2.1, ⟨hk.1.1.2.2.2.2.2.2.1, ⟨hk.1.1.2.2.2.2.2.2.2, hk.1.2⟩⟩⟩⟩⟩⟩⟩⟩)⟩, ⟨by exact Kd.V_mono (Kd.V_far (p := ⟨gb760, 0, none⟩) (Kd.V_mono HO_751000.out (fun k_ hk => (⟨hk, hk.2⟩ : _ ∧ k_ ≠ gb760))) (fun _ hk => hk.2) (.slice Ao180 t756.length co180)) (fun _ hk => ⟨hk.1.1.1, ⟨hk.1.1.2.1, ⟨hk.1.1.2.2.1, ⟨hk.1.1.2.2.2.1, ⟨hk.1.1.2.2.2.2.1, ⟨hk.1.1.2.2.2.2.2.1, ⟨hk.1.1.2.2.2.2.2.2.1, ⟨hk.1.1.2.2.2.2.2.2.2, hk.1.2⟩⟩⟩⟩⟩⟩⟩⟩)⟩, ⟨by exact Kd.V_mono (Kd.V_far (p := ⟨gb760, 0, none⟩) (Kd.V_mono HO_756000.out (fun k_ hk => (⟨hk, hk.2⟩ : _ ∧ k_ ≠ gb760))) (fun _ hk => hk.2) (.slice Ao180 t756.length co180)) (fun _ hk => ⟨hk.1.1.1, ⟨hk.1.1.2.1, ⟨hk.1.1.2.2.1, ⟨hk.1.1.2.2.2.1, ⟨hk.1.1.2.2.2.2.1, ⟨hk.1.1.2.2.2.2.2.1, ⟨hk.1.1.2.2.2.2.2.2.1, ⟨hk.1.1.2.2.2.2.2.2.2, hk.1.2⟩⟩⟩⟩⟩⟩⟩⟩)⟩, ⟨by exact Kd.V_mono (Kd.V_far (p := ⟨gb760, 0, none⟩) (Kd.V_mono HO758.out (fun k_ hk => (⟨hk, hk.2⟩ : _ ∧ k_ ≠ gb760))) (fun _ hk => hk.2) (.slice Ao180 t756.length co180)) (fun _ hk => ⟨hk.1.1.1, ⟨hk.1.1.2.1, ⟨hk.1.1.2.2.1, ⟨hk.1.1.2.2.2.1, ⟨hk.1.1.2.2.2.2.1, ⟨hk.1.1.2.2.2.2.2.1, ⟨hk.1.1.2.2.2.2.2.2.1, ⟨hk.1.1.2.2.2.2.2.2.2, hk.1.2⟩⟩⟩⟩⟩⟩⟩⟩)⟩, ⟨by refine blk_far ?_ NB704_760.out _; exact BK704.out⟩, ⟨by refine blk_far ?_ NB713_760.out _; exact BK713.out⟩, ⟨by refine blk_far ?_ NB722_760.out _; exact BK722.out⟩, ⟨by refine blk_far ?_ NB728_760.out _; exact BK728.out⟩, ⟨by refine blk_far ?_ NB733_760.out _; exact BK733.out⟩, ⟨by refine blk_far ?_ NB745_760.out _; exact BK745.out⟩, ⟨by refine blk_far ?_ NB750_760.out _; exact BK750.out⟩, ⟨by refine blk_far ?_ NB755_760.out _; exact BK755.out⟩, ⟨by refine blk_put (cs := #[.slice none 0 0]) ?_ 0 _ rfl; exact BK760.out⟩, ⟨by repeat (first | exact HB.out | refine sb ?_ GE704 | refine sb ?_ GE713 | refine sb ?_ GE722 | refine sb ?_ GE728 | refine sb ?_ GE733 | refine sb ?_ GE745 | refine sb ?_ GE750 | refine sb ?_ GE755 | refine sb ?_ GE760)⟩⟩
             case rest =>
              clear HC162
              try clear c1
              try clear c2
              try clear p2
              try clear c3
              try clear c4
              try clear c5
              try clear c6
              try clear c7
              try clear c8
              try clear c9
              try clear c10
              try clear c11
              try clear c12
              try clear c13
              try clear c14
              try clear c15
              try clear c16
              try clear c17
              try clear c18
              try clear c19
              try clear c20
              try clear c21
              try clear c24
              try clear c25
              try clear c26
              try clear c31
              try clear c33
              try clear c35
              try clear c36
              try clear c38
              try clear c42
              try clear c43
              try clear c44
              try clear c45
              try clear c52
              try clear c53
              try clear c54
              try clear c55
              try clear c57
              try clear c57b0
              try clear c57b1
              try clear c59
              try clear c60
              try clear c61
              try clear c62
              try clear c64
              try clear c65
              try clear c66
              try clear c69
              try clear c71
              try clear c71b0
              try clear c71b1
              try clear c74
              try clear c75
              try clear c76
              try clear c77
              try clear c79
              try clear c80
              try clear c81
              try clear c86
              try clear c87
              try clear c88
              try clear c89
              try clear c90
              try clear c92
              try clear c92b0
              try clear c92b1
              try clear c94
              try clear c95
              try clear c96
              try clear c97
              try clear c98
              try clear c100
              try clear c101
              try clear c102
              try clear c103
              try clear c106
              try clear c111
              try clear c112
              try clear c113
              try clear c114
              try clear c116
              try clear c117
              try clear c118
              try clear c123
              try clear c124
              try clear c125
              try clear c126
              try clear c127
              try clear c129
              try clear c130
              try clear c136
              try clear c137
              try clear c138
              try clear c139
              try clear c140
              try clear c141
              try clear c143
              try clear c149
              try clear c150
              try clear c151
              try clear c152
              try clear c153
              try clear c154
              try clear c155
              try clear c157
              try clear c157b0
              try clear c157b1
              try clear c158
              try clear c158b0
              try clear c158b1
              try clear c160
              try clear c163
              try clear c164
              try clear c165
              try clear c166
              try clear c167
              try clear c168
              try clear c169
              try clear c171
              try clear c172
              try clear c173
              try clear c174
              try clear c175
              try clear c176
              try clear c181
              try clear c182
              try clear c183
              try clear c184
              try clear c185
              try clear c186
              try clear c187
              try clear c188
              try clear c190
              try clear c190b0
              try clear c190b1
              try clear c192
              try clear c193
              try clear c194
              try clear c195
              try clear c196
              try clear c197
              try clear c198
              try clear c199
              try clear c201
              try clear c202
              try clear c203
              try clear c204
              try clear c205
              try clear c206
              try clear c207
              try clear hcz104_0
              try clear hcz115_0
              try clear hcz119_0
              try clear hcz11_0
              try clear hcz128_0
              try clear hcz131_0
              try clear hcz132_0
              try clear hcz142_0
              try clear hcz144_0
              try clear hcz145_0
              try clear hcz156_0
              try clear hcz16_0
              try clear hcz170_0
              try clear hcz177_0
              try clear hcz189_0
              try clear hcz200_0
              try clear hcz208_0
              try clear hcz22_0
              try clear hcz37_0
              try clear hcz39_0
              try clear hcz46_0
              try clear hcz47_0
              try clear hcz48_0
              try clear hcz56_0
              try clear hcz63_0
              try clear hcz67_0
              try clear hcz78_0
              try clear hcz82_0
              try clear hcz91_0
              try clear hcz99_0
              try clear hfz104_0
              try clear hfz115_0
              try clear hfz119_0
              try clear hfz11_0
              try clear hfz128_0
              try clear hfz131_0
              try clear hfz132_0
              try clear hfz142_0
              try clear hfz144_0
              try clear hfz145_0
              try clear hfz156_0
              try clear hfz16_0
              try clear hfz170_0
              try clear hfz177_0
              try clear hfz189_0
              try clear hfz200_0
              try clear hfz208_0
              try clear hfz22_0
              try clear hfz37_0
              try clear hfz39_0
              try clear hfz46_0
              try clear hfz47_0
              try clear hfz48_0
              try clear hfz56_0
              try clear hfz63_0
              try clear hfz67_0
              try clear hfz78_0
              try clear hfz82_0
              try clear hfz91_0
              try clear hfz99_0
              try clear p2
              obtain ⟨kq, x151_161, rfl, HA, HJ161, HO_705000, HO_714000, HO_723000, HO_729000, HO_734000, HO_746000, HO_751000, HO_756000, HO_761000, BK704, BK713, BK722, BK728, BK733, BK745, BK750, BK755, BK760, HB⟩ := hcut
              cases kq with
              | zero => exact absurd HA.out (by simp [heraldlaw04_NatRing.j5])
              | succ kj161 =>
               have H := HA.out
               clear HA
               simp only [heraldlaw04_NatRing.j5] at H
               by_cases c210 : x151_161 = true
               ·subst c210
                have H1 : (some false) = some r := by rw [if_pos rfl] at H; exact H
                clear H
                have H := H1
                clear H1
                as_aux_lemma =>
                 obtain rfl := Option.some.inj H
                 go_wp2
                 go_ret
                 exact ⟨by first | rfl | (simp [errW_none, errW_some] <;> rfl) | (simp [*, errW_none, errW_some] <;> rfl), by repeat (first | exact HB.out | refine sb ?_ GE704 | refine sb ?_ GE713 | refine sb ?_ GE722 | refine sb ?_ GE728 | refine sb ?_ GE733 | refine sb ?_ GE745 | refine sb ?_ GE750 | refine sb ?_ GE755 | refine sb ?_ GE760)⟩
               ·replace c210 := Bool.eq_false_iff.mpr c210
                subst c210
                have H1 : (heraldlaw04_NatRing.j6 kj161 t699 t708) = some r := by rw [if_neg (show ¬ (false = true) by decide)] at H; exact H
                clear H
                have H := H1
                clear H1
                as_aux_lemma =>
                 have H' := Aside0.mk H
                 clear H
                 go_wp2
                 go_meet
                 case rel => exact ⟨_, H', ⟨by have := HJ6.out; have := HJ33.out; have := HJ69.out; have := HJ109.out; have := HJ161.out; first | omega | exact Nat.le_refl _⟩, ⟨by exact Kd.V_mono HO_705000.out (fun _ hk => ⟨hk.1, ⟨hk.2.1, ⟨hk.2.2.1, ⟨hk.2.2.2.1, ⟨hk.2.2.2.2.1, ⟨hk.2.2.2.2.2.1, ⟨hk.2.2.2.2.2.2.1, hk.2.2.2.2.2.2.2.1⟩⟩⟩⟩⟩⟩⟩)⟩, ⟨by exact Kd.V_mono HO_714000.out (fun _ hk => ⟨hk.1, ⟨hk.2.1, ⟨hk.2.2.1, ⟨hk.2.2.2.1, ⟨hk.2.2.2.2.1, ⟨hk.2.2.2.2.2.1, ⟨hk.2.2.2.2.2.2.1, hk.2.2.2.2.2.2.2.1⟩⟩⟩⟩⟩⟩⟩)⟩, ⟨by exact Kd.V_mono HO_723000.out (fun _ hk => ⟨hk.1, ⟨hk.2.1, ⟨hk.2.2.1, ⟨hk.2.2.2.1, ⟨hk.2.2.2.2.1, ⟨hk.2.2.2.2.2.1, ⟨hk.2.2.2.2.2.2.1, hk.2.2.2.2.2.2.2.1⟩⟩⟩⟩⟩⟩⟩)⟩, ⟨by exact Kd.V_mono HO_729000.out (fun _ hk => ⟨hk.1, ⟨hk.2.1, ⟨hk.2.2.1, ⟨hk.2.2.2.1, ⟨hk.2.2.2.2.1, ⟨hk.2.2.2.2.2.1, ⟨hk.2.2.2.2.2.2.1, hk.2.2.2.2.2.2.2.1⟩⟩⟩⟩⟩⟩⟩)⟩, ⟨by exact Kd.V_mono HO_734000.out (fun _ hk => ⟨hk.1, ⟨hk.2.1, ⟨hk.2.2.1, ⟨hk.2.2.2.1, ⟨hk.2.2.2.2.1, ⟨hk.2.2.2.2.2.1, ⟨hk.2.2.2.2.2.2.1, hk.2.2.2.2.2.2.2.1⟩⟩⟩⟩⟩⟩⟩)⟩, ⟨by exact Kd.V_mono HO_746000.out (fun _ hk => ⟨hk.1, ⟨hk.2.1, ⟨hk.2.2.1, ⟨hk.2.2.2.1, ⟨hk.2.2.2.2.1, ⟨hk.2.2.2.2.2.1, ⟨hk.2.2.2.2.2.2.1, hk.2.2.2.2.2.2.2.1⟩⟩⟩⟩⟩⟩⟩)⟩, ⟨by exact Kd.V_mono HO_751000.out (fun _ hk => ⟨hk.1, ⟨hk.2.1, ⟨hk.2.2.1, ⟨hk.2.2.2.1, ⟨hk.2.2.2.2.1, ⟨hk.2.2.2.2.2.1, ⟨hk.2.2.2.2.2.2.1, hk.2.2.2.2.2.2.2.1⟩⟩⟩⟩⟩⟩⟩)⟩, ⟨by exact Kd.V_mono HO_756000.out (fun _ hk => ⟨hk.1, ⟨hk.2.1, ⟨hk.2.2.1, ⟨hk.2.2.2.1, ⟨hk.2.2.2.2.1, ⟨hk.2.2.2.2.2.1, ⟨hk.2.2.2.2.2.2.1, hk.2.2.2.2.2.2.2.1⟩⟩⟩⟩⟩⟩⟩)⟩, ⟨by exact BK704.out⟩, ⟨by exact BK713.out⟩, ⟨by exact BK722.out⟩, ⟨by exact BK728.out⟩, ⟨by exact BK733.out⟩, ⟨by exact BK745.out⟩, ⟨by exact BK750.out⟩, ⟨by exact BK755.out⟩, ⟨by repeat (first | exact HB.out | refine sb ?_ GE704 | refine sb ?_ GE713 | refine sb ?_ GE722 | refine sb ?_ GE728 | refine sb ?_ GE733 | refine sb ?_ GE745 | refine sb ?_ GE750 | refine sb ?_ GE755 | refine sb ?_ GE760)⟩⟩
            ·replace c160 := Bool.eq_false_iff.mpr c160
             subst c160
             have H1 : (heraldlaw04_NatRing.j6 kj109 t699 t708) = some r := by rw [if_neg (show ¬ (false = true) by decide)] at H; exact H
             clear H
             have H := H1
             clear H1
             as_aux_lemma =>
              have H' := Aside0.mk H
              clear H
              go_wp2
              go_meet
              case rel => exact ⟨_, H', ⟨by have := HJ6.out; have := HJ33.out; have := HJ69.out; have := HJ109.out; first | omega | exact Nat.le_refl _⟩, ⟨by exact HO_705000.out⟩, ⟨by exact HO_714000.out⟩, ⟨by exact HO_723000.out⟩, ⟨by exact HO_729000.out⟩, ⟨by exact HO_734000.out⟩, ⟨by exact HO_746000.out⟩, ⟨by exact HO_751000.out⟩, ⟨by exact HO_756000.out⟩, ⟨by exact BK704.out⟩, ⟨by exact BK713.out⟩, ⟨by exact BK722.out⟩, ⟨by exact BK728.out⟩, ⟨by exact BK733.out⟩, ⟨by exact BK745.out⟩, ⟨by exact BK750.out⟩, ⟨by exact BK755.out⟩, ⟨by repeat (first | exact HB.out | refine sb ?_ GE704 | refine sb ?_ GE713 | refine sb ?_ GE722 | refine sb ?_ GE728 | refine sb ?_ GE733 | refine sb ?_ GE745 | refine sb ?_ GE750 | refine sb ?_ GE755)⟩⟩
           case rest =>
            clear HC159
            try clear c1
            try clear c2
            try clear p2
            try clear c3
            try clear c4
            try clear c5
            try clear c6
            try clear c7
            try clear c8
            try clear c9
            try clear c10
            try clear c11
            try clear c12
            try clear c13
            try clear c14
            try clear c15
            try clear c16
            try clear c17
            try clear c18
            try clear c19
            try clear c20
            try clear c21
            try clear c24
            try clear c25
            try clear c26
            try clear c31
            try clear c33
            try clear c35
            try clear c36
            try clear c38
            try clear c42
            try clear c43
            try clear c44
            try clear c45
            try clear c52
            try clear c53
            try clear c54
            try clear c55
            try clear c57
            try clear c57b0
            try clear c57b1
            try clear c59
            try clear c60
            try clear c61
            try clear c62
            try clear c64
            try clear c65
            try clear c66
            try clear c69
            try clear c71
            try clear c71b0
            try clear c71b1
            try clear c74
            try clear c75
            try clear c76
            try clear c77
            try clear c79
            try clear c80
            try clear c81
            try clear c86
            try clear c87
            try clear c88
            try clear c89
            try clear c90
            try clear c92
            try clear c92b0
            try clear c92b1
            try clear c94
            try clear c95
            try clear c96
            try clear c97
            try clear c98
            try clear c100
            try clear c101
            try clear c102
            try clear c103
            try clear c106
            try clear c111
            try clear c112
            try clear c113
            try clear c114
            try clear c116
            try clear c117
            try clear c118
            try clear c123
            try clear c124
            try clear c125
            try clear c126
            try clear c127
            try clear c129
            try clear c130
            try clear c136
            try clear c137
            try clear c138
            try clear c139
            try clear c140
            try clear c141
            try clear c143
            try clear c149
            try clear c150
            try clear c151
            try clear c152
            try clear c153
            try clear c154
            try clear c155
            try clear c157
            try clear c157b0
            try clear c157b1
            try clear c158
            try clear c158b0
            try clear c158b1
            try clear c160
            try clear c163
            try clear c164
            try clear c165
            try clear c166
            try clear c167
            try clear c168
            try clear c169
            try clear c171
            try clear c172
            try clear c173
            try clear c174
            try clear c175
            try clear c176
            try clear c181
            try clear c182
            try clear c183
            try clear c184
            try clear c185
            try clear c186
            try clear c187
            try clear c188
            try clear c190
            try clear c190b0
            try clear c190b1
            try clear c192
            try clear c193
            try clear c194
            try clear c195
            try clear c196
            try clear c197
            try clear c198
            try clear c199
            try clear c201
            try clear c202
            try clear c203
            try clear c204
            try clear c205
            try clear c206
            try clear c207
            try clear c210
            try clear hcz104_0
            try clear hcz115_0
            try clear hcz119_0
            try clear hcz11_0
            try clear hcz128_0
            try clear hcz131_0
            try clear hcz132_0
            try clear hcz142_0
            try clear hcz144_0
            try clear hcz145_0
            try clear hcz156_0
            try clear hcz16_0
            try clear hcz170_0
            try clear hcz177_0
            try clear hcz189_0
            try clear hcz200_0
            try clear hcz208_0
            try clear hcz22_0
            try clear hcz37_0
            try clear hcz39_0
            try clear hcz46_0
            try clear hcz47_0
            try clear hcz48_0
            try clear hcz56_0
            try clear hcz63_0
            try clear hcz67_0
            try clear hcz78_0
            try clear hcz82_0
            try clear hcz91_0
            try clear hcz99_0
            try clear hfz104_0
            try clear hfz115_0
            try clear hfz119_0
            try clear hfz11_0
            try clear hfz128_0
            try clear hfz131_0
            try clear hfz132_0
            try clear hfz142_0
            try clear hfz144_0
            try clear hfz145_0
            try clear hfz156_0
            try clear hfz16_0
            try clear hfz170_0
            try clear hfz177_0
            try clear hfz189_0
            try clear hfz200_0
            try clear hfz208_0
            try clear hfz22_0
            try clear hfz37_0
            try clear hfz39_0
            try clear hfz46_0
            try clear hfz47_0
            try clear hfz48_0
            try clear hfz56_0
            try clear hfz63_0
            try clear hfz67_0
            try clear hfz78_0
            try clear hfz82_0
            try clear hfz91_0
            try clear hfz99_0
            try clear p2
            obtain ⟨kq, HA, HJ158, HO_705000, HO_714000, HO_723000, HO_729000, HO_734000, HO_746000, HO_751000, HO_756000, BK704, BK713, BK722, BK728, BK733, BK745, BK750, BK755, HB⟩ := hcut
            cases kq with
            | zero => exact absurd HA.out (by simp [heraldlaw04_NatRing.j6])
            | succ kj158 =>
             have H := HA.out
             clear HA
             simp only [heraldlaw04_NatRing.j6] at H
             replace H := Option.bind_eq_some_iff.mp H
             obtain ⟨⟨t762, t765⟩, A2110, H⟩ := H
             replace H : ((nat_Nat_Mul.f kj158 t708 t699).bind fun bt767 => (if t765 = bt767.2 then ((nat_Nat_Compare.f kj158 t762 bt767.1).bind fun t772 => (heraldlaw04_NatRing.j7 kj158 (t772 != 0) t699)) else (heraldlaw04_NatRing.j7 kj158 true t699))) = some r := H
             have A211 := Aside0.mk A2110
             clear A2110
             replace H := Option.bind_eq_some_iff.mp H
             obtain ⟨⟨t767, t770⟩, A2120, H⟩ := H
             replace H : (if t765 = t770 then ((nat_Nat_Compare.f kj158 t762 t767).bind fun t772 => (heraldlaw04_NatRing.j7 kj158 (t772 != 0) t699)) else (heraldlaw04_NatRing.j7 kj158 true t699)) = some r := H
             have A212 := Aside0.mk A2120
             clear A2120
             have HC213 := Aside0.mk H
             clear H
             have hnb214 := NB704_713.out
             have hnc214 := NB713_704.out
             have hnb215 := NB704_722.out
             have hnc215 := NB722_704.out
             have hnb216 := NB704_728.out
             have hnc216 := NB728_704.out
             have hnb217 := NB704_733.out
             have hnc217 := NB733_704.out
             have hnb218 := NB704_745.out
             have hnc218 := NB745_704.out
             have hnb219 := NB704_750.out
             have hnc219 := NB750_704.out
             have hnb220 := NB704_755.out
             have hnc220 := NB755_704.out
             have hcz221_0 : wc.cell? ⟨gb704, 0, none⟩ = some (.slice Ao10 t699.length co10) := (blk_cell BK704.out 0).trans rfl
             have hfz221_0 := blk_frozen BK704.out 0
             have hnb222 := NB713_722.out
             have hnc222 := NB722_713.out
             have hnb223 := NB713_728.out
             have hnc223 := NB728_713.out
             have hnb224 := NB713_733.out
             have hnc224 := NB733_713.out
             have hnb225 := NB713_745.out
             have hnc225 := NB745_713.out
             have hnb226 := NB713_750.out
             have hnc226 := NB750_713.out
             have hnb227 := NB713_755.out
             have hnc227 := NB755_713.out
             have hcz228_0 : wc.cell? ⟨gb713, 0, none⟩ = some (.slice Ao14 t708.length co14) := (blk_cell BK713.out 0).trans rfl
             have hfz228_0 := blk_frozen BK713.out 0
             go_upto_region 23 with (first | ((with_reducible refine gate_callee (f := 44) rfl ?_); refine goesL_ (some 155) rfl rfl Tryd.func44 (by kernel_rfl) rfl #[.agg #[.slice Ao10 t699.length co10], .agg #[.slice Ao14 t708.length co14]] rfl (by (try simp only [List.map_toArray, List.map_cons, List.map_nil]); first | done | rfl | (simp only [List.length_drop, List.length_take]; rfl)) ?_; (with_reducible refine (nat_Nat_Mul.calls kj158 _ _ t699 _ _ t708 t762 t765 _ ?side1 ?side2 ?side3 ?side4 A211.out).mono ?_); (case side1 => exact (Kd.V_reads' HO_705000.out).2.2); (case side2 => exact (Kd.V_reads' HO_705000.out).2.1); (case side3 => exact (Kd.V_reads' HO_714000.out).2.2); (case side4 => exact (Kd.V_reads' HO_714000.out).2.1); rintro e w229 ⟨v763, rfl, ho0, hb⟩; refine ⟨_, rfl, ?_⟩; have HO764 := Aside0.mk (Kd.V_lower (Kd.V_mono (ok' := fun k_ => k_ ≠ gb704 ∧ k_ ≠ gb713 ∧ k_ ≠ gb722 ∧ k_ ≠ gb728 ∧ k_ ≠ gb733 ∧ k_ ≠ gb745 ∧ k_ ≠ gb750 ∧ k_ ≠ gb755) ho0 (fun k_ hk_ => ⟨(fb BK704 k_ hk_), (fb BK713 k_ hk_), (fb BK722 k_ hk_), (fb BK728 k_ hk_), (fb BK733 k_ hk_), (fb BK745 k_ hk_), (fb BK750 k_ hk_), (fb BK755 k_ hk_)⟩)) (below_size (by repeat (first | exact HB.out | refine sb ?_ GE704 | refine sb ?_ GE713 | refine sb ?_ GE722 | refine sb ?_ GE728 | refine sb ?_ GE733 | refine sb ?_ GE745 | refine sb ?_ GE750 | refine sb ?_ GE755)))); replace HO_705000 := vb HO_705000 hb; replace HO_714000 := vb HO_714000 hb; replace HO_723000 := vb HO_723000 hb; replace HO_729000 := vb HO_729000 hb; replace HO_734000 := vb HO_734000 hb; replace HO_746000 := vb HO_746000 hb; replace HO_751000 := vb HO_751000 hb; replace HO_756000 := vb HO_756000 hb; replace BK704 := bb BK704 hb; replace BK713 := bb BK713 hb; replace BK722 := bb BK722 hb; replace BK728 := bb BK728 hb; replace BK733 := bb BK733 hb; replace BK745 := bb BK745 hb; replace BK750 := bb BK750 hb; replace BK755 := bb BK755 hb; replace HB := Aside0.mk (below_step (by repeat (first | exact HB.out | refine sb ?_ GE704 | refine sb ?_ GE713 | refine sb ?_ GE722 | refine sb ?_ GE728 | refine sb ?_ GE733 | refine sb ?_ GE745 | refine sb ?_ GE750 | refine sb ?_ GE755)) hb); (try clear hb); (try clear hk); (try clear hi); (try clear ho0)) | ((with_reducible refine gate_dst (N := 33) rfl ?_); refine box_event ?hg (N := 33) ?hd (cs := #[.slice none 0 0]) (t := 26) ?hr ?_; (case hd => rfl); (case hg => rfl); (case hr => first | (go_simp; done) | (go_simp; rfl)); intro gb766 hg w230 hbox hb; have BK766 := Aside0.mk (hbox); have GW766 := Aside0.mk ((by rw [hg]; exact (below_size (by repeat (first | exact HB.out | refine sb ?_ GE704 | refine sb ?_ GE713 | refine sb ?_ GE722 | refine sb ?_ GE728 | refine sb ?_ GE733 | refine sb ?_ GE745 | refine sb ?_ GE750 | refine sb ?_ GE755))) : w.heap.size ≤ gb766)); have GE766 := Aside0.mk ((by rw [hg]; exact (below_size (by repeat (first | exact HB.out | refine sb ?_ GE704 | refine sb ?_ GE713 | refine sb ?_ GE722 | refine sb ?_ GE728 | refine sb ?_ GE733 | refine sb ?_ GE745 | refine sb ?_ GE750 | refine sb ?_ GE755))) : w.heap.size ≤ gb766)); have NB704_766 := nl BK704 hg; have NB766_704 := ng BK704 hg; have NB713_766 := nl BK713 hg; have NB766_713 := ng BK713 hg; have NB722_766 := nl BK722 hg; have NB766_722 := ng BK722 hg; have NB728_766 := nl BK728 hg; have NB766_728 := ng BK728 hg; have NB733_766 := nl BK733 hg; have NB766_733 := ng BK733 hg; have NB745_766 := nl BK745 hg; have NB766_745 := ng BK745 hg; have NB750_766 := nl BK750 hg; have NB766_750 := ng BK750 hg; have NB755_766 := nl BK755 hg; have NB766_755 := ng BK755 hg; replace HO_705000 := ve HO_705000 gb766 hg hb; replace HO_714000 := ve HO_714000 gb766 hg hb; replace HO_723000 := ve HO_723000 gb766 hg hb; replace HO_729000 := ve HO_729000 gb766 hg hb; replace HO_734000 := ve HO_734000 gb766 hg hb; replace HO_746000 := ve HO_746000 gb766 hg hb; replace HO_751000 := ve HO_751000 gb766 hg hb; replace HO_756000 := ve HO_756000 gb766 hg hb; replace HO764 := ve HO764 gb766 hg hb; replace BK704 := bb BK704 hb; replace BK713 := bb BK713 hb; replace BK722 := bb BK722 hb; replace BK728 := bb BK728 hb; replace BK733 := bb BK733 hb; replace BK745 := bb BK745 hb; replace BK750 := bb BK750 hb; replace BK755 := bb BK755 hb; replace HB := Aside0.mk (below_step (by repeat (first | exact HB.out | refine sb ?_ GE704 | refine sb ?_ GE713 | refine sb ?_ GE722 | refine sb ?_ GE728 | refine sb ?_ GE733 | refine sb ?_ GE745 | refine sb ?_ GE750 | refine sb ?_ GE755)) hb); clear hb hbox hg; obtain ⟨Ao231, co231, eo231⟩ := Kd.V_slice HO764.out; subst eo231; have hnb232 := NB766_704.out; have hnc232 := NB704_766.out; have hnb233 := NB766_713.out; have hnc233 := NB713_766.out; have hnb234 := NB766_722.out; have hnc234 := NB722_766.out; have hnb235 := NB766_728.out; have hnc235 := NB728_766.out; have hnb236 := NB766_733.out; have hnc236 := NB733_766.out; have hnb237 := NB766_745.out; have hnc237 := NB745_766.out; have hnb238 := NB766_750.out; have hnc238 := NB750_766.out; have hnb239 := NB766_755.out; have hnc239 := NB755_766.out; have hcz240_0 : w230.cell? ⟨gb766, 0, none⟩ = some (.slice none 0 0) := (blk_cell BK766.out 0).trans rfl; have hfz240_0 := blk_frozen BK766.out 0; have hcz241_0 : w230.cell? ⟨gb713, 0, none⟩ = some (.slice Ao14 t708.length co14) := (blk_cell BK713.out 0).trans rfl; have hfz241_0 := blk_frozen BK713.out 0; have hcz242_0 : w230.cell? ⟨gb704, 0, none⟩ = some (.slice Ao10 t699.length co10) := (blk_cell BK704.out 0).trans rfl; have hfz242_0 := blk_frozen BK704.out 0) | ((with_reducible refine gate_callee (f := 44) rfl ?_); refine goesL_ (some 161) rfl rfl Tryd.func44 (by kernel_rfl) rfl #[.agg #[.slice Ao14 t708.length co14], .agg #[.slice Ao10 t699.length co10]] rfl (by (try simp only [List.map_toArray, List.map_cons, List.map_nil]); first | done | rfl | (simp only [List.length_drop, List.length_take]; rfl)) ?_; (with_reducible refine (nat_Nat_Mul.calls kj158 _ _ t708 _ _ t699 t767 t770 _ ?side1 ?side2 ?side3 ?side4 A212.out).mono ?_); (case side1 => refine (Kd.V_reads' (e := 79) (base := w.heap.size) (ok := fun k_ => ((k_ ≠ gb704 ∧ (k_ ≠ gb713 ∧ (k_ ≠ gb722 ∧ (k_ ≠ gb728 ∧ (k_ ≠ gb733 ∧ (k_ ≠ gb745 ∧ (k_ ≠ gb750 ∧ k_ ≠ gb755))))))) ∧ k_ ≠ gb766)) (n := t708.length) (c := co14) ?_).2.2; exact (by exact (Kd.V_mono (Kd.V_far (p := ⟨gb766, 0, none⟩) (Kd.V_mono HO_714000.out (fun k_ hk => (⟨hk, hk.2⟩ : _ ∧ k_ ≠ gb766))) (fun _ hk => hk.2) (.slice Ao231 t762.length co231)) (fun _ h_ => h_.1)))); (case side2 => exact (Kd.V_reads' HO_714000.out).2.1); (case side3 => refine (Kd.V_reads' (e := 79) (base := w.heap.size) (ok := fun k_ => ((k_ ≠ gb704 ∧ (k_ ≠ gb713 ∧ (k_ ≠ gb722 ∧ (k_ ≠ gb728 ∧ (k_ ≠ gb733 ∧ (k_ ≠ gb745 ∧ (k_ ≠ gb750 ∧ k_ ≠ gb755))))))) ∧ k_ ≠ gb766)) (n := t699.length) (c := co10) ?_).2.2; exact (by exact (Kd.V_mono (Kd.V_far (p := ⟨gb766, 0, none⟩) (Kd.V_mono HO_705000.out (fun k_ hk => (⟨hk, hk.2⟩ : _ ∧ k_ ≠ gb766))) (fun _ hk => hk.2) (.slice Ao231 t762.length co231)) (fun _ h_ => h_.1)))); (case side4 => exact (Kd.V_reads' HO_705000.out).2.1); rintro e w243 ⟨v768, rfl, ho0, hb⟩; refine ⟨_, rfl, ?_⟩; have HO769 := Aside0.mk (Kd.V_lower (Kd.V_mono (ok' := fun k_ => k_ ≠ gb704 ∧ k_ ≠ gb713 ∧ k_ ≠ gb722 ∧ k_ ≠ gb728 ∧ k_ ≠ gb733 ∧ k_ ≠ gb745 ∧ k_ ≠ gb750 ∧ k_ ≠ gb755 ∧ k_ ≠ gb766) ho0 (fun k_ hk_ => ⟨(Kd.freshB (g := gb704) (o := .cells #[.slice Ao10 t699.length co10] 26 (0, 0)) (by refine blk_far ?_ NB704_766.out _; exact BK704.out) k_ hk_), (Kd.freshB (g := gb713) (o := .cells #[.slice Ao14 t708.length co14] 26 (0, 0)) (by refine blk_far ?_ NB713_766.out _; exact BK713.out) k_ hk_), (Kd.freshB (g := gb722) (o := .cells #[.slice Ao19 t717.length co19] 26 (0, 0)) (by refine blk_far ?_ NB722_766.out _; exact BK722.out) k_ hk_), (Kd.freshB (g := gb728) (o := .cells #[.slice Ao42 t724.length co42] 26 (0, 0)) (by refine blk_far ?_ NB728_766.out _; exact BK728.out) k_ hk_), (Kd.freshB (g := gb733) (o := .cells #[.slice Ao51 t729.length co51] 26 (0, 0)) (by refine blk_far ?_ NB733_766.out _; exact BK733.out) k_ hk_), (Kd.freshB (g := gb745) (o := .cells #[.slice Ao122 t741.length co122] 26 (0, 0)) (by refine blk_far ?_ NB745_766.out _; exact BK745.out) k_ hk_), (Kd.freshB (g := gb750) (o := .cells #[.slice Ao135 t746.length co135] 26 (0, 0)) (by refine blk_far ?_ NB750_766.out _; exact BK750.out) k_ hk_), (Kd.freshB (g := gb755) (o := .cells #[.slice Ao148 t751.length co148] 26 (0, 0)) (by refine blk_far ?_ NB755_766.out _; exact BK755.out) k_ hk_), (Kd.freshB (g := gb766) (o := .cells #[.slice Ao231 t762.length co231] 26 (0, 0)) (by refine blk_put (cs := #[.slice none 0 0]) ?_ 0 _ rfl; exact BK766.out) k_ hk_)⟩)) (below_size (by repeat (first | exact HB.out | refine sb ?_ GE704 | refine sb ?_ GE713 | refine sb ?_ GE722 | refine sb ?_ GE728 | refine sb ?_ GE733 | refine sb ?_ GE745 | refine sb ?_ GE750 | refine sb ?_ GE755 | refine sb ?_ GE766)))); replace HO_705000 := vf HO_705000 (fun k_ hk => hk.2) hb; replace HO_714000 := vf HO_714000 (fun k_ hk => hk.2) hb; replace HO_723000 := vf HO_723000 (fun k_ hk => hk.2) hb; replace HO_729000 := vf HO_729000 (fun k_ hk => hk.2) hb; replace HO_734000 := vf HO_734000 (fun k_ hk => hk.2) hb; replace HO_746000 := vf HO_746000 (fun k_ hk => hk.2) hb; replace HO_751000 := vf HO_751000 (fun k_ hk => hk.2) hb; replace HO_756000 := vf HO_756000 (fun k_ hk => hk.2) hb; replace HO764 := vf HO764 (fun k_ hk => hk.2) hb; replace BK704 := bf BK704 NB704_766 hb; replace BK713 := bf BK713 NB713_766 hb; replace BK722 := bf BK722 NB722_766 hb; replace BK728 := bf BK728 NB728_766 hb; replace BK733 := bf BK733 NB733_766 hb; replace BK745 := bf BK745 NB745_766 hb; replace BK750 := bf BK750 NB750_766 hb; replace BK755 := bf BK755 NB755_766 hb; replace BK766 := Aside0.mk (blk_below (g := gb766) (o := .cells #[.slice Ao231 t762.length co231] 26 (0, 0)) (by refine blk_put (cs := #[.slice none 0 0]) ?_ 0 _ rfl; exact BK766.out) hb); replace HB := Aside0.mk (below_step (by repeat (first | exact HB.out | refine sb ?_ GE704 | refine sb ?_ GE713 | refine sb ?_ GE722 | refine sb ?_ GE728 | refine sb ?_ GE733 | refine sb ?_ GE745 | refine sb ?_ GE750 | refine sb ?_ GE755 | refine sb ?_ GE766)) hb); (try clear hb); (try clear hk); (try clear hi); (try clear ho0)) | ((with_reducible refine gate_dst (N := 34) rfl ?_); refine box_event ?hg (N := 34) ?hd (cs := #[.slice none 0 0]) (t := 26) ?hr ?_; (case hd => rfl); (case hg => rfl); (case hr => first | (go_simp; done) | (go_simp; rfl)); intro gb771 hg w244 hbox hb; have BK771 := Aside0.mk (hbox); have GW771 := Aside0.mk ((by rw [hg]; exact (below_size (by repeat (first | exact HB.out | refine sb ?_ GE704 | refine sb ?_ GE713 | refine sb ?_ GE722 | refine sb ?_ GE728 | refine sb ?_ GE733 | refine sb ?_ GE745 | refine sb ?_ GE750 | refine sb ?_ GE755 | refine sb ?_ GE766))) : w.heap.size ≤ gb771)); have GE771 := Aside0.mk ((by rw [hg]; exact (below_size (by repeat (first | exact HB.out | refine sb ?_ GE704 | refine sb ?_ GE713 | refine sb ?_ GE722 | refine sb ?_ GE728 | refine sb ?_ GE733 | refine sb ?_ GE745 | refine sb ?_ GE750 | refine sb ?_ GE755 | refine sb ?_ GE766))) : w.heap.size ≤ gb771)); have NB704_771 := nl BK704 hg; have NB771_704 := ng BK704 hg; have NB713_771 := nl BK713 hg; have NB771_713 := ng BK713 hg; have NB722_771 := nl BK722 hg; have NB771_722 := ng BK722 hg; have NB728_771 := nl BK728 hg; have NB771_728 := ng BK728 hg; have NB733_771 := nl BK733 hg; have NB771_733 := ng BK733 hg; have NB745_771 := nl BK745 hg; have NB771_745 := ng BK745 hg; have NB750_771 := nl BK750 hg; have NB771_750 := ng BK750 hg; have NB755_771 := nl BK755 hg; have NB771_755 := ng BK755 hg; have NB766_771 := nl BK766 hg; have NB771_766 := ng BK766 hg; replace HO_705000 := ve HO_705000 gb771 hg hb; replace HO_714000 := ve HO_714000 gb771 hg hb; replace HO_723000 := ve HO_723000 gb771 hg hb; replace HO_729000 := ve HO_729000 gb771 hg hb; replace HO_734000 := ve HO_734000 gb771 hg hb; replace HO_746000 := ve HO_746000 gb771 hg hb; replace HO_751000 := ve HO_751000 gb771 hg hb; replace HO_756000 := ve HO_756000 gb771 hg hb; replace HO764 := ve HO764 gb771 hg hb; replace HO769 := ve HO769 gb771 hg hb; replace BK704 := bb BK704 hb; replace BK713 := bb BK713 hb; replace BK722 := bb BK722 hb; replace BK728 := bb BK728 hb; replace BK733 := bb BK733 hb; replace BK745 := bb BK745 hb; replace BK750 := bb BK750 hb; replace BK755 := bb BK755 hb; replace BK766 := bb BK766 hb; replace HB := Aside0.mk (below_step (by repeat (first | exact HB.out | refine sb ?_ GE704 | refine sb ?_ GE713 | refine sb ?_ GE722 | refine sb ?_ GE728 | refine sb ?_ GE733 | refine sb ?_ GE745 | refine sb ?_ GE750 | refine sb ?_ GE755 | refine sb ?_ GE766)) hb); clear hb hbox hg; obtain ⟨Ao245, co245, eo245⟩ := Kd.V_slice HO769.out; subst eo245; have hnb246 := NB771_704.out; have hnc246 := NB704_771.out; have hnb247 := NB771_713.out; have hnc247 := NB713_771.out; have hnb248 := NB771_722.out; have hnc248 := NB722_771.out; have hnb249 := NB771_728.out; have hnc249 := NB728_771.out; have hnb250 := NB771_733.out; have hnc250 := NB733_771.out; have hnb251 := NB771_745.out; have hnc251 := NB745_771.out; have hnb252 := NB771_750.out; have hnc252 := NB750_771.out; have hnb253 := NB771_755.out; have hnc253 := NB755_771.out; have hnb254 := NB771_766.out; have hnc254 := NB766_771.out; have hcz255_0 : w244.cell? ⟨gb771, 0, none⟩ = some (.slice none 0 0) := (blk_cell BK771.out 0).trans rfl; have hfz255_0 := blk_frozen BK771.out 0))
             (try simp only [Act.put, List.setIfInBounds_toArray, List.set_cons_zero, List.set_cons_succ])
             go_cut [172] (fun v172 wc => ∃ (kq : Nat) (x172_212 : Bool), v172 = .bool x172_212 ∧ Aside0 (heraldlaw04_NatRing.j7 kq x172_212 t699 = some r) ∧ Aside0 (kq ≤ kj158) ∧ Aside0 (Kd.V (Kd.int .u32) 79 wc w.heap.size (fun k_ => k_ ≠ gb704 ∧ k_ ≠ gb713 ∧ k_ ≠ gb722 ∧ k_ ≠ gb728 ∧ k_ ≠ gb733 ∧ k_ ≠ gb745 ∧ k_ ≠ gb750 ∧ k_ ≠ gb755 ∧ k_ ≠ gb766 ∧ k_ ≠ gb771) (.slice Ao10 t699.length co10) t699) ∧ Aside0 (Kd.V (Kd.int .u32) 79 wc w.heap.size (fun k_ => k_ ≠ gb704 ∧ k_ ≠ gb713 ∧ k_ ≠ gb722 ∧ k_ ≠ gb728 ∧ k_ ≠ gb733 ∧ k_ ≠ gb745 ∧ k_ ≠ gb750 ∧ k_ ≠ gb755 ∧ k_ ≠ gb766 ∧ k_ ≠ gb771) (.slice Ao14 t708.length co14) t708) ∧ Aside0 (Kd.V (Kd.int .u32) 79 wc w.heap.size (fun k_ => k_ ≠ gb704 ∧ k_ ≠ gb713 ∧ k_ ≠ gb722 ∧ k_ ≠ gb728 ∧ k_ ≠ gb733 ∧ k_ ≠ gb745 ∧ k_ ≠ gb750 ∧ k_ ≠ gb755 ∧ k_ ≠ gb766 ∧ k_ ≠ gb771) (.slice Ao19 t717.length co19) t717) ∧ Aside0 (Kd.V (Kd.int .u32) 79 wc w.heap.size (fun k_ => k_ ≠ gb704 ∧ k_ ≠ gb713 ∧ k_ ≠ gb722 ∧ k_ ≠ gb728 ∧ k_ ≠ gb733 ∧ k_ ≠ gb745 ∧ k_ ≠ gb750 ∧ k_ ≠ gb755 ∧ k_ ≠ gb766 ∧ k_ ≠ gb771) (.slice Ao42 t724.length co42) t724) ∧ Aside0 (Kd.V (Kd.int .u32) 79 wc w.heap.size (fun k_ => k_ ≠ gb704 ∧ k_ ≠ gb713 ∧ k_ ≠ gb722 ∧ k_ ≠ gb728 ∧ k_ ≠ gb733 ∧ k_ ≠ gb745 ∧ k_ ≠ gb750 ∧ k_ ≠ gb755 ∧ k_ ≠ gb766 ∧ k_ ≠ gb771) (.slice Ao51 t729.length co51) t729) ∧ Aside0 (Kd.V (Kd.int .u32) 79 wc w.heap.size (fun k_ => k_ ≠ gb704 ∧ k_ ≠ gb713 ∧ k_ ≠ gb722 ∧ k_ ≠ gb728 ∧ k_ ≠ gb733 ∧ k_ ≠ gb745 ∧ k_ ≠ gb750 ∧ k_ ≠ gb755 ∧ k_ ≠ gb766 ∧ k_ ≠ gb771) (.slice Ao122 t741.length co122) t741) ∧ Aside0 (Kd.V (Kd.int .u32) 79 wc w.heap.size (fun k_ => k_ ≠ gb704 ∧ k_ ≠ gb713 ∧ k_ ≠ gb722 ∧ k_ ≠ gb728 ∧ k_ ≠ gb733 ∧ k_ ≠ gb745 ∧ k_ ≠ gb750 ∧ k_ ≠ gb755 ∧ k_ ≠ gb766 ∧ k_ ≠ gb771) (.slice Ao135 t746.length co135) t746) ∧ Aside0 (Kd.V (Kd.int .u32) 79 wc w.heap.size (fun k_ => k_ ≠ gb704 ∧ k_ ≠ gb713 ∧ k_ ≠ gb722 ∧ k_ ≠ gb728 ∧ k_ ≠ gb733 ∧ k_ ≠ gb745 ∧ k_ ≠ gb750 ∧ k_ ≠ gb755 ∧ k_ ≠ gb766 ∧ k_ ≠ gb771) (.slice Ao148 t751.length co148) t751) ∧ Aside0 (Kd.V (Kd.int .u32) 79 wc w.heap.size (fun k_ => k_ ≠ gb704 ∧ k_ ≠ gb713 ∧ k_ ≠ gb722 ∧ k_ ≠ gb728 ∧ k_ ≠ gb733 ∧ k_ ≠ gb745 ∧ k_ ≠ gb750 ∧ k_ ≠ gb755 ∧ k_ ≠ gb766 ∧ k_ ≠ gb771) (.slice Ao231 t762.length co231) t762) ∧ Aside0 (Kd.V (Kd.int .u32) 79 wc w.heap.size (fun k_ => k_ ≠ gb704 ∧ k_ ≠ gb713 ∧ k_ ≠ gb722 ∧ k_ ≠ gb728 ∧ k_ ≠ gb733 ∧ k_ ≠ gb745 ∧ k_ ≠ gb750 ∧ k_ ≠ gb755 ∧ k_ ≠ gb766 ∧ k_ ≠ gb771) (.slice Ao245 t767.length co245) t767) ∧ Aside0 (wc.heap[gb704]? = some (.cells #[(.slice Ao10 t699.length co10)] 26 (0, 0))) ∧ Aside0 (wc.heap[gb713]? = some (.cells #[(.slice Ao14 t708.length co14)] 26 (0, 0))) ∧ Aside0 (wc.heap[gb722]? = some (.cells #[(.slice Ao19 t717.length co19)] 26 (0, 0))) ∧ Aside0 (wc.heap[gb728]? = some (.cells #[(.slice Ao42 t724.length co42)] 26 (0, 0))) ∧ Aside0 (wc.heap[gb733]? = some (.cells #[(.slice Ao51 t729.length co51)] 26 (0, 0))) ∧ Aside0 (wc.heap[gb745]? = some (.cells #[(.slice Ao122 t741.length co122)] 26 (0, 0))) ∧ Aside0 (wc.heap[gb750]? = some (.cells #[(.slice Ao135 t746.length co135)] 26 (0, 0))) ∧ Aside0 (wc.heap[gb755]? = some (.cells #[(.slice Ao148 t751.length co148)] 26 (0, 0))) ∧ Aside0 (wc.heap[gb766]? = some (.cells #[(.slice Ao231 t762.length co231)] 26 (0, 0))) ∧ Aside0 (wc.heap[gb771]? = some (.cells #[(.slice Ao245 t767.length co245)] 26 (0, 0))) ∧ Aside0 (Below w.heap.size w wc))
             case first =>
              have H := HC213.out
              clear HC213
              by_cases c256 : t765 = t770
              ·rw [if_pos c256] at H
               have c256b0 : (t765 == t770) = true := beq_iff_eq.mpr c256
               have c256b1 : (t765 != t770) = false := bne_eq_false_iff_eq.mpr c256
               clear c256
               (first | rw [c256b0] | (simp only [i64_w, i32_w]; rw [c256b0]) | skip)
               replace H := Option.bind_eq_some_iff.mp H
               obtain ⟨t772, A2570, H⟩ := H
               replace H : (heraldlaw04_NatRing.j7 kj158 (t772 != 0) t699) = some r := H
               have A257 := Aside0.mk A2570
               clear A2570
               as_aux_lemma =>
                have H' := Aside0.mk H
                clear H
                have hnb258 := NB766_704.out
                have hnc258 := NB704_766.out
                have hnb259 := NB766_713.out
                have hnc259 := NB713_766.out
                have hnb260 := NB766_722.out
                have hnc260 := NB722_766.out
                have hnb261 := NB766_728.out
                have hnc261 := NB728_766.out
                have hnb262 := NB766_733.out
                have hnc262 := NB733_766.out
                have hnb263 := NB766_745.out
                have hnc263 := NB745_766.out
                have hnb264 := NB766_750.out
                have hnc264 := NB750_766.out
                have hnb265 := NB766_755.out
                have hnc265 := NB755_766.out
                have hnb266 := NB766_771.out
                have hnc266 := NB771_766.out
                have hcz267_0 : w244.cell? ⟨gb766, 0, none⟩ = some (.slice Ao231 t762.length co231) := (blk_cell BK766.out 0).trans rfl
                have hfz267_0 := blk_frozen BK766.out 0
                have hnb268 := NB771_704.out
                have hnc268 := NB704_771.out
                have hnb269 := NB771_713.out
                have hnc269 := NB713_771.out
                have hnb270 := NB771_722.out
                have hnc270 := NB722_771.out
                have hnb271 := NB771_728.out
                have hnc271 := NB728_771.out
                have hnb272 := NB771_733.out
                have hnc272 := NB733_771.out
                have hnb273 := NB771_745.out
                have hnc273 := NB745_771.out
                have hnb274 := NB771_750.out
                have hnc274 := NB750_771.out
                have hnb275 := NB771_755.out
                have hnc275 := NB755_771.out
                have hcz276_0 : w244.cell? ⟨gb771, 0, none⟩ = some (.slice none 0 0) := (blk_cell BK771.out 0).trans rfl
                have hfz276_0 := blk_frozen BK771.out 0
                go_wp2_with (first | (go_at_call 29; (with_reducible refine (nat_Nat_Compare.calls kj158 _ _ t762 _ _ t767 t772 _ ?side1 ?side2 ?side3 ?side4 A257.out).mono ?_); (case side1 => refine (Kd.V_reads' (e := 79) (base := w.heap.size) (ok := fun k_ => (((k_ ≠ gb704 ∧ (k_ ≠ gb713 ∧ (k_ ≠ gb722 ∧ (k_ ≠ gb728 ∧ (k_ ≠ gb733 ∧ (k_ ≠ gb745 ∧ (k_ ≠ gb750 ∧ k_ ≠ gb755))))))) ∧ k_ ≠ gb766) ∧ k_ ≠ gb771)) (n := t762.length) (c := co231) ?_).2.2; exact (by exact (Kd.V_mono (Kd.V_far (p := ⟨gb771, 0, none⟩) (Kd.V_mono HO764.out (fun k_ hk => (⟨hk, hk.2⟩ : _ ∧ k_ ≠ gb771))) (fun _ hk => hk.2) (.slice Ao245 t767.length co245)) (fun _ h_ => h_.1)))); (case side2 => exact (Kd.V_reads' HO764.out).2.1); (case side3 => refine (Kd.V_reads' (e := 79) (base := w.heap.size) (ok := fun k_ => ((k_ ≠ gb704 ∧ (k_ ≠ gb713 ∧ (k_ ≠ gb722 ∧ (k_ ≠ gb728 ∧ (k_ ≠ gb733 ∧ (k_ ≠ gb745 ∧ (k_ ≠ gb750 ∧ (k_ ≠ gb755 ∧ k_ ≠ gb766)))))))) ∧ k_ ≠ gb771)) (n := t767.length) (c := co245) ?_).2.2; exact (by exact (Kd.V_mono (Kd.V_far (p := ⟨gb771, 0, none⟩) (Kd.V_mono HO769.out (fun k_ hk => (⟨hk, hk.2⟩ : _ ∧ k_ ≠ gb771))) (fun _ hk => hk.2) (.slice Ao245 t767.length co245)) (fun _ h_ => h_.1)))); (case side4 => exact (Kd.V_reads' HO769.out).2.1); rintro e w277 ⟨rfl, hb⟩; replace HO_705000 := vf HO_705000 (fun k_ hk => hk.2) hb; replace HO_714000 := vf HO_714000 (fun k_ hk => hk.2) hb; replace HO_723000 := vf HO_723000 (fun k_ hk => hk.2) hb; replace HO_729000 := vf HO_729000 (fun k_ hk => hk.2) hb; replace HO_734000 := vf HO_734000 (fun k_ hk => hk.2) hb; replace HO_746000 := vf HO_746000 (fun k_ hk => hk.2) hb; replace HO_751000 := vf HO_751000 (fun k_ hk => hk.2) hb; replace HO_756000 := vf HO_756000 (fun k_ hk => hk.2) hb; replace HO764 := vf HO764 (fun k_ hk => hk.2) hb; replace HO769 := vf HO769 (fun k_ hk => hk.2) hb; replace BK704 := bf BK704 NB704_771 hb; replace BK713 := bf BK713 NB713_771 hb; replace BK722 := bf BK722 NB722_771 hb; replace BK728 := bf BK728 NB728_771 hb; replace BK733 := bf BK733 NB733_771 hb; replace BK745 := bf BK745 NB745_771 hb; replace BK750 := bf BK750 NB750_771 hb; replace BK755 := bf BK755 NB755_771 hb; replace BK766 := bf BK766 NB766_771 hb; replace BK771 := Aside0.mk (blk_below (g := gb771) (o := .cells #[.slice Ao245 t767.length co245] 26 (0, 0)) (by refine blk_put (cs := #[.slice none 0 0]) ?_ 0 _ rfl; exact BK771.out) hb); replace HB := Aside0.mk (below_step (by repeat (first | exact HB.out | refine sb ?_ GE704 | refine sb ?_ GE713 | refine sb ?_ GE722 | refine sb ?_ GE728 | refine sb ?_ GE733 | refine sb ?_ GE745 | refine sb ?_ GE750 | refine sb ?_ GE755 | refine sb ?_ GE766 | refine sb ?_ GE771)) hb); (try clear hb); (try clear hb2); (try clear hk); (try clear hi)))
                go_meet
                case rel => exact ⟨_, ((t772 != 0)), (by first | rfl | (simp; done) | (simp [*]; done) | (simp [i64_w]; done) | (simp [*, i64_w]; done)), H', ⟨by have := HJ6.out; have := HJ33.out; have := HJ69.out; have := HJ109.out; have := HJ158.out; first | omega | exact Nat.le_refl _⟩, ⟨by exact Kd.V_mono HO_705000.out (fun _ hk => ⟨hk.1.1.1, ⟨hk.1.1.2.1, ⟨hk.1.1.2.2.1, ⟨hk.1.1.2.2.2.1, ⟨hk.1.1.2.2.2.2.1, ⟨hk.1.1.2.2.2.2.2.1, ⟨hk.1.1.2.2.2.2.2.2.1, ⟨hk.1.1.2.2.2.2.2.2.2, ⟨hk.1.2, hk.2⟩⟩⟩⟩⟩⟩⟩⟩⟩)⟩, ⟨by exact Kd.V_mono HO_714000.out (fun _ hk => ⟨hk.1.1.1, ⟨hk.1.1.2.1, ⟨hk.1.1.2.2.1, ⟨hk.1.1.2.2.2.1, ⟨hk.1.1.2.2.2.2.1, ⟨hk.1.1.2.2.2.2.2.1, ⟨hk.1.1.2.2.2.2.2.2.1, ⟨hk.1.1.2.2.2.2.2.2.2, ⟨hk.1.2, hk.2⟩⟩⟩⟩⟩⟩⟩⟩⟩)⟩, ⟨by exact Kd.V_mono HO_723000.out (fun _ hk => ⟨hk.1.1.1, ⟨hk.1.1.2.1, ⟨hk.1.1.2.2.1, ⟨hk.1.1.2.2.2.1, ⟨hk.1.1.2.2.2.2.1, ⟨hk.1.1.2.2.2.2.2.1, ⟨hk.1.1.2.2.2.2.2.2.1, ⟨hk.1.1.2.2.2.2.2.2.2, ⟨hk.1.2, hk.2⟩⟩⟩⟩⟩⟩⟩⟩⟩)⟩, ⟨by exact Kd.V_mono HO_729000.out (fun _ hk => ⟨hk.1.1.1, ⟨hk.1.1.2.1, ⟨hk.1.1.2.2.1, ⟨hk.1.1.2.2.2.1, ⟨hk.1.1.2.2.2.2.1, ⟨hk.1.1.2.2.2.2.2.1, ⟨hk.1.1.2.2.2.2.2.2.1, ⟨hk.1.1.2.2.2.2.2.2.2, ⟨hk.1.2, hk.2⟩⟩⟩⟩⟩⟩⟩⟩⟩)⟩, ⟨by exact Kd.V_mono HO_734000.out (fun _ hk => ⟨hk.1.1.1, ⟨hk.1.1.2.1, ⟨hk.1.1.2.2.1, ⟨hk.1.1.2.2.2.1, ⟨hk.1.1.2.2.2.2.1, ⟨hk.1.1.2.2.2.2.2.1, ⟨hk.1.1.2.2.2.2.2.2.1, ⟨hk.1.1.2.2.2.2.2.2.2, ⟨hk.1.2, hk.2⟩⟩⟩⟩⟩⟩⟩⟩⟩)⟩, ⟨by exact Kd.V_mono HO_746000.out (fun _ hk => ⟨hk.1.1.1, ⟨hk.1.1.2.1, ⟨hk.1.1.2.2.1, ⟨hk.1.1.2.2.2.1, ⟨hk.1.1.2.2.2.2.1, ⟨hk.1.1.2.2.2.2.2.1, ⟨hk.1.1.2.2.2.2.2.2.1, ⟨hk.1.1.2.2.2.2.2.2.2, ⟨hk.1.2, hk.2⟩⟩⟩⟩⟩⟩⟩⟩⟩)⟩, ⟨by exact Kd.V_mono HO_751000.out (fun _ hk => ⟨hk.1.1.1, ⟨hk.1.1.2.1, ⟨hk.1.1.2.2.1, ⟨hk.1.1.2.2.2.1, ⟨hk.1.1.2.2.2.2.1, ⟨hk.1.1.2.2.2.2.2.1, ⟨hk.1.1.2.2.2.2.2.2.1, ⟨hk.1.1.2.2.2.2.2.2.2, ⟨hk.1.2, hk.2⟩⟩⟩⟩⟩⟩⟩⟩⟩)⟩, ⟨by exact Kd.V_mono HO_756000.out (fun _ hk => ⟨hk.1.1.1, ⟨hk.1.1.2.1, ⟨hk.1.1.2.2.1, ⟨hk.1.1.2.2.2.1, ⟨hk.1.1.2.2.2.2.1, ⟨hk.1.1.2.2.2.2.2.1, ⟨hk.1.1.2.2.2.2.2.2.1, ⟨hk.1.1.2.2.2.2.2.2.2, ⟨hk.1.2, hk.2⟩⟩⟩⟩⟩⟩⟩⟩⟩)⟩, ⟨by exact Kd.V_mono HO764.out (fun _ hk => ⟨hk.1.1.1, ⟨hk.1.1.2.1, ⟨hk.1.1.2.2.1, ⟨hk.1.1.2.2.2.1, ⟨hk.1.1.2.2.2.2.1, ⟨hk.1.1.2.2.2.2.2.1, ⟨hk.1.1.2.2.2.2.2.2.1, ⟨hk.1.1.2.2.2.2.2.2.2, ⟨hk.1.2, hk.2⟩⟩⟩⟩⟩⟩⟩⟩⟩)⟩, ⟨by exact Kd.V_mono HO769.out (fun _ hk => ⟨hk.1.1, ⟨hk.1.2.1, ⟨hk.1.2.2.1, ⟨hk.1.2.2.2.1, ⟨hk.1.2.2.2.2.1, ⟨hk.1.2.2.2.2.2.1, ⟨hk.1.2.2.2.2.2.2.1, ⟨hk.1.2.2.2.2.2.2.2.1, ⟨hk.1.2.2.2.2.2.2.2.2, hk.2⟩⟩⟩⟩⟩⟩⟩⟩⟩)⟩, ⟨by exact BK704.out⟩, ⟨by exact BK713.out⟩, ⟨by exact BK722.out⟩, ⟨by exact BK728.out⟩, ⟨by exact BK733.out⟩, ⟨by exact BK745.out⟩, ⟨by exact BK750.out⟩, ⟨by exact BK755.out⟩, ⟨by exact BK766.out⟩, ⟨by exact BK771.out⟩, ⟨by repeat (first | exact HB.out | refine sb ?_ GE704 | refine sb ?_ GE713 | refine sb ?_ GE722 | refine sb ?_ GE728 | refine sb ?_ GE733 | refine sb ?_ GE745 | refine sb ?_ GE750 | refine sb ?_ GE755 | refine sb ?_ GE766 | refine sb ?_ GE771)⟩⟩
              ·rw [if_neg c256] at H
               have c256b0 : (t765 == t770) = false := beq_eq_false_iff_ne.mpr c256
               have c256b1 : (t765 != t770) = true := bne_iff_ne.mpr c256
               (first | rw [c256b0] | (simp only [i64_w, i32_w]; rw [c256b0]) | skip)
               as_aux_lemma =>
                have H' := Aside0.mk H
                clear H
                go_wp2
                go_meet
                case rel => exact ⟨_, (true), (by first | rfl | (simp; done) | (simp [*]; done) | (simp [i64_w]; done) | (simp [*, i64_w]; done)), H', ⟨by have := HJ6.out; have := HJ33.out; have := HJ69.out; have := HJ109.out; have := HJ158.out; first | omega | exact Nat.le_refl _⟩, ⟨by exact Kd.V_mono (Kd.V_far (p := ⟨gb771, 0, none⟩) (Kd.V_mono HO_705000.out (fun k_ hk => (⟨hk, hk.2⟩ : _ ∧ k_ ≠ gb771))) (fun _ hk => hk.2) (.slice Ao245 t767.length co245)) (fun _ hk => ⟨hk.1.1.1.1, ⟨hk.1.1.1.2.1, ⟨hk.1.1.1.2.2.1, ⟨hk.1.1.1.2.2.2.1, ⟨hk.1.1.1.2.2.2.2.1, ⟨hk.1.1.1.2.2.2.2.2.1, ⟨hk.1.1.1.2.2.2.2.2.2.1, ⟨hk.1.1.1.2.2.2.2.2.2.2, ⟨hk.1.1.2, hk.1.2⟩⟩⟩⟩⟩⟩⟩⟩⟩)⟩, ⟨by exact Kd.V_mono (Kd.V_far (p := ⟨gb771, 0, none⟩) (Kd.V_mono HO_714000.out (fun k_ hk => (⟨hk, hk.2⟩ : _ ∧ k_ ≠ gb771))) (fun _ hk => hk.2) (.slice Ao245 t767.length co245)) (fun _ hk => ⟨hk.1.1.1.1, ⟨hk.1.1.1.2.1, ⟨hk.1.1.1.2.2.1, ⟨hk.1.1.1.2.2.2.1, ⟨hk.1.1.1.2.2.2.2.1, ⟨hk.1.1.1.2.2.2.2.2.1, ⟨hk.1.1.1.2.2.2.2.2.2.1, ⟨hk.1.1.1.2.2.2.2.2.2.2, ⟨hk.1.1.2, hk.1.2⟩⟩⟩⟩⟩⟩⟩⟩⟩)⟩, ⟨by exact Kd.V_mono (Kd.V_far (p := ⟨gb771, 0, none⟩) (Kd.V_mono HO_723000.out (fun k_ hk => (⟨hk, hk.2⟩ : _ ∧ k_ ≠ gb771))) (fun _ hk => hk.2) (.slice Ao245 t767.length co245)) (fun _ hk => ⟨hk.1.1.1.1, ⟨hk.1.1.1.2.1, ⟨hk.1.1.1.2.2.1, ⟨hk.1.1.1.2.2.2.1, ⟨hk.1.1.1.2.2.2.2.1, ⟨hk.1.1.1.2.2.2.2.2.1, ⟨hk.1.1.1.2.2.2.2.2.2.1, ⟨hk.1.1.1.2.2.2.2.2.2.2, ⟨hk.1.1.2, hk.1.2⟩⟩⟩⟩⟩⟩⟩⟩⟩)⟩, ⟨by exact Kd.V_mono (Kd.V_far (p := ⟨gb771, 0, none⟩) (Kd.V_mono HO_729000.out (fun k_ hk => (⟨hk, hk.2⟩ : _ ∧ k_ ≠ gb771))) (fun _ hk => hk.2) (.slice Ao245 t767.length co245)) (fun _ hk => ⟨hk.1.1.1.1, ⟨hk.1.1.1.2.1, ⟨hk.1.1.1.2.2.1, ⟨hk.1.1.1.2.2.2.1, ⟨hk.1.1.1.2.2.2.2.1, ⟨hk.1.1.1.2.2.2.2.2.1, ⟨hk.1.1.1.2.2.2.2.2.2.1, ⟨hk.1.1.1.2.2.2.2.2.2.2, ⟨hk.1.1.2, hk.1.2⟩⟩⟩⟩⟩⟩⟩⟩⟩)⟩, ⟨by exact Kd.V_mono (Kd.V_far (p := ⟨gb771, 0, none⟩) (Kd.V_mono HO_734000.out (fun k_ hk => (⟨hk, hk.2⟩ : _ ∧ k_ ≠ gb771))) (fun _ hk => hk.2) (.slice Ao245 t767.length co245)) (fun _ hk => ⟨hk.1.1.1.1, ⟨hk.1.1.1.2.1, ⟨hk.1.1.1.2.2.1, ⟨hk.1.1.1.2.2.2.1, ⟨hk.1.1.1.2.2.2.2.1, ⟨hk.1.1.1.2.2.2.2.2.1, ⟨hk.1.1.1.2.2.2.2.2.2.1, ⟨hk.1.1.1.2.2.2.2.2.2.2, ⟨hk.1.1.2, hk.1.2⟩⟩⟩⟩⟩⟩⟩⟩⟩)⟩, ⟨by exact Kd.V_mono (Kd.V_far (p := ⟨gb771, 0, none⟩) (Kd.V_mono HO_746000.out (fun k_ hk => (⟨hk, hk.2⟩ : _ ∧ k_ ≠ gb771))) (fun _ hk => hk.2) (.slice Ao245 t767.length co245)) (fun _ hk => ⟨hk.1.1.1.1, ⟨hk.1.1.1.2.1, ⟨hk.1.1.1.2.2.1, ⟨hk.1.1.1.2.2.2.1, ⟨hk.1.1.1.2.2.2.2.1, ⟨hk.1.1.1.2.2.2.2.2.1, ⟨hk.1.1.1.2.2.2.2.2.2.1, ⟨hk.1.1.1.2.2.2.2.2.2.2, ⟨hk.1.1.2, hk.1.2⟩⟩⟩⟩⟩⟩⟩⟩⟩)⟩, ⟨by exact Kd.V_mono (Kd.V_far (p := ⟨gb771, 0, none⟩) (Kd.V_mono HO_751000.out (fun k_ hk => (⟨hk, hk.2⟩ : _ ∧ k_ ≠ gb771))) (fun _ hk => hk.2) (.slice Ao245 t767.length co245)) (fun _ hk => ⟨hk.1.1.1.1, ⟨hk.1.1.1.2.1, ⟨hk.1.1.1.2.2.1, ⟨hk.1.1.1.2.2.2.1, ⟨hk.1.1.1.2.2.2.2.1, ⟨hk.1.1.1.2.2.2.2.2.1, ⟨hk.1.1.1.2.2.2.2.2.2.1, ⟨hk.1.1.1.2.2.2.2.2.2.2, ⟨hk.1.1.2, hk.1.2⟩⟩⟩⟩⟩⟩⟩⟩⟩)⟩, ⟨by exact Kd.V_mono (Kd.V_far (p := ⟨gb771, 0, none⟩) (Kd.V_mono HO_756000.out (fun k_ hk => (⟨hk, hk.2⟩ : _ ∧ k_ ≠ gb771))) (fun _ hk => hk.2) (.slice Ao245 t767.length co245)) (fun _ hk => ⟨hk.1.1.1.1, ⟨hk.1.1.1.2.1, ⟨hk.1.1.1.2.2.1, ⟨hk.1.1.1.2.2.2.1, ⟨hk.1.1.1.2.2.2.2.1, ⟨hk.1.1.1.2.2.2.2.2.1, ⟨hk.1.1.1.2.2.2.2.2.2.1, ⟨hk.1.1.1.2.2.2.2.2.2.2, ⟨hk.1.1.2, hk.1.2⟩⟩⟩⟩⟩⟩⟩⟩⟩)⟩, ⟨by exact Kd.V_mono (Kd.V_far (p := ⟨gb771, 0, none⟩) (Kd.V_mono HO764.out (fun k_ hk => (⟨hk, hk.2⟩ : _ ∧ k_ ≠ gb771))) (fun _ hk => hk.2) (.slice Ao245 t767.length co245)) (fun _ hk => ⟨hk.1.1.1.1, ⟨hk.1.1.1.2.1, ⟨hk.1.1.1.2.2.1, ⟨hk.1.1.1.2.2.2.1, ⟨hk.1.1.1.2.2.2.2.1, ⟨hk.1.1.1.2.2.2.2.2.1, ⟨hk.1.1.1.2.2.2.2.2.2.1, ⟨hk.1.1.1.2.2.2.2.2.2.2, ⟨hk.1.1.2, hk.1.2⟩⟩⟩⟩⟩⟩⟩⟩⟩)⟩, ⟨by exact Kd.V_mono (Kd.V_far (p := ⟨gb771, 0, none⟩) (Kd.V_mono HO769.out (fun k_ hk => (⟨hk, hk.2⟩ : _ ∧ k_ ≠ gb771))) (fun _ hk => hk.2) (.slice Ao245 t767.length co245)) (fun _ hk => ⟨hk.1.1.1, ⟨hk.1.1.2.1, ⟨hk.1.1.2.2.1, ⟨hk.1.1.2.2.2.1, ⟨hk.1.1.2.2.2.2.1, ⟨hk.1.1.2.2.2.2.2.1, ⟨hk.1.1.2.2.2.2.2.2.1, ⟨hk.1.1.2.2.2.2.2.2.2.1, ⟨hk.1.1.2.2.2.2.2.2.2.2, hk.1.2⟩⟩⟩⟩⟩⟩⟩⟩⟩)⟩, ⟨by refine blk_far ?_ NB704_771.out _; exact BK704.out⟩, ⟨by refine blk_far ?_ NB713_771.out _; exact BK713.out⟩, ⟨by refine blk_far ?_ NB722_771.out _; exact BK722.out⟩, ⟨by refine blk_far ?_ NB728_771.out _; exact BK728.out⟩, ⟨by refine blk_far ?_ NB733_771.out _; exact BK733.out⟩, ⟨by refine blk_far ?_ NB745_771.out _; exact BK745.out⟩, ⟨by refine blk_far ?_ NB750_771.out _; exact BK750.out⟩, ⟨by refine blk_far ?_ NB755_771.out _; exact BK755.out⟩, ⟨by refine blk_far ?_ NB766_771.out _; exact BK766.out⟩, ⟨by refine blk_put (cs := #[.slice none 0 0]) ?_ 0 _ rfl; exact BK771.out⟩, ⟨by repeat (first | exact HB.out | refine sb ?_ GE704 | refine sb ?_ GE713 | refine sb ?_ GE722 | refine sb ?_ GE728 | refine sb ?_ GE733 | refine sb ?_ GE745 | refine sb ?_ GE750 | refine sb ?_ GE755 | refine sb ?_ GE766 | refine sb ?_ GE771)⟩⟩
             case rest =>
              clear HC213
              try clear c1
              try clear c2
              try clear p2
              try clear c3
              try clear c4
              try clear c5
              try clear c6
              try clear c7
              try clear c8
              try clear c9
              try clear c10
              try clear c11
              try clear c12
              try clear c13
              try clear c14
              try clear c15
              try clear c16
              try clear c17
              try clear c18
              try clear c19
              try clear c20
              try clear c21
              try clear c22
              try clear c23
              try clear c24
              try clear c25
              try clear c26
              try clear c27
              try clear c31
              try clear c33
              try clear c35
              try clear c36
              try clear c38
              try clear c42
              try clear c43
              try clear c44
              try clear c45
              try clear c52
              try clear c53
              try clear c54
              try clear c55
              try clear c57
              try clear c57b0
              try clear c57b1
              try clear c59
              try clear c60
              try clear c61
              try clear c62
              try clear c64
              try clear c65
              try clear c66
              try clear c69
              try clear c71
              try clear c71b0
              try clear c71b1
              try clear c74
              try clear c75
              try clear c76
              try clear c77
              try clear c79
              try clear c80
              try clear c81
              try clear c86
              try clear c87
              try clear c88
              try clear c89
              try clear c90
              try clear c92
              try clear c92b0
              try clear c92b1
              try clear c94
              try clear c95
              try clear c96
              try clear c97
              try clear c98
              try clear c100
              try clear c101
              try clear c102
              try clear c103
              try clear c106
              try clear c111
              try clear c112
              try clear c113
              try clear c114
              try clear c116
              try clear c117
              try clear c118
              try clear c123
              try clear c124
              try clear c125
              try clear c126
              try clear c127
              try clear c129
              try clear c130
              try clear c136
              try clear c137
              try clear c138
              try clear c139
              try clear c140
              try clear c141
              try clear c143
              try clear c149
              try clear c150
              try clear c151
              try clear c152
              try clear c153
              try clear c154
              try clear c155
              try clear c157
              try clear c157b0
              try clear c157b1
              try clear c158
              try clear c158b0
              try clear c158b1
              try clear c160
              try clear c163
              try clear c164
              try clear c165
              try clear c166
              try clear c167
              try clear c168
              try clear c169
              try clear c171
              try clear c172
              try clear c173
              try clear c174
              try clear c175
              try clear c176
              try clear c181
              try clear c182
              try clear c183
              try clear c184
              try clear c185
              try clear c186
              try clear c187
              try clear c188
              try clear c190
              try clear c190b0
              try clear c190b1
              try clear c192
              try clear c193
              try clear c194
              try clear c195
              try clear c196
              try clear c197
              try clear c198
              try clear c199
              try clear c201
              try clear c202
              try clear c203
              try clear c204
              try clear c205
              try clear c206
              try clear c207
              try clear c210
              try clear c214
              try clear c215
              try clear c216
              try clear c217
              try clear c218
              try clear c219
              try clear c220
              try clear c222
              try clear c223
              try clear c224
              try clear c225
              try clear c226
              try clear c227
              try clear c232
              try clear c233
              try clear c234
              try clear c235
              try clear c236
              try clear c237
              try clear c238
              try clear c239
              try clear c246
              try clear c247
              try clear c248
              try clear c249
              try clear c250
              try clear c251
              try clear c252
              try clear c253
              try clear c254
              try clear c256
              try clear c256b0
              try clear c256b1
              try clear c258
              try clear c259
              try clear c260
              try clear c261
              try clear c262
              try clear c263
              try clear c264
              try clear c265
              try clear c266
              try clear c268
              try clear c269
              try clear c270
              try clear c271
              try clear c272
              try clear c273
              try clear c274
              try clear c275
              try clear hcz104_0
              try clear hcz115_0
              try clear hcz119_0
              try clear hcz11_0
              try clear hcz128_0
              try clear hcz131_0
              try clear hcz132_0
              try clear hcz142_0
              try clear hcz144_0
              try clear hcz145_0
              try clear hcz156_0
              try clear hcz16_0
              try clear hcz170_0
              try clear hcz177_0
              try clear hcz189_0
              try clear hcz200_0
              try clear hcz208_0
              try clear hcz221_0
              try clear hcz228_0
              try clear hcz22_0
              try clear hcz240_0
              try clear hcz241_0
              try clear hcz242_0
              try clear hcz255_0
              try clear hcz267_0
              try clear hcz276_0
              try clear hcz37_0
              try clear hcz39_0
              try clear hcz46_0
              try clear hcz47_0
              try clear hcz48_0
              try clear hcz56_0
              try clear hcz63_0
              try clear hcz67_0
              try clear hcz78_0
              try clear hcz82_0
              try clear hcz91_0
              try clear hcz99_0
              try clear hfz104_0
              try clear hfz115_0
              try clear hfz119_0
              try clear hfz11_0
              try clear hfz128_0
              try clear hfz131_0
              try clear hfz132_0
              try clear hfz142_0
              try clear hfz144_0
              try clear hfz145_0
              try clear hfz156_0
              try clear hfz16_0
              try clear hfz170_0
              try clear hfz177_0
              try clear hfz189_0
              try clear hfz200_0
              try clear hfz208_0
              try clear hfz221_0
              try clear hfz228_0
              try clear hfz22_0
              try clear hfz240_0
              try clear hfz241_0
              try clear hfz242_0
              try clear hfz255_0
              try clear hfz267_0
              try clear hfz276_0
              try clear hfz37_0
              try clear hfz39_0
              try clear hfz46_0
              try clear hfz47_0
              try clear hfz48_0
              try clear hfz56_0
              try clear hfz63_0
              try clear hfz67_0
              try clear hfz78_0
              try clear hfz82_0
              try clear hfz91_0
              try clear hfz99_0
              try clear p2
              obtain ⟨kq, x172_212, rfl, HA, HJ212, HO_705000, HO_714000, HO_723000, HO_729000, HO_734000, HO_746000, HO_751000, HO_756000, HO_767000, HO_772000, BK704, BK713, BK722, BK728, BK733, BK745, BK750, BK755, BK766, BK771, HB⟩ := hcut
              cases kq with
              | zero => exact absurd HA.out (by simp [heraldlaw04_NatRing.j7])
              | succ kj212 =>
               have H := HA.out
               clear HA
               simp only [heraldlaw04_NatRing.j7] at H
               by_cases c278 : x172_212 = true
               ·subst c278
                have H1 : (some false) = some r := by rw [if_pos rfl] at H; exact H
                clear H
                have H := H1
                clear H1
                as_aux_lemma =>
                 obtain rfl := Option.some.inj H
                 go_wp2
                 go_ret
                 exact ⟨by first | rfl | (simp [errW_none, errW_some] <;> rfl) | (simp [*, errW_none, errW_some] <;> rfl), by repeat (first | exact HB.out | refine sb ?_ GE704 | refine sb ?_ GE713 | refine sb ?_ GE722 | refine sb ?_ GE728 | refine sb ?_ GE733 | refine sb ?_ GE745 | refine sb ?_ GE750 | refine sb ?_ GE755 | refine sb ?_ GE766 | refine sb ?_ GE771)⟩
               ·replace c278 := Bool.eq_false_iff.mpr c278
                subst c278
                have H1 : ((nat_Nat_Mul.f kj212 t699 t699).bind fun bt773 => ((nat_Nat_Power.f kj212 t699 2).bind fun bt778 => (if bt773.2 = bt778.2 then ((nat_Nat_Compare.f kj212 bt773.1 bt778.1).bind fun t783 => (some (t783 == 0))) else (some false)))) = some r := by rw [if_neg (show ¬ (false = true) by decide)] at H; exact H
                clear H
                have H := H1
                clear H1
                replace H := Option.bind_eq_some_iff.mp H
                obtain ⟨⟨t773, t776⟩, A2790, H⟩ := H
                replace H : ((nat_Nat_Power.f kj212 t699 2).bind fun bt778 => (if t776 = bt778.2 then ((nat_Nat_Compare.f kj212 t773 bt778.1).bind fun t783 => (some (t783 == 0))) else (some false))) = some r := H
                have A279 := Aside0.mk A2790
                clear A2790
                replace H := Option.bind_eq_some_iff.mp H
                obtain ⟨⟨t778, t781⟩, A2800, H⟩ := H
                replace H : (if t776 = t781 then ((nat_Nat_Compare.f kj212 t773 t778).bind fun t783 => (some (t783 == 0))) else (some false)) = some r := H
                have A280 := Aside0.mk A2800
                clear A2800
                by_cases c281 : t776 = t781
                ·rw [if_pos c281] at H
                 have c281b0 : (t776 == t781) = true := beq_iff_eq.mpr c281
                 have c281b1 : (t776 != t781) = false := bne_eq_false_iff_eq.mpr c281
                 clear c281
                 replace H := Option.bind_eq_some_iff.mp H
                 obtain ⟨t783, A2820, H⟩ := H
                 replace H : (some (t783 == 0)) = some r := H
                 have A282 := Aside0.mk A2820
                 clear A2820
                 as_aux_lemma =>
                  obtain rfl := Option.some.inj H
                  have hnb283 := NB704_713.out
                  have hnc283 := NB713_704.out
                  have hnb284 := NB704_722.out
                  have hnc284 := NB722_704.out
                  have hnb285 := NB704_728.out
                  have hnc285 := NB728_704.out
                  have hnb286 := NB704_733.out
                  have hnc286 := NB733_704.out
                  have hnb287 := NB704_745.out
                  have hnc287 := NB745_704.out
                  have hnb288 := NB704_750.out
                  have hnc288 := NB750_704.out
                  have hnb289 := NB704_755.out
                  have hnc289 := NB755_704.out
                  have hnb290 := NB704_766.out
                  have hnc290 := NB766_704.out
                  have hnb291 := NB704_771.out
                  have hnc291 := NB771_704.out
                  have hcz292_0 : wc.cell? ⟨gb704, 0, none⟩ = some (.slice Ao10 t699.length co10) := (blk_cell BK704.out 0).trans rfl
                  have hfz292_0 := blk_frozen BK704.out 0
                  go_wp2_with (first | ((with_reducible refine gate_callee (f := 44) rfl ?_); refine goesL_ (some 176) rfl rfl Tryd.func44 (by kernel_rfl) rfl #[.agg #[.slice Ao10 t699.length co10], .agg #[.slice Ao10 t699.length co10]] rfl (by (try simp only [List.map_toArray, List.map_cons, List.map_nil]); first | done | rfl | (simp only [List.length_drop, List.length_take]; rfl)) ?_; (with_reducible refine (nat_Nat_Mul.calls kj212 _ _ t699 _ _ t699 t773 t776 _ ?side1 ?side2 ?side3 ?side4 A279.out).mono ?_); (case side1 => exact (Kd.V_reads' HO_705000.out).2.2); (case side2 => exact (Kd.V_reads' HO_705000.out).2.1); (case side3 => exact (Kd.V_reads' HO_705000.out).2.2); (case side4 => exact (Kd.V_reads' HO_705000.out).2.1); rintro e w293 ⟨v774, rfl, ho0, hb⟩; refine ⟨_, rfl, ?_⟩; have HO775 := Aside0.mk (Kd.V_lower (Kd.V_mono (ok' := fun k_ => k_ ≠ gb704 ∧ k_ ≠ gb713 ∧ k_ ≠ gb722 ∧ k_ ≠ gb728 ∧ k_ ≠ gb733 ∧ k_ ≠ gb745 ∧ k_ ≠ gb750 ∧ k_ ≠ gb755 ∧ k_ ≠ gb766 ∧ k_ ≠ gb771) ho0 (fun k_ hk_ => ⟨(fb BK704 k_ hk_), (fb BK713 k_ hk_), (fb BK722 k_ hk_), (fb BK728 k_ hk_), (fb BK733 k_ hk_), (fb BK745 k_ hk_), (fb BK750 k_ hk_), (fb BK755 k_ hk_), (fb BK766 k_ hk_), (fb BK771 k_ hk_)⟩)) (below_size (by repeat (first | exact HB.out | refine sb ?_ GE704 | refine sb ?_ GE713 | refine sb ?_ GE722 | refine sb ?_ GE728 | refine sb ?_ GE733 | refine sb ?_ GE745 | refine sb ?_ GE750 | refine sb ?_ GE755 | refine sb ?_ GE766 | refine sb ?_ GE771)))); replace HO_705000 := vb HO_705000 hb; replace HO_714000 := vb HO_714000 hb; replace HO_723000 := vb HO_723000 hb; replace HO_729000 := vb HO_729000 hb; replace HO_734000 := vb HO_734000 hb; replace HO_746000 := vb HO_746000 hb; replace HO_751000 := vb HO_751000 hb; replace HO_756000 := vb HO_756000 hb; replace HO_767000 := vb HO_767000 hb; replace HO_772000 := vb HO_772000 hb; replace BK704 := bb BK704 hb; replace BK713 := bb BK713 hb; replace BK722 := bb BK722 hb; replace BK728 := bb BK728 hb; replace BK733 := bb BK733 hb; replace BK745 := bb BK745 hb; replace BK750 := bb BK750 hb; replace BK755 := bb BK755 hb; replace BK766 := bb BK766 hb; replace BK771 := bb BK771 hb; replace HB := Aside0.mk (below_step (by repeat (first | exact HB.out | refine sb ?_ GE704 | refine sb ?_ GE713 | refine sb ?_ GE722 | refine sb ?_ GE728 | refine sb ?_ GE733 | refine sb ?_ GE745 | refine sb ?_ GE750 | refine sb ?_ GE755 | refine sb ?_ GE766 | refine sb ?_ GE771)) hb); (try clear hb); (try clear hk); (try clear hi); (try clear ho0)) | ((with_reducible refine gate_dst (N := 35) rfl ?_); refine box_event ?hg (N := 35) ?hd (cs := #[.slice none 0 0]) (t := 26) ?hr ?_; (case hd => rfl); (case hg => rfl); (case hr => first | (go_simp; done) | (go_simp; rfl)); intro gb777 hg w294 hbox hb; have BK777 := Aside0.mk (hbox); have GW777 := Aside0.mk ((by rw [hg]; exact (below_size (by repeat (first | exact HB.out | refine sb ?_ GE704 | refine sb ?_ GE713 | refine sb ?_ GE722 | refine sb ?_ GE728 | refine sb ?_ GE733 | refine sb ?_ GE745 | refine sb ?_ GE750 | refine sb ?_ GE755 | refine sb ?_ GE766 | refine sb ?_ GE771))) : w.heap.size ≤ gb777)); have GE777 := Aside0.mk ((by rw [hg]; exact (below_size (by repeat (first | exact HB.out | refine sb ?_ GE704 | refine sb ?_ GE713 | refine sb ?_ GE722 | refine sb ?_ GE728 | refine sb ?_ GE733 | refine sb ?_ GE745 | refine sb ?_ GE750 | refine sb ?_ GE755 | refine sb ?_ GE766 | refine sb ?_ GE771))) : w.heap.size ≤ gb777)); have NB704_777 := nl BK704 hg; have NB777_704 := ng BK704 hg; have NB713_777 := nl BK713 hg; have NB777_713 := ng BK713 hg; have NB722_777 := nl BK722 hg; have NB777_722 := ng BK722 hg; have NB728_777 := nl BK728 hg; have NB777_728 := ng BK728 hg; have NB733_777 := nl BK733 hg; have NB777_733 := ng BK733 hg; have NB745_777 := nl BK745 hg; have NB777_745 := ng BK745 hg; have NB750_777 := nl BK750 hg; have NB777_750 := ng BK750 hg; have NB755_777 := nl BK755 hg; have NB777_755 := ng BK755 hg; have NB766_777 := nl BK766 hg; have NB777_766 := ng BK766 hg; have NB771_777 := nl BK771 hg; have NB777_771 := ng BK771 hg; replace HO_705000 := ve HO_705000 gb777 hg hb; replace HO_714000 := ve HO_714000 gb777 hg hb; replace HO_723000 := ve HO_723000 gb777 hg hb; replace HO_729000 := ve HO_729000 gb777 hg hb; replace HO_734000 := ve HO_734000 gb777 hg hb; replace HO_746000 := ve HO_746000 gb777 hg hb; replace HO_751000 := ve HO_751000 gb777 hg hb; replace HO_756000 := ve HO_756000 gb777 hg hb; replace HO_767000 := ve HO_767000 gb777 hg hb; replace HO_772000 := ve HO_772000 gb777 hg hb; replace HO775 := ve HO775 gb777 hg hb; replace BK704 := bb BK704 hb; replace BK713 := bb BK713 hb; replace BK722 := bb BK722 hb; replace BK728 := bb BK728 hb; replace BK733 := bb BK733 hb; replace BK745 := bb BK745 hb; replace BK750 := bb BK750 hb; replace BK755 := bb BK755 hb; replace BK766 := bb BK766 hb; replace BK771 := bb BK771 hb; replace HB := Aside0.mk (below_step (by repeat (first | exact HB.out | refine sb ?_ GE704 | refine sb ?_ GE713 | refine sb ?_ GE722 | refine sb ?_ GE728 | refine sb ?_ GE733 | refine sb ?_ GE745 | refine sb ?_ GE750 | refine sb ?_ GE755 | refine sb ?_ GE766 | refine sb ?_ GE771)) hb); clear hb hbox hg; obtain ⟨Ao295, co295, eo295⟩ := Kd.V_slice HO775.out; subst eo295; have hnb296 := NB777_704.out; have hnc296 := NB704_777.out; have hnb297 := NB777_713.out; have hnc297 := NB713_777.out; have hnb298 := NB777_722.out; have hnc298 := NB722_777.out; have hnb299 := NB777_728.out; have hnc299 := NB728_777.out; have hnb300 := NB777_733.out; have hnc300 := NB733_777.out; have hnb301 := NB777_745.out; have hnc301 := NB745_777.out; have hnb302 := NB777_750.out; have hnc302 := NB750_777.out; have hnb303 := NB777_755.out; have hnc303 := NB755_777.out; have hnb304 := NB777_766.out; have hnc304 := NB766_777.out; have hnb305 := NB777_771.out; have hnc305 := NB771_777.out; have hcz306_0 : w294.cell? ⟨gb777, 0, none⟩ = some (.slice none 0 0) := (blk_cell BK777.out 0).trans rfl; have hfz306_0 := blk_frozen BK777.out 0) | ((with_reducible refine gate_store (t := 26) (p := 35) rfl ?_); refine store_event (t := 26) (p := 35) (v := ?vo_w307) (w1 := (w294.setCell ⟨gb777, 0, none⟩ (.slice Ao295 t773.length co295))) ?hg ?ho ?hn ?hr ?_; (case ho => rfl); (case hg => rfl); (case hn => rfl); (case hr => first | (go_simp; done) | (go_simp; rfl)); intro w307 hw; have n0_ : Aside0 (Kd.V (Kd.int .u32) 79 w307 w.heap.size (fun k_ => k_ ≠ gb704 ∧ k_ ≠ gb713 ∧ k_ ≠ gb722 ∧ k_ ≠ gb728 ∧ k_ ≠ gb733 ∧ k_ ≠ gb745 ∧ k_ ≠ gb750 ∧ k_ ≠ gb755 ∧ k_ ≠ gb766 ∧ k_ ≠ gb771 ∧ k_ ≠ gb777) (.slice Ao10 t699.length co10) t699) := ⟨(by rw [hw]; exact (by exact Kd.V_mono (Kd.V_far (p := ⟨gb777, 0, none⟩) (Kd.V_mono HO_705000.out (fun k_ hk => (⟨hk, hk.2⟩ : _ ∧ k_ ≠ gb777))) (fun _ hk => hk.2) (.slice Ao295 t773.length co295)) (fun _ hk => ⟨hk.1.1.1, ⟨hk.1.1.2.1, ⟨hk.1.1.2.2.1, ⟨hk.1.1.2.2.2.1, ⟨hk.1.1.2.2.2.2.1, ⟨hk.1.1.2.2.2.2.2.1, ⟨hk.1.1.2.2.2.2.2.2.1, ⟨hk.1.1.2.2.2.2.2.2.2.1, ⟨hk.1.1.2.2.2.2.2.2.2.2.1, ⟨hk.1.1.2.2.2.2.2.2.2.2.2, hk.1.2⟩⟩⟩⟩⟩⟩⟩⟩⟩⟩)))⟩; have n1_ : Aside0 (Kd.V (Kd.int .u32) 79 w307 w.heap.size (fun k_ => k_ ≠ gb704 ∧ k_ ≠ gb713 ∧ k_ ≠ gb722 ∧ k_ ≠ gb728 ∧ k_ ≠ gb733 ∧ k_ ≠ gb745 ∧ k_ ≠ gb750 ∧ k_ ≠ gb755 ∧ k_ ≠ gb766 ∧ k_ ≠ gb771 ∧ k_ ≠ gb777) (.slice Ao14 t708.length co14) t708) := ⟨(by rw [hw]; exact (by exact Kd.V_mono (Kd.V_far (p := ⟨gb777, 0, none⟩) (Kd.V_mono HO_714000.out (fun k_ hk => (⟨hk, hk.2⟩ : _ ∧ k_ ≠ gb777))) (fun _ hk => hk.2) (.slice Ao295 t773.length co295)) (fun _ hk => ⟨hk.1.1.1, ⟨hk.1.1.2.1, ⟨hk.1.1.2.2.1, ⟨hk.1.1.2.2.2.1, ⟨hk.1.1.2.2.2.2.1, ⟨hk.1.1.2.2.2.2.2.1, ⟨hk.1.1.2.2.2.2.2.2.1, ⟨hk.1.1.2.2.2.2.2.2.2.1, ⟨hk.1.1.2.2.2.2.2.2.2.2.1, ⟨hk.1.1.2.2.2.2.2.2.2.2.2, hk.1.2⟩⟩⟩⟩⟩⟩⟩⟩⟩⟩)))⟩; have n2_ : Aside0 (Kd.V (Kd.int .u32) 79 w307 w.heap.size (fun k_ => k_ ≠ gb704 ∧ k_ ≠ gb713 ∧ k_ ≠ gb722 ∧ k_ ≠ gb728 ∧ k_ ≠ gb733 ∧ k_ ≠ gb745 ∧ k_ ≠ gb750 ∧ k_ ≠ gb755 ∧ k_ ≠ gb766 ∧ k_ ≠ gb771 ∧ k_ ≠ gb777) (.slice Ao19 t717.length co19) t717) := ⟨(by rw [hw]; exact (by exact Kd.V_mono (Kd.V_far (p := ⟨gb777, 0, none⟩) (Kd.V_mono HO_723000.out (fun k_ hk => (⟨hk, hk.2⟩ : _ ∧ k_ ≠ gb777))) (fun _ hk => hk.2) (.slice Ao295 t773.length co295)) (fun _ hk => ⟨hk.1.1.1, ⟨hk.1.1.2.1, ⟨hk.1.1.2.2.1, ⟨hk.1.1.2.2.2.1, ⟨hk.1.1.2.2.2.2.1, ⟨hk.1.1.2.2.2.2.2.1, ⟨hk.1.1.2.2.2.2.2.2.1, ⟨hk.1.1.2.2.2.2.2.2.2.1, ⟨hk.1.1.2.2.2.2.2.2.2.2.1, ⟨hk.1.1.2.2.2.2.2.2.2.2.2, hk.1.2⟩⟩⟩⟩⟩⟩⟩⟩⟩⟩)))⟩; have n3_ : Aside0 (Kd.V (Kd.int .u32) 79 w307 w.heap.size (fun k_ => k_ ≠ gb704 ∧ k_ ≠ gb713 ∧ k_ ≠ gb722 ∧ k_ ≠ gb728 ∧ k_ ≠ gb733 ∧ k_ ≠ gb745 ∧ k_ ≠ gb750 ∧ k_ ≠ gb755 ∧ k_ ≠ gb766 ∧ k_ ≠ gb771 ∧ k_ ≠ gb777) (.slice Ao42 t724.length co42) t724) := ⟨(by rw [hw]; exact (by exact Kd.V_mono (Kd.V_far (p := ⟨gb777, 0, none⟩) (Kd.V_mono HO_729000.out (fun k_ hk => (⟨hk, hk.2⟩ : _ ∧ k_ ≠ gb777))) (fun _ hk => hk.2) (.slice Ao295 t773.length co295)) (fun _ hk => ⟨hk.1.1.1, ⟨hk.1.1.2.1, ⟨hk.1.1.2.2.1, ⟨hk.1.1.2.2.2.1, ⟨hk.1.1.2.2.2.2.1, ⟨hk.1.1.2.2.2.2.2.1, ⟨hk.1.1.2.2.2.2.2.2.1, ⟨hk.1.1.2.2.2.2.2.2.2.1, ⟨hk.1.1.2.2.2.2.2.2.2.2.1, ⟨hk.1.1.2.2.2.2.2.2.2.2.2, hk.1.2⟩⟩⟩⟩⟩⟩⟩⟩⟩⟩)))⟩; have n4_ : Aside0 (Kd.V (Kd.int .u32) 79 w307 w.heap.size (fun k_ => k_ ≠ gb704 ∧ k_ ≠ gb713 ∧ k_ ≠ gb722 ∧ k_ ≠ gb728 ∧ k_ ≠ gb733 ∧ k_ ≠ gb745 ∧ k_ ≠ gb750 ∧ k_ ≠ gb755 ∧ k_ ≠ gb766 ∧ k_ ≠ gb771 ∧ k_ ≠ gb777) (.slice Ao51 t729.length co51) t729) := ⟨(by rw [hw]; exact (by exact Kd.V_mono (Kd.V_far (p := ⟨gb777, 0, none⟩) (Kd.V_mono HO_734000.out (fun k_ hk => (⟨hk, hk.2⟩ : _ ∧ k_ ≠ gb777))) (fun _ hk => hk.2) (.slice Ao295 t773.length co295)) (fun _ hk => ⟨hk.1.1.1, ⟨hk.1.1.2.1, ⟨hk.1.1.2.2.1, ⟨hk.1.1.2.2.2.1, ⟨hk.1.1.2.2.2.2.1, ⟨hk.1.1.2.2.2.2.2.1, ⟨hk.1.1.2.2.2.2.2.2.1, ⟨hk.1.1.2.2.2.2.2.2.2.1, ⟨hk.1.1.2.2.2.2.2.2.2.2.1, ⟨hk.1.1.2.2.2.2.2.2.2.2.2, hk.1.2⟩⟩⟩⟩⟩⟩⟩⟩⟩⟩)))⟩; have n5_ : Aside0 (Kd.V (Kd.int .u32) 79 w307 w.heap.size (fun k_ => k_ ≠ gb704 ∧ k_ ≠ gb713 ∧ k_ ≠ gb722 ∧ k_ ≠ gb728 ∧ k_ ≠ gb733 ∧ k_ ≠ gb745 ∧ k_ ≠ gb750 ∧ k_ ≠ gb755 ∧ k_ ≠ gb766 ∧ k_ ≠ gb771 ∧ k_ ≠ gb777) (.slice Ao122 t741.length co122) t741) := ⟨(by rw [hw]; exact (by exact Kd.V_mono (Kd.V_far (p := ⟨gb777, 0, none⟩) (Kd.V_mono HO_746000.out (fun k_ hk => (⟨hk, hk.2⟩ : _ ∧ k_ ≠ gb777))) (fun _ hk => hk.2) (.slice Ao295 t773.length co295)) (fun _ hk => ⟨hk.1.1.1, ⟨hk.1.1.2.1, ⟨hk.1.1.2.2.1, ⟨hk.1.1.2.2.2.1, ⟨hk.1.1.2.2.2.2.1, ⟨hk.1.1.2.2.2.2.2.1, ⟨hk.1.1.2.2.2.2.2.2.1, ⟨hk.1.1.2.2.2.2.2.2.2.1, ⟨hk.1.1.2.2.2.2.2.2.2.2.1, ⟨hk.1.1.2.2.2.2.2.2.2.2.2, hk.1.2⟩⟩⟩⟩⟩⟩⟩⟩⟩⟩)))⟩; have n6_ : Aside0 (Kd.V (Kd.int .u32) 79 w307 w.heap.size (fun k_ => k_ ≠ gb704 ∧ k_ ≠ gb713 ∧ k_ ≠ gb722 ∧ k_ ≠ gb728 ∧ k_ ≠ gb733 ∧ k_ ≠ gb745 ∧ k_ ≠ gb750 ∧ k_ ≠ gb755 ∧ k_ ≠ gb766 ∧ k_ ≠ gb771 ∧ k_ ≠ gb777) (.slice Ao135 t746.length co135) t746) := ⟨(by rw [hw]; exact (by exact Kd.V_mono (Kd.V_far (p := ⟨gb777, 0, none⟩) (Kd.V_mono HO_751000.out (fun k_ hk => (⟨hk, hk.2⟩ : _ ∧ k_ ≠ gb777))) (fun _ hk => hk.2) (.slice Ao295 t773.length co295)) (fun _ hk => ⟨hk.1.1.1, ⟨hk.1.1.2.1, ⟨hk.1.1.2.2.1, ⟨hk.1.1.2.2.2.1, ⟨hk.1.1.2.2.2.2.1, ⟨hk.1.1.2.2.2.2.2.1, ⟨hk.1.1.2.2.2.2.2.2.1, ⟨hk.1.1.2.2.2.2.2.2.2.1, ⟨hk.1.1.2.2.2.2.2.2.2.2.1, ⟨hk.1.1.2.2.2.2.2.2.2.2.2, hk.1.2⟩⟩⟩⟩⟩⟩⟩⟩⟩⟩)))⟩; have n7_ : Aside0 (Kd.V (Kd.int .u32) 79 w307 w.heap.size (fun k_ => k_ ≠ gb704 ∧ k_ ≠ gb713 ∧ k_ ≠ gb722 ∧ k_ ≠ gb728 ∧ k_ ≠ gb733 ∧ k_ ≠ gb745 ∧ k_ ≠ gb750 ∧ k_ ≠ gb755 ∧ k_ ≠ gb766 ∧ k_ ≠ gb771 ∧ k_ ≠ gb777) (.slice Ao148 t751.length co148) t751) := ⟨(by rw [hw]; exact (by exact Kd.V_mono (Kd.V_far (p := ⟨gb777, 0, none⟩) (Kd.V_mono HO_756000.out (fun k_ hk => (⟨hk, hk.2⟩ : _ ∧ k_ ≠ gb777))) (fun _ hk => hk.2) (.slice Ao295 t773.length co295)) (fun _ hk => ⟨hk.1.1.1, ⟨hk.1.1.2.1, ⟨hk.1.1.2.2.1, ⟨hk.1.1.2.2.2.1, ⟨hk.1.1.2.2.2.2.1, ⟨hk.1.1.2.2.2.2.2.1, ⟨hk.1.1.2.2.2.2.2.2.1, ⟨hk.1.1.2.2.2.2.2.2.2.1, ⟨hk.1.1.2.2.2.2.2.2.2.2.1, ⟨hk.1.1.2.2.2.2.2.2.2.2.2, hk.1.2⟩⟩⟩⟩⟩⟩⟩⟩⟩⟩)))⟩; have n8_ : Aside0 (Kd.V (Kd.int .u32) 79 w307 w.heap.size (fun k_ => k_ ≠ gb704 ∧ k_ ≠ gb713 ∧ k_ ≠ gb722 ∧ k_ ≠ gb728 ∧ k_ ≠ gb733 ∧ k_ ≠ gb745 ∧ k_ ≠ gb750 ∧ k_ ≠ gb755 ∧ k_ ≠ gb766 ∧ k_ ≠ gb771 ∧ k_ ≠ gb777) (.slice Ao231 t762.length co231) t762) := ⟨(by rw [hw]; exact (by exact Kd.V_mono (Kd.V_far (p := ⟨gb777, 0, none⟩) (Kd.V_mono HO_767000.out (fun k_ hk => (⟨hk, hk.2⟩ : _ ∧ k_ ≠ gb777))) (fun _ hk => hk.2) (.slice Ao295 t773.length co295)) (fun _ hk => ⟨hk.1.1.1, ⟨hk.1.1.2.1, ⟨hk.1.1.2.2.1, ⟨hk.1.1.2.2.2.1, ⟨hk.1.1.2.2.2.2.1, ⟨hk.1.1.2.2.2.2.2.1, ⟨hk.1.1.2.2.2.2.2.2.1, ⟨hk.1.1.2.2.2.2.2.2.2.1, ⟨hk.1.1.2.2.2.2.2.2.2.2.1, ⟨hk.1.1.2.2.2.2.2.2.2.2.2, hk.1.2⟩⟩⟩⟩⟩⟩⟩⟩⟩⟩)))⟩; have n9_ : Aside0 (Kd.V (Kd.int .u32) 79 w307 w.heap.size (fun k_ => k_ ≠ gb704 ∧ k_ ≠ gb713 ∧ k_ ≠ gb722 ∧ k_ ≠ gb728 ∧ k_ ≠ gb733 ∧ k_ ≠ gb745 ∧ k_ ≠ gb750 ∧ k_ ≠ gb755 ∧ k_ ≠ gb766 ∧ k_ ≠ gb771 ∧ k_ ≠ gb777) (.slice Ao245 t767.length co245) t767) := ⟨(by rw [hw]; exact (by exact Kd.V_mono (Kd.V_far (p := ⟨gb777, 0, none⟩) (Kd.V_mono HO_772000.out (fun k_ hk => (⟨hk, hk.2⟩ : _ ∧ k_ ≠ gb777))) (fun _ hk => hk.2) (.slice Ao295 t773.length co295)) (fun _ hk => ⟨hk.1.1.1, ⟨hk.1.1.2.1, ⟨hk.1.1.2.2.1, ⟨hk.1.1.2.2.2.1, ⟨hk.1.1.2.2.2.2.1, ⟨hk.1.1.2.2.2.2.2.1, ⟨hk.1.1.2.2.2.2.2.2.1, ⟨hk.1.1.2.2.2.2.2.2.2.1, ⟨hk.1.1.2.2.2.2.2.2.2.2.1, ⟨hk.1.1.2.2.2.2.2.2.2.2.2, hk.1.2⟩⟩⟩⟩⟩⟩⟩⟩⟩⟩)))⟩; have n10_ : Aside0 (Kd.V (Kd.int .u32) 79 w307 w.heap.size (fun k_ => k_ ≠ gb704 ∧ k_ ≠ gb713 ∧ k_ ≠ gb722 ∧ k_ ≠ gb728 ∧ k_ ≠ gb733 ∧ k_ ≠ gb745 ∧ k_ ≠ gb750 ∧ k_ ≠ gb755 ∧ k_ ≠ gb766 ∧ k_ ≠ gb771 ∧ k_ ≠ gb777) (.slice Ao295 t773.length co295) t773) := ⟨(by rw [hw]; exact (by exact Kd.V_mono (Kd.V_far (p := ⟨gb777, 0, none⟩) (Kd.V_mono HO775.out (fun k_ hk => (⟨hk, hk.2⟩ : _ ∧ k_ ≠ gb777))) (fun _ hk => hk.2) (.slice Ao295 t773.length co295)) (fun _ hk => ⟨hk.1.1.1, ⟨hk.1.1.2.1, ⟨hk.1.1.2.2.1, ⟨hk.1.1.2.2.2.1, ⟨hk.1.1.2.2.2.2.1, ⟨hk.1.1.2.2.2.2.2.1, ⟨hk.1.1.2.2.2.2.2.2.1, ⟨hk.1.1.2.2.2.2.2.2.2.1, ⟨hk.1.1.2.2.2.2.2.2.2.2.1, ⟨hk.1.1.2.2.2.2.2.2.2.2.2, hk.1.2⟩⟩⟩⟩⟩⟩⟩⟩⟩⟩)))⟩; have n11_ : Aside0 (w307.heap[gb704]? = some (.cells #[.slice Ao10 t699.length co10] 26 (0, 0))) := ⟨(by rw [hw]; exact (by refine blk_far ?_ NB704_777.out _; exact BK704.out))⟩; have n12_ : Aside0 (w307.heap[gb713]? = some (.cells #[.slice Ao14 t708.length co14] 26 (0, 0))) := ⟨(by rw [hw]; exact (by refine blk_far ?_ NB713_777.out _; exact BK713.out))⟩; have n13_ : Aside0 (w307.heap[gb722]? = some (.cells #[.slice Ao19 t717.length co19] 26 (0, 0))) := ⟨(by rw [hw]; exact (by refine blk_far ?_ NB722_777.out _; exact BK722.out))⟩; have n14_ : Aside0 (w307.heap[gb728]? = some (.cells #[.slice Ao42 t724.length co42] 26 (0, 0))) := ⟨(by rw [hw]; exact (by refine blk_far ?_ NB728_777.out _; exact BK728.out))⟩; have n15_ : Aside0 (w307.heap[gb733]? = some (.cells #[.slice Ao51 t729.length co51] 26 (0, 0))) := ⟨(by rw [hw]; exact (by refine blk_far ?_ NB733_777.out _; exact BK733.out))⟩; have n16_ : Aside0 (w307.heap[gb745]? = some (.cells #[.slice Ao122 t741.length co122] 26 (0, 0))) := ⟨(by rw [hw]; exact (by refine blk_far ?_ NB745_777.out _; exact BK745.out))⟩; have n17_ : Aside0 (w307.heap[gb750]? = some (.cells #[.slice Ao135 t746.length co135] 26 (0, 0))) := ⟨(by rw [hw]; exact (by refine blk_far ?_ NB750_777.out _; exact BK750.out))⟩; have n18_ : Aside0 (w307.heap[gb755]? = some (.cells #[.slice Ao148 t751.length co148] 26 (0, 0))) := ⟨(by rw [hw]; exact (by refine blk_far ?_ NB755_777.out _; exact BK755.out))⟩; have n19_ : Aside0 (w307.heap[gb766]? = some (.cells #[.slice Ao231 t762.length co231] 26 (0, 0))) := ⟨(by rw [hw]; exact (by refine blk_far ?_ NB766_777.out _; exact BK766.out))⟩; have n20_ : Aside0 (w307.heap[gb771]? = some (.cells #[.slice Ao245 t767.length co245] 26 (0, 0))) := ⟨(by rw [hw]; exact (by refine blk_far ?_ NB771_777.out _; exact BK771.out))⟩; have n21_ : Aside0 (w307.heap[gb777]? = some (.cells #[.slice Ao295 t773.length co295] 26 (0, 0))) := ⟨(by rw [hw]; exact (by refine blk_put (cs := #[.slice none 0 0]) ?_ 0 _ rfl; exact BK777.out))⟩; have n22_ : Aside0 (Below w.heap.size w w307) := ⟨(by rw [hw]; exact (by repeat (first | exact HB.out | refine sb ?_ GE704 | refine sb ?_ GE713 | refine sb ?_ GE722 | refine sb ?_ GE728 | refine sb ?_ GE733 | refine sb ?_ GE745 | refine sb ?_ GE750 | refine sb ?_ GE755 | refine sb ?_ GE766 | refine sb ?_ GE771 | refine sb ?_ GE777)))⟩; clear hw; clear HO_705000; clear HO_714000; clear HO_723000; clear HO_729000; clear HO_734000; clear HO_746000; clear HO_751000; clear HO_756000; clear HO_767000; clear HO_772000; clear HO775; clear BK704; clear BK713; clear BK722; clear BK728; clear BK733; clear BK745; clear BK750; clear BK755; clear BK766; clear BK771; clear BK777; clear HB; have HO_705000 := n0_; have HO_714000 := n1_; have HO_723000 := n2_; have HO_729000 := n3_; have HO_734000 := n4_; have HO_746000 := n5_; have HO_751000 := n6_; have HO_756000 := n7_; have HO_767000 := n8_; have HO_772000 := n9_; have HO775 := n10_; have BK704 := n11_; have BK713 := n12_; have BK722 := n13_; have BK728 := n14_; have BK733 := n15_; have BK745 := n16_; have BK750 := n17_; have BK755 := n18_; have BK766 := n19_; have BK771 := n20_; have BK777 := n21_; have HB := n22_; clear n0_ n1_ n2_ n3_ n4_ n5_ n6_ n7_ n8_ n9_ n10_ n11_ n12_ n13_ n14_ n15_ n16_ n17_ n18_ n19_ n20_ n21_ n22_; have hcz308_0 : w307.cell? ⟨gb704, 0, none⟩ = some (.slice Ao10 t699.length co10) := (blk_cell BK704.out 0).trans rfl; have hfz308_0 := blk_frozen BK704.out 0) | ((with_reducible refine gate_callee (f := 38) rfl ?_); refine goesL_ (some 181) rfl rfl Tryd.func38 (by kernel_rfl) rfl #[.agg #[.slice Ao10 t699.length co10], .int .i64 2] rfl (by (try simp only [List.map_toArray, List.map_cons, List.map_nil]); first | done | rfl | (simp only [List.length_drop, List.length_take]; rfl)) ?_; (with_reducible refine (nat_Nat_Power.calls kj212 (fun k_ => (k_ ≠ gb704 ∧ (k_ ≠ gb713 ∧ (k_ ≠ gb722 ∧ (k_ ≠ gb728 ∧ (k_ ≠ gb733 ∧ (k_ ≠ gb745 ∧ (k_ ≠ gb750 ∧ (k_ ≠ gb755 ∧ (k_ ≠ gb766 ∧ (k_ ≠ gb771 ∧ k_ ≠ gb777))))))))))) _ _ t699 2 t778 t781 _ ?side1 A280.out).mono ?_); (case side1 => exact HO_705000.out); rintro e w309 ⟨v779, rfl, ho0, hb⟩; refine ⟨_, rfl, ?_⟩; have HO780 := Aside0.mk (Kd.V_lower (Kd.V_mono (ok' := fun k_ => k_ ≠ gb704 ∧ k_ ≠ gb713 ∧ k_ ≠ gb722 ∧ k_ ≠ gb728 ∧ k_ ≠ gb733 ∧ k_ ≠ gb745 ∧ k_ ≠ gb750 ∧ k_ ≠ gb755 ∧ k_ ≠ gb766 ∧ k_ ≠ gb771 ∧ k_ ≠ gb777) ho0 (fun k_ hk_ => ⟨Or.elim hk_ (fun hs_ => hs_.1) (fun hn_ => (Kd.freshB (g := gb704) (o := .cells #[.slice Ao10 t699.length co10] 26 (0, 0)) BK704.out k_ hn_)), Or.elim hk_ (fun hs_ => hs_.2.1) (fun hn_ => (Kd.freshB (g := gb713) (o := .cells #[.slice Ao14 t708.length co14] 26 (0, 0)) BK713.out k_ hn_)), Or.elim hk_ (fun hs_ => hs_.2.2.1) (fun hn_ => (Kd.freshB (g := gb722) (o := .cells #[.slice Ao19 t717.length co19] 26 (0, 0)) BK722.out k_ hn_)), Or.elim hk_ (fun hs_ => hs_.2.2.2.1) (fun hn_ => (Kd.freshB (g := gb728) (o := .cells #[.slice Ao42 t724.length co42] 26 (0, 0)) BK728.out k_ hn_)), Or.elim hk_ (fun hs_ => hs_.2.2.2.2.1) (fun hn_ => (Kd.freshB (g := gb733) (o := .cells #[.slice Ao51 t729.length co51] 26 (0, 0)) BK733.out k_ hn_)), Or.elim hk_ (fun hs_ => hs_.2.2.2.2.2.1) (fun hn_ => (Kd.freshB (g := gb745) (o := .cells #[.slice Ao122 t741.length co122] 26 (0, 0)) BK745.out k_ hn_)), Or.elim hk_ (fun hs_ => hs_.2.2.2.2.2.2.1) (fun hn_ => (Kd.freshB (g := gb750) (o := .cells #[.slice Ao135 t746.length co135] 26 (0, 0)) BK750.out k_ hn_)), Or.elim hk_ (fun hs_ => hs_.2.2.2.2.2.2.2.1) (fun hn_ => (Kd.freshB (g := gb755) (o := .cells #[.slice Ao148 t751.length co148] 26 (0, 0)) BK755.out k_ hn_)), Or.elim hk_ (fun hs_ => hs_.2.2.2.2.2.2.2.2.1) (fun hn_ => (Kd.freshB (g := gb766) (o := .cells #[.slice Ao231 t762.length co231] 26 (0, 0)) BK766.out k_ hn_)), Or.elim hk_ (fun hs_ => hs_.2.2.2.2.2.2.2.2.2.1) (fun hn_ => (Kd.freshB (g := gb771) (o := .cells #[.slice Ao245 t767.length co245] 26 (0, 0)) BK771.out k_ hn_)), Or.elim hk_ (fun hs_ => hs_.2.2.2.2.2.2.2.2.2.2) (fun hn_ => (Kd.freshB (g := gb777) (o := .cells #[.slice Ao295 t773.length co295] 26 (0, 0)) BK777.out k_ hn_))⟩)) (below_size (by repeat (first | exact HB.out | refine sb ?_ GE704 | refine sb ?_ GE713 | refine sb ?_ GE722 | refine sb ?_ GE728 | refine sb ?_ GE733 | refine sb ?_ GE745 | refine sb ?_ GE750 | refine sb ?_ GE755 | refine sb ?_ GE766 | refine sb ?_ GE771 | refine sb ?_ GE777)))); replace HO_705000 := vb HO_705000 hb; replace HO_714000 := vb HO_714000 hb; replace HO_723000 := vb HO_723000 hb; replace HO_729000 := vb HO_729000 hb; replace HO_734000 := vb HO_734000 hb; replace HO_746000 := vb HO_746000 hb; replace HO_751000 := vb HO_751000 hb; replace HO_756000 := vb HO_756000 hb; replace HO_767000 := vb HO_767000 hb; replace HO_772000 := vb HO_772000 hb; replace HO775 := vb HO775 hb; replace BK704 := bb BK704 hb; replace BK713 := bb BK713 hb; replace BK722 := bb BK722 hb; replace BK728 := bb BK728 hb; replace BK733 := bb BK733 hb; replace BK745 := bb BK745 hb; replace BK750 := bb BK750 hb; replace BK755 := bb BK755 hb; replace BK766 := bb BK766 hb; replace BK771 := bb BK771 hb; replace BK777 := bb BK777 hb; replace HB := Aside0.mk (below_step (by repeat (first | exact HB.out | refine sb ?_ GE704 | refine sb ?_ GE713 | refine sb ?_ GE722 | refine sb ?_ GE728 | refine sb ?_ GE733 | refine sb ?_ GE745 | refine sb ?_ GE750 | refine sb ?_ GE755 | refine sb ?_ GE766 | refine sb ?_ GE771 | refine sb ?_ GE777)) hb); (try clear hb); (try clear hk); (try clear hi); (try clear ho0)) | ((with_reducible refine gate_dst (N := 36) rfl ?_); refine box_event ?hg (N := 36) ?hd (cs := #[.slice none 0 0]) (t := 26) ?hr ?_; (case hd => rfl); (case hg => rfl); (case hr => first | (go_simp; done) | (go_simp; rfl)); intro gb782 hg w310 hbox hb; have BK782 := Aside0.mk (hbox); have GW782 := Aside0.mk ((by rw [hg]; exact (below_size (by repeat (first | exact HB.out | refine sb ?_ GE704 | refine sb ?_ GE713 | refine sb ?_ GE722 | refine sb ?_ GE728 | refine sb ?_ GE733 | refine sb ?_ GE745 | refine sb ?_ GE750 | refine sb ?_ GE755 | refine sb ?_ GE766 | refine sb ?_ GE771 | refine sb ?_ GE777))) : w.heap.size ≤ gb782)); have GE782 := Aside0.mk ((by rw [hg]; exact (below_size (by repeat (first | exact HB.out | refine sb ?_ GE704 | refine sb ?_ GE713 | refine sb ?_ GE722 | refine sb ?_ GE728 | refine sb ?_ GE733 | refine sb ?_ GE745 | refine sb ?_ GE750 | refine sb ?_ GE755 | refine sb ?_ GE766 | refine sb ?_ GE771 | refine sb ?_ GE777))) : w.heap.size ≤ gb782)); have NB704_782 := nl BK704 hg; have NB782_704 := ng BK704 hg; have NB713_782 := nl BK713 hg; have NB782_713 := ng BK713 hg; have NB722_782 := nl BK722 hg; have NB782_722 := ng BK722 hg; have NB728_782 := nl BK728 hg; have NB782_728 := ng BK728 hg; have NB733_782 := nl BK733 hg; have NB782_733 := ng BK733 hg; have NB745_782 := nl BK745 hg; have NB782_745 := ng BK745 hg; have NB750_782 := nl BK750 hg; have NB782_750 := ng BK750 hg; have NB755_782 := nl BK755 hg; have NB782_755 := ng BK755 hg; have NB766_782 := nl BK766 hg; have NB782_766 := ng BK766 hg; have NB771_782 := nl BK771 hg; have NB782_771 := ng BK771 hg; have NB777_782 := nl BK777 hg; have NB782_777 := ng BK777 hg; replace HO_705000 := ve HO_705000 gb782 hg hb; replace HO_714000 := ve HO_714000 gb782 hg hb; replace HO_723000 := ve HO_723000 gb782 hg hb; replace HO_729000 := ve HO_729000 gb782 hg hb; replace HO_734000 := ve HO_734000 gb782 hg hb; replace HO_746000 := ve HO_746000 gb782 hg hb; replace HO_751000 := ve HO_751000 gb782 hg hb; replace HO_756000 := ve HO_756000 gb782 hg hb; replace HO_767000 := ve HO_767000 gb782 hg hb; replace HO_772000 := ve HO_772000 gb782 hg hb; replace HO775 := ve HO775 gb782 hg hb; replace HO780 := ve HO780 gb782 hg hb; replace BK704 := bb BK704 hb; replace BK713 := bb BK713 hb; replace BK722 := bb BK722 hb; replace BK728 := bb BK728 hb; replace BK733 := bb BK733 hb; replace BK745 := bb BK745 hb; replace BK750 := bb BK750 hb; replace BK755 := bb BK755 hb; replace BK766 := bb BK766 hb; replace BK771 := bb BK771 hb; replace BK777 := bb BK777 hb; replace HB := Aside0.mk (below_step (by repeat (first | exact HB.out | refine sb ?_ GE704 | refine sb ?_ GE713 | refine sb ?_ GE722 | refine sb ?_ GE728 | refine sb ?_ GE733 | refine sb ?_ GE745 | refine sb ?_ GE750 | refine sb ?_ GE755 | refine sb ?_ GE766 | refine sb ?_ GE771 | refine sb ?_ GE777)) hb); clear hb hbox hg; obtain ⟨Ao311, co311, eo311⟩ := Kd.V_slice HO780.out; subst eo311; have hnb312 := NB782_704.out; have hnc312 := NB704_782.out; have hnb313 := NB782_713.out; have hnc313 := NB713_782.out; have hnb314 := NB782_722.out; have hnc314 := NB722_782.out; have hnb315 := NB782_728.out; have hnc315 := NB728_782.out; have hnb316 := NB782_733.out; have hnc316 := NB733_782.out; have hnb317 := NB782_745.out; have hnc317 := NB745_782.out; have hnb318 := NB782_750.out; have hnc318 := NB750_782.out; have hnb319 := NB782_755.out; have hnc319 := NB755_782.out; have hnb320 := NB782_766.out; have hnc320 := NB766_782.out; have hnb321 := NB782_771.out; have hnc321 := NB771_782.out; have hnb322 := NB782_777.out; have hnc322 := NB777_782.out; have hcz323_0 : w310.cell? ⟨gb782, 0, none⟩ = some (.slice none 0 0) := (blk_cell BK782.out 0).trans rfl; have hfz323_0 := blk_frozen BK782.out 0; have hcz324_0 : w310.cell? ⟨gb777, 0, none⟩ = some (.slice Ao295 t773.length co295) := (blk_cell BK777.out 0).trans rfl; have hfz324_0 := blk_frozen BK777.out 0) | (go_at_call 29; (with_reducible refine (nat_Nat_Compare.calls kj212 _ _ t773 _ _ t778 t783 _ ?side1 ?side2 ?side3 ?side4 A282.out).mono ?_); (case side1 => refine (Kd.V_reads' (e := 79) (base := w.heap.size) (ok := fun k_ => ((k_ ≠ gb704 ∧ (k_ ≠ gb713 ∧ (k_ ≠ gb722 ∧ (k_ ≠ gb728 ∧ (k_ ≠ gb733 ∧ (k_ ≠ gb745 ∧ (k_ ≠ gb750 ∧ (k_ ≠ gb755 ∧ (k_ ≠ gb766 ∧ (k_ ≠ gb771 ∧ k_ ≠ gb777)))))))))) ∧ k_ ≠ gb782)) (n := t773.length) (c := co295) ?_).2.2; exact (by exact (Kd.V_mono (Kd.V_far (p := ⟨gb782, 0, none⟩) (Kd.V_mono HO775.out (fun k_ hk => (⟨hk, hk.2⟩ : _ ∧ k_ ≠ gb782))) (fun _ hk => hk.2) (.slice Ao311 t778.length co311)) (fun _ h_ => h_.1)))); (case side2 => exact (Kd.V_reads' HO775.out).2.1); (case side3 => refine (Kd.V_reads' (e := 79) (base := w.heap.size) (ok := fun k_ => ((k_ ≠ gb704 ∧ (k_ ≠ gb713 ∧ (k_ ≠ gb722 ∧ (k_ ≠ gb728 ∧ (k_ ≠ gb733 ∧ (k_ ≠ gb745 ∧ (k_ ≠ gb750 ∧ (k_ ≠ gb755 ∧ (k_ ≠ gb766 ∧ (k_ ≠ gb771 ∧ k_ ≠ gb777)))))))))) ∧ k_ ≠ gb782)) (n := t778.length) (c := co311) ?_).2.2; exact (by exact (Kd.V_mono (Kd.V_far (p := ⟨gb782, 0, none⟩) (Kd.V_mono HO780.out (fun k_ hk => (⟨hk, hk.2⟩ : _ ∧ k_ ≠ gb782))) (fun _ hk => hk.2) (.slice Ao311 t778.length co311)) (fun _ h_ => h_.1)))); (case side4 => exact (Kd.V_reads' HO780.out).2.1); rintro e w325 ⟨rfl, hb⟩; replace HO_705000 := vf HO_705000 (fun k_ hk => hk.2) hb; replace HO_714000 := vf HO_714000 (fun k_ hk => hk.2) hb; replace HO_723000 := vf HO_723000 (fun k_ hk => hk.2) hb; replace HO_729000 := vf HO_729000 (fun k_ hk => hk.2) hb; replace HO_734000 := vf HO_734000 (fun k_ hk => hk.2) hb; replace HO_746000 := vf HO_746000 (fun k_ hk => hk.2) hb; replace HO_751000 := vf HO_751000 (fun k_ hk => hk.2) hb; replace HO_756000 := vf HO_756000 (fun k_ hk => hk.2) hb; replace HO_767000 := vf HO_767000 (fun k_ hk => hk.2) hb; replace HO_772000 := vf HO_772000 (fun k_ hk => hk.2) hb; replace HO775 := vf HO775 (fun k_ hk => hk.2) hb; replace HO780 := vf HO780 (fun k_ hk => hk.2) hb; replace BK704 := bf BK704 NB704_782 hb; replace BK713 := bf BK713 NB713_782 hb; replace BK722 := bf BK722 NB722_782 hb; replace BK728 := bf BK728 NB728_782 hb; replace BK733 := bf BK733 NB733_782 hb; replace BK745 := bf BK745 NB745_782 hb; replace BK750 := bf BK750 NB750_782 hb; replace BK755 := bf BK755 NB755_782 hb; replace BK766 := bf BK766 NB766_782 hb; replace BK771 := bf BK771 NB771_782 hb; replace BK777 := bf BK777 NB777_782 hb; replace BK782 := Aside0.mk (blk_below (g := gb782) (o := .cells #[.slice Ao311 t778.length co311] 26 (0, 0)) (by refine blk_put (cs := #[.slice none 0 0]) ?_ 0 _ rfl; exact BK782.out) hb); replace HB := Aside0.mk (below_step (by repeat (first | exact HB.out | refine sb ?_ GE704 | refine sb ?_ GE713 | refine sb ?_ GE722 | refine sb ?_ GE728 | refine sb ?_ GE733 | refine sb ?_ GE745 | refine sb ?_ GE750 | refine sb ?_ GE755 | refine sb ?_ GE766 | refine sb ?_ GE771 | refine sb ?_ GE777 | refine sb ?_ GE782)) hb); (try clear hb); (try clear hb2); (try clear hk); (try clear hi)))
                  go_ret
                  exact ⟨by first | rfl | (simp [errW_none, errW_some] <;> rfl) | (simp [*, errW_none, errW_some] <;> rfl), by repeat (first | exact HB.out | refine sb ?_ GE704 | refine sb ?_ GE713 | refine sb ?_ GE722 | refine sb ?_ GE728 | refine sb ?_ GE733 | refine sb ?_ GE745 | refine sb ?_ GE750 | refine sb ?_ GE755 | refine sb ?_ GE766 | refine sb ?_ GE771 | refine sb ?_ GE777 | refine sb ?_ GE782)⟩
                ·rw [if_neg c281] at H
                 have c281b0 : (t776 == t781) = false := beq_eq_false_iff_ne.mpr c281
                 have c281b1 : (t776 != t781) = true := bne_iff_ne.mpr c281
                 as_aux_lemma =>
                  obtain rfl := Option.some.inj H
                  have hnb326 := NB704_713.out
                  have hnc326 := NB713_704.out
                  have hnb327 := NB704_722.out
                  have hnc327 := NB722_704.out
                  have hnb328 := NB704_728.out
                  have hnc328 := NB728_704.out
                  have hnb329 := NB704_733.out
                  have hnc329 := NB733_704.out
                  have hnb330 := NB704_745.out
                  have hnc330 := NB745_704.out
                  have hnb331 := NB704_750.out
                  have hnc331 := NB750_704.out
                  have hnb332 := NB704_755.out
                  have hnc332 := NB755_704.out
                  have hnb333 := NB704_766.out
                  have hnc333 := NB766_704.out
                  have hnb334 := NB704_771.out
                  have hnc334 := NB771_704.out
                  have hcz335_0 : wc.cell? ⟨gb704, 0, none⟩ = some (.slice Ao10 t699.length co10) := (blk_cell BK704.out 0).trans rfl
                  have hfz335_0 := blk_frozen BK704.out 0
                  go_wp2_with (first | ((with_reducible refine gate_callee (f := 44) rfl ?_); refine goesL_ (some 176) rfl rfl Tryd.func44 (by kernel_rfl) rfl #[.agg #[.slice Ao10 t699.length co10], .agg #[.slice Ao10 t699.length co10]] rfl (by (try simp only [List.map_toArray, List.map_cons, List.map_nil]); first | done | rfl | (simp only [List.length_drop, List.length_take]; rfl)) ?_; (with_reducible refine (nat_Nat_Mul.calls kj212 _ _ t699 _ _ t699 t773 t776 _ ?side1 ?side2 ?side3 ?side4 A279.out).mono ?_); (case side1 => exact (Kd.V_reads' HO_705000.out).2.2); (case side2 => exact (Kd.V_reads' HO_705000.out).2.1); (case side3 => exact (Kd.V_reads' HO_705000.out).2.2); (case side4 => exact (Kd.V_reads' HO_705000.out).2.1); rintro e w336 ⟨v774, rfl, ho0, hb⟩; refine ⟨_, rfl, ?_⟩; have HO775 := Aside0.mk (Kd.V_lower (Kd.V_mono (ok' := fun k_ => k_ ≠ gb704 ∧ k_ ≠ gb713 ∧ k_ ≠ gb722 ∧ k_ ≠ gb728 ∧ k_ ≠ gb733 ∧ k_ ≠ gb745 ∧ k_ ≠ gb750 ∧ k_ ≠ gb755 ∧ k_ ≠ gb766 ∧ k_ ≠ gb771) ho0 (fun k_ hk_ => ⟨(fb BK704 k_ hk_), (fb BK713 k_ hk_), (fb BK722 k_ hk_), (fb BK728 k_ hk_), (fb BK733 k_ hk_), (fb BK745 k_ hk_), (fb BK750 k_ hk_), (fb BK755 k_ hk_), (fb BK766 k_ hk_), (fb BK771 k_ hk_)⟩)) (below_size (by repeat (first | exact HB.out | refine sb ?_ GE704 | refine sb ?_ GE713 | refine sb ?_ GE722 | refine sb ?_ GE728 | refine sb ?_ GE733 | refine sb ?_ GE745 | refine sb ?_ GE750 | refine sb ?_ GE755 | refine sb ?_ GE766 | refine sb ?_ GE771)))); replace HO_705000 := vb HO_705000 hb; replace HO_714000 := vb HO_714000 hb; replace HO_723000 := vb HO_723000 hb; replace HO_729000 := vb HO_729000 hb; replace HO_734000 := vb HO_734000 hb; replace HO_746000 := vb HO_746000 hb; replace HO_751000 := vb HO_751000 hb; replace HO_756000 := vb HO_756000 hb; replace HO_767000 := vb HO_767000 hb; replace HO_772000 := vb HO_772000 hb; replace BK704 := bb BK704 hb; replace BK713 := bb BK713 hb; replace BK722 := bb BK722 hb; replace BK728 := bb BK728 hb; replace BK733 := bb BK733 hb; replace BK745 := bb BK745 hb; replace BK750 := bb BK750 hb; replace BK755 := bb BK755 hb; replace BK766 := bb BK766 hb; replace BK771 := bb BK771 hb; replace HB := Aside0.mk (below_step (by repeat (first | exact HB.out | refine sb ?_ GE704 | refine sb ?_ GE713 | refine sb ?_ GE722 | refine sb ?_ GE728 | refine sb ?_ GE733 | refine sb ?_ GE745 | refine sb ?_ GE750 | refine sb ?_ GE755 | refine sb ?_ GE766 | refine sb ?_ GE771)) hb); (try clear hb); (try clear hk); (try clear hi); (try clear ho0)) | ((with_reducible refine gate_dst (N := 35) rfl ?_); refine box_event ?hg (N := 35) ?hd (cs := #[.slice none 0 0]) (t := 26) ?hr ?_; (case hd => rfl); (case hg => rfl); (case hr => first | (go_simp; done) | (go_simp; rfl)); intro gb777 hg w337 hbox hb; have BK777 := Aside0.mk (hbox); have GW777 := Aside0.mk ((by rw [hg]; exact (below_size (by repeat (first | exact HB.out | refine sb ?_ GE704 | refine sb ?_ GE713 | refine sb ?_ GE722 | refine sb ?_ GE728 | refine sb ?_ GE733 | refine sb ?_ GE745 | refine sb ?_ GE750 | refine sb ?_ GE755 | refine sb ?_ GE766 | refine sb ?_ GE771))) : w.heap.size ≤ gb777)); have GE777 := Aside0.mk ((by rw [hg]; exact (below_size (by repeat (first | exact HB.out | refine sb ?_ GE704 | refine sb ?_ GE713 | refine sb ?_ GE722 | refine sb ?_ GE728 | refine sb ?_ GE733 | refine sb ?_ GE745 | refine sb ?_ GE750 | refine sb ?_ GE755 | refine sb ?_ GE766 | refine sb ?_ GE771))) : w.heap.size ≤ gb777)); have NB704_777 := nl BK704 hg; have NB777_704 := ng BK704 hg; have NB713_777 := nl BK713 hg; have NB777_713 := ng BK713 hg; have NB722_777 := nl BK722 hg; have NB777_722 := ng BK722 hg; have NB728_777 := nl BK728 hg; have NB777_728 := ng BK728 hg; have NB733_777 := nl BK733 hg; have NB777_733 := ng BK733 hg; have NB745_777 := nl BK745 hg; have NB777_745 := ng BK745 hg; have NB750_777 := nl BK750 hg; have NB777_750 := ng BK750 hg; have NB755_777 := nl BK755 hg; have NB777_755 := ng BK755 hg; have NB766_777 := nl BK766 hg; have NB777_766 := ng BK766 hg; have NB771_777 := nl BK771 hg; have NB777_771 := ng BK771 hg; replace HO_705000 := ve HO_705000 gb777 hg hb; replace HO_714000 := ve HO_714000 gb777 hg hb; replace HO_723000 := ve HO_723000 gb777 hg hb; replace HO_729000 := ve HO_729000 gb777 hg hb; replace HO_734000 := ve HO_734000 gb777 hg hb; replace HO_746000 := ve HO_746000 gb777 hg hb; replace HO_751000 := ve HO_751000 gb777 hg hb; replace HO_756000 := ve HO_756000 gb777 hg hb; replace HO_767000 := ve HO_767000 gb777 hg hb; replace HO_772000 := ve HO_772000 gb777 hg hb; replace HO775 := ve HO775 gb777 hg hb; replace BK704 := bb BK704 hb; replace BK713 := bb BK713 hb; replace BK722 := bb BK722 hb; replace BK728 := bb BK728 hb; replace BK733 := bb BK733 hb; replace BK745 := bb BK745 hb; replace BK750 := bb BK750 hb; replace BK755 := bb BK755 hb; replace BK766 := bb BK766 hb; replace BK771 := bb BK771 hb; replace HB := Aside0.mk (below_step (by repeat (first | exact HB.out | refine sb ?_ GE704 | refine sb ?_ GE713 | refine sb ?_ GE722 | refine sb ?_ GE728 | refine sb ?_ GE733 | refine sb ?_ GE745 | refine sb ?_ GE750 | refine sb ?_ GE755 | refine sb ?_ GE766 | refine sb ?_ GE771)) hb); clear hb hbox hg; obtain ⟨Ao338, co338, eo338⟩ := Kd.V_slice HO775.out; subst eo338; have hnb339 := NB777_704.out; have hnc339 := NB704_777.out; have hnb340 := NB777_713.out; have hnc340 := NB713_777.out; have hnb341 := NB777_722.out; have hnc341 := NB722_777.out; have hnb342 := NB777_728.out; have hnc342 := NB728_777.out; have hnb343 := NB777_733.out; have hnc343 := NB733_777.out; have hnb344 := NB777_745.out; have hnc344 := NB745_777.out; have hnb345 := NB777_750.out; have hnc345 := NB750_777.out; have hnb346 := NB777_755.out; have hnc346 := NB755_777.out; have hnb347 := NB777_766.out; have hnc347 := NB766_777.out; have hnb348 := NB777_771.out; have hnc348 := NB771_777.out; have hcz349_0 : w337.cell? ⟨gb777, 0, none⟩ = some (.slice none 0 0) := (blk_cell BK777.out 0).trans rfl; have hfz349_0 := blk_frozen BK777.out 0) | ((with_reducible refine gate_store (t := 26) (p := 35) rfl ?_); refine store_event (t := 26) (p := 35) (v := ?vo_w350) (w1 := (w337.setCell ⟨gb777, 0, none⟩ (.slice Ao338 t773.length co338))) ?hg ?ho ?hn ?hr ?_; (case ho => rfl); (case hg => rfl); (case hn => rfl); (case hr => first | (go_simp; done) | (go_simp; rfl)); intro w350 hw; have n0_ : Aside0 (Kd.V (Kd.int .u32) 79 w350 w.heap.size (fun k_ => k_ ≠ gb704 ∧ k_ ≠ gb713 ∧ k_ ≠ gb722 ∧ k_ ≠ gb728 ∧ k_ ≠ gb733 ∧ k_ ≠ gb745 ∧ k_ ≠ gb750 ∧ k_ ≠ gb755 ∧ k_ ≠ gb766 ∧ k_ ≠ gb771 ∧ k_ ≠ gb777) (.slice Ao10 t699.length co10) t699) := ⟨(by rw [hw]; exact (by exact Kd.V_mono (Kd.V_far (p := ⟨gb777, 0, none⟩) (Kd.V_mono HO_705000.out (fun k_ hk => (⟨hk, hk.2⟩ : _ ∧ k_ ≠ gb777))) (fun _ hk => hk.2) (.slice Ao338 t773.length co338)) (fun _ hk => ⟨hk.1.1.1, ⟨hk.1.1.2.1, ⟨hk.1.1.2.2.1, ⟨hk.1.1.2.2.2.1, ⟨hk.1.1.2.2.2.2.1, ⟨hk.1.1.2.2.2.2.2.1, ⟨hk.1.1.2.2.2.2.2.2.1, ⟨hk.1.1.2.2.2.2.2.2.2.1, ⟨hk.1.1.2.2.2.2.2.2.2.2.1, ⟨hk.1.1.2.2.2.2.2.2.2.2.2, hk.1.2⟩⟩⟩⟩⟩⟩⟩⟩⟩⟩)))⟩; have n1_ : Aside0 (Kd.V (Kd.int .u32) 79 w350 w.heap.size (fun k_ => k_ ≠ gb704 ∧ k_ ≠ gb713 ∧ k_ ≠ gb722 ∧ k_ ≠ gb728 ∧ k_ ≠ gb733 ∧ k_ ≠ gb745 ∧ k_ ≠ gb750 ∧ k_ ≠ gb755 ∧ k_ ≠ gb766 ∧ k_ ≠ gb771 ∧ k_ ≠ gb777) (.slice Ao14 t708.length co14) t708) := ⟨(by rw [hw]; exact (by exact Kd.V_mono (Kd.V_far (p := ⟨gb777, 0, none⟩) (Kd.V_mono HO_714000.out (fun k_ hk => (⟨hk, hk.2⟩ : _ ∧ k_ ≠ gb777))) (fun _ hk => hk.2) (.slice Ao338 t773.length co338)) (fun _ hk => ⟨hk.1.1.1, ⟨hk.1.1.2.1, ⟨hk.1.1.2.2.1, ⟨hk.1.1.2.2.2.1, ⟨hk.1.1.2.2.2.2.1, ⟨hk.1.1.2.2.2.2.2.1, ⟨hk.1.1.2.2.2.2.2.2.1, ⟨hk.1.1.2.2.2.2.2.2.2.1, ⟨hk.1.1.2.2.2.2.2.2.2.2.1, ⟨hk.1.1.2.2.2.2.2.2.2.2.2, hk.1.2⟩⟩⟩⟩⟩⟩⟩⟩⟩⟩)))⟩; have n2_ : Aside0 (Kd.V (Kd.int .u32) 79 w350 w.heap.size (fun k_ => k_ ≠ gb704 ∧ k_ ≠ gb713 ∧ k_ ≠ gb722 ∧ k_ ≠ gb728 ∧ k_ ≠ gb733 ∧ k_ ≠ gb745 ∧ k_ ≠ gb750 ∧ k_ ≠ gb755 ∧ k_ ≠ gb766 ∧ k_ ≠ gb771 ∧ k_ ≠ gb777) (.slice Ao19 t717.length co19) t717) := ⟨(by rw [hw]; exact (by exact Kd.V_mono (Kd.V_far (p := ⟨gb777, 0, none⟩) (Kd.V_mono HO_723000.out (fun k_ hk => (⟨hk, hk.2⟩ : _ ∧ k_ ≠ gb777))) (fun _ hk => hk.2) (.slice Ao338 t773.length co338)) (fun _ hk => ⟨hk.1.1.1, ⟨hk.1.1.2.1, ⟨hk.1.1.2.2.1, ⟨hk.1.1.2.2.2.1, ⟨hk.1.1.2.2.2.2.1, ⟨hk.1.1.2.2.2.2.2.1, ⟨hk.1.1.2.2.2.2.2.2.1, ⟨hk.1.1.2.2.2.2.2.2.2.1, ⟨hk.1.1.2.2.2.2.2.2.2.2.1, ⟨hk.1.1.2.2.2.2.2.2.2.2.2, hk.1.2⟩⟩⟩⟩⟩⟩⟩⟩⟩⟩)))⟩; have n3_ : Aside0 (Kd.V (Kd.int .u32) 79 w350 w.heap.size (fun k_ => k_ ≠ gb704 ∧ k_ ≠ gb713 ∧ k_ ≠ gb722 ∧ k_ ≠ gb728 ∧ k_ ≠ gb733 ∧ k_ ≠ gb745 ∧ k_ ≠ gb750 ∧ k_ ≠ gb755 ∧ k_ ≠ gb766 ∧ k_ ≠ gb771 ∧ k_ ≠ gb777) (.slice Ao42 t724.length co42) t724) := ⟨(by rw [hw]; exact (by exact Kd.V_mono (Kd.V_far (p := ⟨gb777, 0, none⟩) (Kd.V_mono HO_729000.out (fun k_ hk => (⟨hk, hk.2⟩ : _ ∧ k_ ≠ gb777))) (fun _ hk => hk.2) (.slice Ao338 t773.length co338)) (fun _ hk => ⟨hk.1.1.1, ⟨hk.1.1.2.1, ⟨hk.1.1.2.2.1, ⟨hk.1.1.2.2.2.1, ⟨hk.1.1.2.2.2.2.1, ⟨hk.1.1.2.2.2.2.2.1, ⟨hk.1.1.2.2.2.2.2.2.1, ⟨hk.1.1.2.2.2.2.2.2.2.1, ⟨hk.1.1.2.2.2.2.2.2.2.2.1, ⟨hk.1.1.2.2.2.2.2.2.2.2.2, hk.1.2⟩⟩⟩⟩⟩⟩⟩⟩⟩⟩)))⟩; have n4_ : Aside0 (Kd.V (Kd.int .u32) 79 w350 w.heap.size (fun k_ => k_ ≠ gb704 ∧ k_ ≠ gb713 ∧ k_ ≠ gb722 ∧ k_ ≠ gb728 ∧ k_ ≠ gb733 ∧ k_ ≠ gb745 ∧ k_ ≠ gb750 ∧ k_ ≠ gb755 ∧ k_ ≠ gb766 ∧ k_ ≠ gb771 ∧ k_ ≠ gb777) (.slice Ao51 t729.length co51) t729) := ⟨(by rw [hw]; exact (by exact Kd.V_mono (Kd.V_far (p := ⟨gb777, 0, none⟩) (Kd.V_mono HO_734000.out (fun k_ hk => (⟨hk, hk.2⟩ : _ ∧ k_ ≠ gb777))) (fun _ hk => hk.2) (.slice Ao338 t773.length co338)) (fun _ hk => ⟨hk.1.1.1, ⟨hk.1.1.2.1, ⟨hk.1.1.2.2.1, ⟨hk.1.1.2.2.2.1, ⟨hk.1.1.2.2.2.2.1, ⟨hk.1.1.2.2.2.2.2.1, ⟨hk.1.1.2.2.2.2.2.2.1, ⟨hk.1.1.2.2.2.2.2.2.2.1, ⟨hk.1.1.2.2.2.2.2.2.2.2.1, ⟨hk.1.1.2.2.2.2.2.2.2.2.2, hk.1.2⟩⟩⟩⟩⟩⟩⟩⟩⟩⟩)))⟩; have n5_ : Aside0 (Kd.V (Kd.int .u32) 79 w350 w.heap.size (fun k_ => k_ ≠ gb704 ∧ k_ ≠ gb713 ∧ k_ ≠ gb722 ∧ k_ ≠ gb728 ∧ k_ ≠ gb733 ∧ k_ ≠ gb745 ∧ k_ ≠ gb750 ∧ k_ ≠ gb755 ∧ k_ ≠ gb766 ∧ k_ ≠ gb771 ∧ k_ ≠ gb777) (.slice Ao122 t741.length co122) t741) := ⟨(by rw [hw]; exact (by exact Kd.V_mono (Kd.V_far (p := ⟨gb777, 0, none⟩) (Kd.V_mono HO_746000.out (fun k_ hk => (⟨hk, hk.2⟩ : _ ∧ k_ ≠ gb777))) (fun _ hk => hk.2) (.slice Ao338 t773.length co338)) (fun _ hk => ⟨hk.1.1.1, ⟨hk.1.1.2.1, ⟨hk.1.1.2.2.1, ⟨hk.1.1.2.2.2.1, ⟨hk.1.1.2.2.2.2.1, ⟨hk.1.1.2.2.2.2.2.1, ⟨hk.1.1.2.2.2.2.2.2.1, ⟨hk.1.1.2.2.2.2.2.2.2.1, ⟨hk.1.1.2.2.2.2.2.2.2.2.1, ⟨hk.1.1.2.2.2.2.2.2.2.2.2, hk.1.2⟩⟩⟩⟩⟩⟩⟩⟩⟩⟩)))⟩; have n6_ : Aside0 (Kd.V (Kd.int .u32) 79 w350 w.heap.size (fun k_ => k_ ≠ gb704 ∧ k_ ≠ gb713 ∧ k_ ≠ gb722 ∧ k_ ≠ gb728 ∧ k_ ≠ gb733 ∧ k_ ≠ gb745 ∧ k_ ≠ gb750 ∧ k_ ≠ gb755 ∧ k_ ≠ gb766 ∧ k_ ≠ gb771 ∧ k_ ≠ gb777) (.slice Ao135 t746.length co135) t746) := ⟨(by rw [hw]; exact (by exact Kd.V_mono (Kd.V_far (p := ⟨gb777, 0, none⟩) (Kd.V_mono HO_751000.out (fun k_ hk => (⟨hk, hk.2⟩ : _ ∧ k_ ≠ gb777))) (fun _ hk => hk.2) (.slice Ao338 t773.length co338)) (fun _ hk => ⟨hk.1.1.1, ⟨hk.1.1.2.1, ⟨hk.1.1.2.2.1, ⟨hk.1.1.2.2.2.1, ⟨hk.1.1.2.2.2.2.1, ⟨hk.1.1.2.2.2.2.2.1, ⟨hk.1.1.2.2.2.2.2.2.1, ⟨hk.1.1.2.2.2.2.2.2.2.1, ⟨hk.1.1.2.2.2.2.2.2.2.2.1, ⟨hk.1.1.2.2.2.2.2.2.2.2.2, hk.1.2⟩⟩⟩⟩⟩⟩⟩⟩⟩⟩)))⟩; have n7_ : Aside0 (Kd.V (Kd.int .u32) 79 w350 w.heap.size (fun k_ => k_ ≠ gb704 ∧ k_ ≠ gb713 ∧ k_ ≠ gb722 ∧ k_ ≠ gb728 ∧ k_ ≠ gb733 ∧ k_ ≠ gb745 ∧ k_ ≠ gb750 ∧ k_ ≠ gb755 ∧ k_ ≠ gb766 ∧ k_ ≠ gb771 ∧ k_ ≠ gb777) (.slice Ao148 t751.length co148) t751) := ⟨(by rw [hw]; exact (by exact Kd.V_mono (Kd.V_far (p := ⟨gb777, 0, none⟩) (Kd.V_mono HO_756000.out (fun k_ hk => (⟨hk, hk.2⟩ : _ ∧ k_ ≠ gb777))) (fun _ hk => hk.2) (.slice Ao338 t773.length co338)) (fun _ hk => ⟨hk.1.1.1, ⟨hk.1.1.2.1, ⟨hk.1.1.2.2.1, ⟨hk.1.1.2.2.2.1, ⟨hk.1.1.2.2.2.2.1, ⟨hk.1.1.2.2.2.2.2.1, ⟨hk.1.1.2.2.2.2.2.2.1, ⟨hk.1.1.2.2.2.2.2.2.2.1, ⟨hk.1.1.2.2.2.2.2.2.2.2.1, ⟨hk.1.1.2.2.2.2.2.2.2.2.2, hk.1.2⟩⟩⟩⟩⟩⟩⟩⟩⟩⟩)))⟩; have n8_ : Aside0 (Kd.V (Kd.int .u32) 79 w350 w.heap.size (fun k_ => k_ ≠ gb704 ∧ k_ ≠ gb713 ∧ k_ ≠ gb722 ∧ k_ ≠ gb728 ∧ k_ ≠ gb733 ∧ k_ ≠ gb745 ∧ k_ ≠ gb750 ∧ k_ ≠ gb755 ∧ k_ ≠ gb766 ∧ k_ ≠ gb771 ∧ k_ ≠ gb777) (.slice Ao231 t762.length co231) t762) := ⟨(by rw [hw]; exact (by exact Kd.V_mono (Kd.V_far (p := ⟨gb777, 0, none⟩) (Kd.V_mono HO_767000.out (fun k_ hk => (⟨hk, hk.2⟩ : _ ∧ k_ ≠ gb777))) (fun _ hk => hk.2) (.slice Ao338 t773.length co338)) (fun _ hk => ⟨hk.1.1.1, ⟨hk.1.1.2.1, ⟨hk.1.1.2.2.1, ⟨hk.1.1.2.2.2.1, ⟨hk.1.1.2.2.2.2.1, ⟨hk.1.1.2.2.2.2.2.1, ⟨hk.1.1.2.2.2.2.2.2.1, ⟨hk.1.1.2.2.2.2.2.2.2.1, ⟨hk.1.1.2.2.2.2.2.2.2.2.1, ⟨hk.1.1.2.2.2.2.2.2.2.2.2, hk.1.2⟩⟩⟩⟩⟩⟩⟩⟩⟩⟩)))⟩; have n9_ : Aside0 (Kd.V (Kd.int .u32) 79 w350 w.heap.size (fun k_ => k_ ≠ gb704 ∧ k_ ≠ gb713 ∧ k_ ≠ gb722 ∧ k_ ≠ gb728 ∧ k_ ≠ gb733 ∧ k_ ≠ gb745 ∧ k_ ≠ gb750 ∧ k_ ≠ gb755 ∧ k_ ≠ gb766 ∧ k_ ≠ gb771 ∧ k_ ≠ gb777) (.slice Ao245 t767.length co245) t767) := ⟨(by rw [hw]; exact (by exact Kd.V_mono (Kd.V_far (p := ⟨gb777, 0, none⟩) (Kd.V_mono HO_772000.out (fun k_ hk => (⟨hk, hk.2⟩ : _ ∧ k_ ≠ gb777))) (fun _ hk => hk.2) (.slice Ao338 t773.length co338)) (fun _ hk => ⟨hk.1.1.1, ⟨hk.1.1.2.1, ⟨hk.1.1.2.2.1, ⟨hk.1.1.2.2.2.1, ⟨hk.1.1.2.2.2.2.1, ⟨hk.1.1.2.2.2.2.2.1, ⟨hk.1.1.2.2.2.2.2.2.1, ⟨hk.1.1.2.2.2.2.2.2.2.1, ⟨hk.1.1.2.2.2.2.2.2.2.2.1, ⟨hk.1.1.2.2.2.2.2.2.2.2.2, hk.1.2⟩⟩⟩⟩⟩⟩⟩⟩⟩⟩)))⟩; have n10_ : Aside0 (Kd.V (Kd.int .u32) 79 w350 w.heap.size (fun k_ => k_ ≠ gb704 ∧ k_ ≠ gb713 ∧ k_ ≠ gb722 ∧ k_ ≠ gb728 ∧ k_ ≠ gb733 ∧ k_ ≠ gb745 ∧ k_ ≠ gb750 ∧ k_ ≠ gb755 ∧ k_ ≠ gb766 ∧ k_ ≠ gb771 ∧ k_ ≠ gb777) (.slice Ao338 t773.length co338) t773) := ⟨(by rw [hw]; exact (by exact Kd.V_mono (Kd.V_far (p := ⟨gb777, 0, none⟩) (Kd.V_mono HO775.out (fun k_ hk => (⟨hk, hk.2⟩ : _ ∧ k_ ≠ gb777))) (fun _ hk => hk.2) (.slice Ao338 t773.length co338)) (fun _ hk => ⟨hk.1.1.1, ⟨hk.1.1.2.1, ⟨hk.1.1.2.2.1, ⟨hk.1.1.2.2.2.1, ⟨hk.1.1.2.2.2.2.1, ⟨hk.1.1.2.2.2.2.2.1, ⟨hk.1.1.2.2.2.2.2.2.1, ⟨hk.1.1.2.2.2.2.2.2.2.1, ⟨hk.1.1.2.2.2.2.2.2.2.2.1, ⟨hk.1.1.2.2.2.2.2.2.2.2.2, hk.1.2⟩⟩⟩⟩⟩⟩⟩⟩⟩⟩)))⟩; have n11_ : Aside0 (w350.heap[gb704]? = some (.cells #[.slice Ao10 t699.length co10] 26 (0, 0))) := ⟨(by rw [hw]; exact (by refine blk_far ?_ NB704_777.out _; exact BK704.out))⟩; have n12_ : Aside0 (w350.heap[gb713]? = some (.cells #[.slice Ao14 t708.length co14] 26 (0, 0))) := ⟨(by rw [hw]; exact (by refine blk_far ?_ NB713_777.out _; exact BK713.out))⟩; have n13_ : Aside0 (w350.heap[gb722]? = some (.cells #[.slice Ao19 t717.length co19] 26 (0, 0))) := ⟨(by rw [hw]; exact (by refine blk_far ?_ NB722_777.out _; exact BK722.out))⟩; have n14_ : Aside0 (w350.heap[gb728]? = some (.cells #[.slice Ao42 t724.length co42] 26 (0, 0))) := ⟨(by rw [hw]; exact (by refine blk_far ?_ NB728_777.out _; exact BK728.out))⟩; have n15_ : Aside0 (w350.heap[gb733]? = some (.cells #[.slice Ao51 t729.length co51] 26 (0, 0))) := ⟨(by rw [hw]; exact (by refine blk_far ?_ NB733_777.out _; exact BK733.out))⟩; have n16_ : Aside0 (w350.heap[gb745]? = some (.cells #[.slice Ao122 t741.length co122] 26 (0, 0))) := ⟨(by rw [hw]; exact (by refine blk_far ?_ NB745_777.out _; exact BK745.out))⟩; have n17_ : Aside0 (w350.heap[gb750]? = some (.cells #[.slice Ao135 t746.length co135] 26 (0, 0))) := ⟨(by rw [hw]; exact (by refine blk_far ?_ NB750_777.out _; exact BK750.out))⟩; have n18_ : Aside0 (w350.heap[gb755]? = some (.cells #[.slice Ao148 t751.length co148] 26 (0, 0))) := ⟨(by rw [hw]; exact (by refine blk_far ?_ NB755_777.out _; exact BK755.out))⟩; have n19_ : Aside0 (w350.heap[gb766]? = some (.cells #[.slice Ao231 t762.length co231] 26 (0, 0))) := ⟨(by rw [hw]; exact (by refine blk_far ?_ NB766_777.out _; exact BK766.out))⟩; have n20_ : Aside0 (w350.heap[gb771]? = some (.cells #[.slice Ao245 t767.length co245] 26 (0, 0))) := ⟨(by rw [hw]; exact (by refine blk_far ?_ NB771_777.out _; exact BK771.out))⟩; have n21_ : Aside0 (w350.heap[gb777]? = some (.cells #[.slice Ao338 t773.length co338] 26 (0, 0))) := ⟨(by rw [hw]; exact (by refine blk_put (cs := #[.slice none 0 0]) ?_ 0 _ rfl; exact BK777.out))⟩; have n22_ : Aside0 (Below w.heap.size w w350) := ⟨(by rw [hw]; exact (by repeat (first | exact HB.out | refine sb ?_ GE704 | refine sb ?_ GE713 | refine sb ?_ GE722 | refine sb ?_ GE728 | refine sb ?_ GE733 | refine sb ?_ GE745 | refine sb ?_ GE750 | refine sb ?_ GE755 | refine sb ?_ GE766 | refine sb ?_ GE771 | refine sb ?_ GE777)))⟩; clear hw; clear HO_705000; clear HO_714000; clear HO_723000; clear HO_729000; clear HO_734000; clear HO_746000; clear HO_751000; clear HO_756000; clear HO_767000; clear HO_772000; clear HO775; clear BK704; clear BK713; clear BK722; clear BK728; clear BK733; clear BK745; clear BK750; clear BK755; clear BK766; clear BK771; clear BK777; clear HB; have HO_705000 := n0_; have HO_714000 := n1_; have HO_723000 := n2_; have HO_729000 := n3_; have HO_734000 := n4_; have HO_746000 := n5_; have HO_751000 := n6_; have HO_756000 := n7_; have HO_767000 := n8_; have HO_772000 := n9_; have HO775 := n10_; have BK704 := n11_; have BK713 := n12_; have BK722 := n13_; have BK728 := n14_; have BK733 := n15_; have BK745 := n16_; have BK750 := n17_; have BK755 := n18_; have BK766 := n19_; have BK771 := n20_; have BK777 := n21_; have HB := n22_; clear n0_ n1_ n2_ n3_ n4_ n5_ n6_ n7_ n8_ n9_ n10_ n11_ n12_ n13_ n14_ n15_ n16_ n17_ n18_ n19_ n20_ n21_ n22_; have hcz351_0 : w350.cell? ⟨gb704, 0, none⟩ = some (.slice Ao10 t699.length co10) := (blk_cell BK704.out 0).trans rfl; have hfz351_0 := blk_frozen BK704.out 0) | ((with_reducible refine gate_callee (f := 38) rfl ?_); refine goesL_ (some 181) rfl rfl Tryd.func38 (by kernel_rfl) rfl #[.agg #[.slice Ao10 t699.length co10], .int .i64 2] rfl (by (try simp only [List.map_toArray, List.map_cons, List.map_nil]); first | done | rfl | (simp only [List.length_drop, List.length_take]; rfl)) ?_; (with_reducible refine (nat_Nat_Power.calls kj212 (fun k_ => (k_ ≠ gb704 ∧ (k_ ≠ gb713 ∧ (k_ ≠ gb722 ∧ (k_ ≠ gb728 ∧ (k_ ≠ gb733 ∧ (k_ ≠ gb745 ∧ (k_ ≠ gb750 ∧ (k_ ≠ gb755 ∧ (k_ ≠ gb766 ∧ (k_ ≠ gb771 ∧ k_ ≠ gb777))))))))))) _ _ t699 2 t778 t781 _ ?side1 A280.out).mono ?_); (case side1 => exact HO_705000.out); rintro e w352 ⟨v779, rfl, ho0, hb⟩; refine ⟨_, rfl, ?_⟩; have HO780 := Aside0.mk (Kd.V_lower (Kd.V_mono (ok' := fun k_ => k_ ≠ gb704 ∧ k_ ≠ gb713 ∧ k_ ≠ gb722 ∧ k_ ≠ gb728 ∧ k_ ≠ gb733 ∧ k_ ≠ gb745 ∧ k_ ≠ gb750 ∧ k_ ≠ gb755 ∧ k_ ≠ gb766 ∧ k_ ≠ gb771 ∧ k_ ≠ gb777) ho0 (fun k_ hk_ => ⟨Or.elim hk_ (fun hs_ => hs_.1) (fun hn_ => (Kd.freshB (g := gb704) (o := .cells #[.slice Ao10 t699.length co10] 26 (0, 0)) BK704.out k_ hn_)), Or.elim hk_ (fun hs_ => hs_.2.1) (fun hn_ => (Kd.freshB (g := gb713) (o := .cells #[.slice Ao14 t708.length co14] 26 (0, 0)) BK713.out k_ hn_)), Or.elim hk_ (fun hs_ => hs_.2.2.1) (fun hn_ => (Kd.freshB (g := gb722) (o := .cells #[.slice Ao19 t717.length co19] 26 (0, 0)) BK722.out k_ hn_)), Or.elim hk_ (fun hs_ => hs_.2.2.2.1) (fun hn_ => (Kd.freshB (g := gb728) (o := .cells #[.slice Ao42 t724.length co42] 26 (0, 0)) BK728.out k_ hn_)), Or.elim hk_ (fun hs_ => hs_.2.2.2.2.1) (fun hn_ => (Kd.freshB (g := gb733) (o := .cells #[.slice Ao51 t729.length co51] 26 (0, 0)) BK733.out k_ hn_)), Or.elim hk_ (fun hs_ => hs_.2.2.2.2.2.1) (fun hn_ => (Kd.freshB (g := gb745) (o := .cells #[.slice Ao122 t741.length co122] 26 (0, 0)) BK745.out k_ hn_)), Or.elim hk_ (fun hs_ => hs_.2.2.2.2.2.2.1) (fun hn_ => (Kd.freshB (g := gb750) (o := .cells #[.slice Ao135 t746.length co135] 26 (0, 0)) BK750.out k_ hn_)), Or.elim hk_ (fun hs_ => hs_.2.2.2.2.2.2.2.1) (fun hn_ => (Kd.freshB (g := gb755) (o := .cells #[.slice Ao148 t751.length co148] 26 (0, 0)) BK755.out k_ hn_)), Or.elim hk_ (fun hs_ => hs_.2.2.2.2.2.2.2.2.1) (fun hn_ => (Kd.freshB (g := gb766) (o := .cells #[.slice Ao231 t762.length co231] 26 (0, 0)) BK766.out k_ hn_)), Or.elim hk_ (fun hs_ => hs_.2.2.2.2.2.2.2.2.2.1) (fun hn_ => (Kd.freshB (g := gb771) (o := .cells #[.slice Ao245 t767.length co245] 26 (0, 0)) BK771.out k_ hn_)), Or.elim hk_ (fun hs_ => hs_.2.2.2.2.2.2.2.2.2.2) (fun hn_ => (Kd.freshB (g := gb777) (o := .cells #[.slice Ao338 t773.length co338] 26 (0, 0)) BK777.out k_ hn_))⟩)) (below_size (by repeat (first | exact HB.out | refine sb ?_ GE704 | refine sb ?_ GE713 | refine sb ?_ GE722 | refine sb ?_ GE728 | refine sb ?_ GE733 | refine sb ?_ GE745 | refine sb ?_ GE750 | refine sb ?_ GE755 | refine sb ?_ GE766 | refine sb ?_ GE771 | refine sb ?_ GE777)))); replace HO_705000 := vb HO_705000 hb; replace HO_714000 := vb HO_714000 hb; replace HO_723000 := vb HO_723000 hb; replace HO_729000 := vb HO_729000 hb; replace HO_734000 := vb HO_734000 hb; replace HO_746000 := vb HO_746000 hb; replace HO_751000 := vb HO_751000 hb; replace HO_756000 := vb HO_756000 hb; replace HO_767000 := vb HO_767000 hb; replace HO_772000 := vb HO_772000 hb; replace HO775 := vb HO775 hb; replace BK704 := bb BK704 hb; replace BK713 := bb BK713 hb; replace BK722 := bb BK722 hb; replace BK728 := bb BK728 hb; replace BK733 := bb BK733 hb; replace BK745 := bb BK745 hb; replace BK750 := bb BK750 hb; replace BK755 := bb BK755 hb; replace BK766 := bb BK766 hb; replace BK771 := bb BK771 hb; replace BK777 := bb BK777 hb; replace HB := Aside0.mk (below_step (by repeat (first | exact HB.out | refine sb ?_ GE704 | refine sb ?_ GE713 | refine sb ?_ GE722 | refine sb ?_ GE728 | refine sb ?_ GE733 | refine sb ?_ GE745 | refine sb ?_ GE750 | refine sb ?_ GE755 | refine sb ?_ GE766 | refine sb ?_ GE771 | refine sb ?_ GE777)) hb); (try clear hb); (try clear hk); (try clear hi); (try clear ho0)) | ((with_reducible refine gate_dst (N := 36) rfl ?_); refine box_event ?hg (N := 36) ?hd (cs := #[.slice none 0 0]) (t := 26) ?hr ?_; (case hd => rfl); (case hg => rfl); (case hr => first | (go_simp; done) | (go_simp; rfl)); intro gb782 hg w353 hbox hb; have BK782 := Aside0.mk (hbox); have GW782 := Aside0.mk ((by rw [hg]; exact (below_size (by repeat (first | exact HB.out | refine sb ?_ GE704 | refine sb ?_ GE713 | refine sb ?_ GE722 | refine sb ?_ GE728 | refine sb ?_ GE733 | refine sb ?_ GE745 | refine sb ?_ GE750 | refine sb ?_ GE755 | refine sb ?_ GE766 | refine sb ?_ GE771 | refine sb ?_ GE777))) : w.heap.size ≤ gb782)); have GE782 := Aside0.mk ((by rw [hg]; exact (below_size (by repeat (first | exact HB.out | refine sb ?_ GE704 | refine sb ?_ GE713 | refine sb ?_ GE722 | refine sb ?_ GE728 | refine sb ?_ GE733 | refine sb ?_ GE745 | refine sb ?_ GE750 | refine sb ?_ GE755 | refine sb ?_ GE766 | refine sb ?_ GE771 | refine sb ?_ GE777))) : w.heap.size ≤ gb782)); have NB704_782 := nl BK704 hg; have NB782_704 := ng BK704 hg; have NB713_782 := nl BK713 hg; have NB782_713 := ng BK713 hg; have NB722_782 := nl BK722 hg; have NB782_722 := ng BK722 hg; have NB728_782 := nl BK728 hg; have NB782_728 := ng BK728 hg; have NB733_782 := nl BK733 hg; have NB782_733 := ng BK733 hg; have NB745_782 := nl BK745 hg; have NB782_745 := ng BK745 hg; have NB750_782 := nl BK750 hg; have NB782_750 := ng BK750 hg; have NB755_782 := nl BK755 hg; have NB782_755 := ng BK755 hg; have NB766_782 := nl BK766 hg; have NB782_766 := ng BK766 hg; have NB771_782 := nl BK771 hg; have NB782_771 := ng BK771 hg; have NB777_782 := nl BK777 hg; have NB782_777 := ng BK777 hg; replace HO_705000 := ve HO_705000 gb782 hg hb; replace HO_714000 := ve HO_714000 gb782 hg hb; replace HO_723000 := ve HO_723000 gb782 hg hb; replace HO_729000 := ve HO_729000 gb782 hg hb; replace HO_734000 := ve HO_734000 gb782 hg hb; replace HO_746000 := ve HO_746000 gb782 hg hb; replace HO_751000 := ve HO_751000 gb782 hg hb; replace HO_756000 := ve HO_756000 gb782 hg hb; replace HO_767000 := ve HO_767000 gb782 hg hb; replace HO_772000 := ve HO_772000 gb782 hg hb; replace HO775 := ve HO775 gb782 hg hb; replace HO780 := ve HO780 gb782 hg hb; replace BK704 := bb BK704 hb; replace BK713 := bb BK713 hb; replace BK722 := bb BK722 hb; replace BK728 := bb BK728 hb; replace BK733 := bb BK733 hb; replace BK745 := bb BK745 hb; replace BK750 := bb BK750 hb; replace BK755 := bb BK755 hb; replace BK766 := bb BK766 hb; replace BK771 := bb BK771 hb; replace BK777 := bb BK777 hb; replace HB := Aside0.mk (below_step (by repeat (first | exact HB.out | refine sb ?_ GE704 | refine sb ?_ GE713 | refine sb ?_ GE722 | refine sb ?_ GE728 | refine sb ?_ GE733 | refine sb ?_ GE745 | refine sb ?_ GE750 | refine sb ?_ GE755 | refine sb ?_ GE766 | refine sb ?_ GE771 | refine sb ?_ GE777)) hb); clear hb hbox hg; obtain ⟨Ao354, co354, eo354⟩ := Kd.V_slice HO780.out; subst eo354; have hnb355 := NB782_704.out; have hnc355 := NB704_782.out; have hnb356 := NB782_713.out; have hnc356 := NB713_782.out; have hnb357 := NB782_722.out; have hnc357 := NB722_782.out; have hnb358 := NB782_728.out; have hnc358 := NB728_782.out; have hnb359 := NB782_733.out; have hnc359 := NB733_782.out; have hnb360 := NB782_745.out; have hnc360 := NB745_782.out; have hnb361 := NB782_750.out; have hnc361 := NB750_782.out; have hnb362 := NB782_755.out; have hnc362 := NB755_782.out; have hnb363 := NB782_766.out; have hnc363 := NB766_782.out; have hnb364 := NB782_771.out; have hnc364 := NB771_782.out; have hnb365 := NB782_777.out; have hnc365 := NB777_782.out; have hcz366_0 : w353.cell? ⟨gb782, 0, none⟩ = some (.slice none 0 0) := (blk_cell BK782.out 0).trans rfl; have hfz366_0 := blk_frozen BK782.out 0))
                  go_ret
                  exact ⟨by first | rfl | (simp [errW_none, errW_some] <;> rfl) | (simp [*, errW_none, errW_some] <;> rfl), by repeat (first | exact HB.out | refine sb ?_ GE704 | refine sb ?_ GE713 | refine sb ?_ GE722 | refine sb ?_ GE728 | refine sb ?_ GE733 | refine sb ?_ GE745 | refine sb ?_ GE750 | refine sb ?_ GE755 | refine sb ?_ GE766 | refine sb ?_ GE771 | refine sb ?_ GE777 | refine sb ?_ GE782)⟩
end Go.Proofs.YtgcngbmkgjphpaaDoor.PAll
end
