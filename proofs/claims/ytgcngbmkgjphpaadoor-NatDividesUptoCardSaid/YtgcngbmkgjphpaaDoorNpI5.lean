/- Texts of this session and printed texts, merged, what is not needed left out: PAllx39. -/
import Derived.Test.YtgcngbmkgjphpaaDoorNpI0
import Derived.Test.YtgcngbmkgjphpaaDoorNpI1
import Derived.Test.YtgcngbmkgjphpaaDoorNpI2
import Derived.Test.YtgcngbmkgjphpaaDoorNpI3
import Derived.Test.YtgcngbmkgjphpaaDoorNpI4
section
namespace Go.Proofs.YtgcngbmkgjphpaaDoor.PAll
open Go.RowKit Go.Proofs.YtgcngbmkgjphpaaDoorW.PrintWords Go.Proofs.YtgcngbmkgjphpaaDoorW.PrintLast Go.Proofs.YtgcngbmkgjphpaaDoorW.PrintMore
attribute [local go_sem] max2_int min2_int max_two min_two max_three min_three max_four min_four   -- for this text's walks alone
set_option linter.unusedVariables false
set_option linter.unusedSimpArgs false
mutual
def heraldlaw04_NatDivides.j0 : Nat → Int → Bool → List Int → List Int → Option (Bool)
 | 0, _, _, _, _ => none
 | k + 1, x2, x53, x911000, x920000 => if x53 = true then (some false) else ((nat_Nat_Bits.f x920000).bind fun t921 => (if t921 > 0 then ((nat_Nat_Div.f k x911000 x920000).bind fun bt922 => ((nat_Nat_Mul.f k bt922.1 x920000).bind fun bt931 => ((nat_Nat_Add.f k bt931.1 bt922.2.1).bind fun bt936 => (if bt922.2.2 = 0 then (if bt931.2 = 0 then (if bt936.2 = 0 then ((nat_Nat_Compare.f k bt936.1 x911000).bind fun t941 => (if t941 = 0 then ((nat_Nat_Compare.f k bt922.2.1 x920000).bind fun t942 => (heraldlaw04_NatDivides.j1 k x2 (decide (t942 ≥ 0)) x911000)) else (heraldlaw04_NatDivides.j1 k x2 true x911000))) else (heraldlaw04_NatDivides.j1 k x2 true x911000)) else (heraldlaw04_NatDivides.j1 k x2 true x911000)) else (heraldlaw04_NatDivides.j1 k x2 true x911000))))) else (heraldlaw04_NatDivides.j2 k x2 x911000)))
def heraldlaw04_NatDivides.j2 : Nat → Int → List Int → Option (Bool)
 | 0, _, _ => none
 | k + 1, x2, x911000 => if x2 < 0 then (heraldlaw04_NatDivides.j3 k x2 true x911000) else ((nat_Nat_Bits.f x911000).bind fun t943 => (heraldlaw04_NatDivides.j3 k x2 (decide (x2 > (wrap64 (65536 - t943)))) x911000))
def heraldlaw04_NatDivides.j3 : Nat → Int → Bool → List Int → Option (Bool)
 | 0, _, _, _ => none
 | k + 1, x2, x106, x911000 => if x106 = true then (some true) else ((nat_Nat_Up.f k x911000 x2).bind fun bt944 => ((nat_Nat_Down.f k bt944.1 x2).bind fun bt949 => ((nat_Of.f k 2).bind fun bt954 => (if bt944.2 = 0 then (if bt949.2 = 0 then (if bt954.2 = 0 then ((nat_Nat_Compare.f k bt949.1 x911000).bind fun t959 => (if t959 = 0 then ((nat_Nat_Bits.f x911000).bind fun t960 => (if t960 > 0 then ((nat_Nat_Bits.f bt944.1).bind fun t961 => ((nat_Nat_Bits.f x911000).bind fun t962 => (heraldlaw04_NatDivides.j4 k x2 (t961 != (wrap64 (t962 + x2))) x911000 bt944.1 bt954.1))) else (heraldlaw04_NatDivides.j4 k x2 false x911000 bt944.1 bt954.1))) else (heraldlaw04_NatDivides.j4 k x2 true x911000 bt944.1 bt954.1))) else (heraldlaw04_NatDivides.j4 k x2 true x911000 bt944.1 bt954.1)) else (heraldlaw04_NatDivides.j4 k x2 true x911000 bt944.1 bt954.1)) else (heraldlaw04_NatDivides.j4 k x2 true x911000 bt944.1 bt954.1)))))
def heraldlaw04_NatDivides.j4 : Nat → Int → Bool → List Int → List Int → List Int → Option (Bool)
 | 0, _, _, _, _, _ => none
 | k + 1, x2, x152, x911000, x949000, x959000 => if x152 = true then (some false) else (if x2 ≥ 65536 then (some true) else ((nat_Nat_Power.f k x959000 x2).bind fun bt963 => ((nat_Nat_Mul.f k x911000 bt963.1).bind fun bt968 => (if bt963.2 = 0 then (if bt968.2 = 0 then ((nat_Nat_Compare.f k bt968.1 x949000).bind fun t973 => (some (t973 == 0))) else (some false)) else (some false)))))
def heraldlaw04_NatDivides.j1 : Nat → Int → Bool → List Int → Option (Bool)
 | 0, _, _, _ => none
 | k + 1, x2, x97, x911000 => if x97 = true then (some false) else (heraldlaw04_NatDivides.j2 k x2 x911000)
end
def heraldlaw04_NatDivides.f (k : Nat) (l0 : List Int) (l1 : List Int) (a2 : Int) : Option (Bool) := (heraldlaw04_given.f k l0).bind fun bt902 => ((heraldlaw04_given.f k l1).bind fun bt911 => ((heraldlaw04_awake.f k).bind fun t920 => (if t920 = true then (if bt902.2.2.2 = true then (heraldlaw04_NatDivides.j0 k a2 (!bt911.2.2.2) bt902.2.1 bt911.2.1) else (heraldlaw04_NatDivides.j0 k a2 true bt902.2.1 bt911.2.1)) else (heraldlaw04_NatDivides.j0 k a2 true bt902.2.1 bt911.2.1))))
def heraldlaw04_NatDivides.T16 : Bool × List (List Nat × List Nat) := (true, [([], []), ([0], [0]), ([1], [1]), ([2], [2]), ([3, 2], [2, 3]), ([2, 4], [2, 4]), ([5, 2], [5]), ([6], [6]), ([7, 6], [6, 7]), ([6, 8], [6, 8]), ([9, 6], [9]), ([10], [10]), ([10], [10]), ([11, 12, 10, 10], [10, 11, 12]), ([13, 10], [10, 13]), ([10, 14], [10, 14]), ([15, 13], [15]), ([16], [16]), ([17, 16, 16], [16, 17]), ([18, 16], [16, 18]), ([19, 18, 16], [16, 19]), ([20], [20]), ([21, 20, 20], [20, 21]), ([20], [20]), ([23, 22, 20], [20, 23]), ([20], [20]), ([24, 25, 20], [20, 24, 25]), ([22, 26, 20], [20, 22, 26]), ([20, 27, 16], [16, 20, 27]), ([16, 28], [16, 28])])
def heraldlaw04_NatDivides.B16 : List Nat := [0, 1, 3, 7, 15, 31, 63, 127, 255, 511, 1023, 2047, 2047, 8191, 16383, 32767, 65535, 131071, 262143, 524287, 1048575, 2097151, 4194303, 2097151, 16777215, 2097151, 67108863, 134217727, 268435455, 536870911]
theorem heraldlaw04_NatDivides.tab16 : rtab .any (opsOf Tryd.f11 16) = heraldlaw04_NatDivides.T16 := by kernel_rfl
theorem heraldlaw04_NatDivides.bits16 : waitsOk heraldlaw04_NatDivides.T16.2 heraldlaw04_NatDivides.B16 = true := by kernel_rfl
set_option maxHeartbeats 8000000 in
set_option maxRecDepth 100000 in
theorem heraldlaw04_NatDivides.calls (k : Nat) (A0 : Option Addr) (c0 : Nat) (l0 : List Int) (A1 : Option Addr) (c1 : Nat) (l1 : List Int) (a2 : Int) (r : Bool) (w : World) (hr0 : Kd.C (Kd.int .u32) w A0 l0.length l0) (hc0 : l0.length ≤ c0) (hr1 : Kd.C (Kd.int .u32) w A1 l1.length l1) (hc1 : l1.length ≤ c1) (h : heraldlaw04_NatDivides.f k l0 l1 a2 = some r) :
  Calls Tryd.prog 11 #[.slice A0 l0.length c0, .slice A1 l1.length c1, .int .i64 a2] w fun e w' => e = .returned (.bool r) ∧ Below w.heap.size w w' := by
 have hu26 := Tryd.underlying26
 have HR0 := Aside0.mk hr0
 have HC0 := Aside0.mk hc0
 clear hr0 hc0
 have HR1 := Aside0.mk hr1
 have HC1 := Aside0.mk hc1
 clear hr1 hc1
 have HB := Aside0.mk (Below.refl w.heap.size w)
 have H : ((heraldlaw04_given.f k l0).bind fun bt902 => ((heraldlaw04_given.f k l1).bind fun bt911 => ((heraldlaw04_awake.f k).bind fun t920 => (if t920 = true then (if bt902.2.2.2 = true then (heraldlaw04_NatDivides.j0 k a2 (!bt911.2.2.2) bt902.2.1 bt911.2.1) else (heraldlaw04_NatDivides.j0 k a2 true bt902.2.1 bt911.2.1)) else (heraldlaw04_NatDivides.j0 k a2 true bt902.2.1 bt911.2.1))))) = some r := h
 clear h
 replace H := Option.bind_eq_some_iff.mp H
 obtain ⟨⟨t902, t905, t908, t909⟩, A40, H⟩ := H
 replace H : ((heraldlaw04_given.f k l1).bind fun bt911 => ((heraldlaw04_awake.f k).bind fun t920 => (if t920 = true then (if t909 = true then (heraldlaw04_NatDivides.j0 k a2 (!bt911.2.2.2) t905 bt911.2.1) else (heraldlaw04_NatDivides.j0 k a2 true t905 bt911.2.1)) else (heraldlaw04_NatDivides.j0 k a2 true t905 bt911.2.1)))) = some r := H
 have A4 := Aside0.mk A40
 clear A40
 replace H := Option.bind_eq_some_iff.mp H
 obtain ⟨⟨t911, t914, t917, t918⟩, A50, H⟩ := H
 replace H : ((heraldlaw04_awake.f k).bind fun t920 => (if t920 = true then (if t909 = true then (heraldlaw04_NatDivides.j0 k a2 (!t918) t905 t914) else (heraldlaw04_NatDivides.j0 k a2 true t905 t914)) else (heraldlaw04_NatDivides.j0 k a2 true t905 t914))) = some r := H
 have A5 := Aside0.mk A50
 clear A50
 have HC6 := Aside0.mk H
 clear H
 go_enter Tryd.func11, Tryd.ntmps11
 go_upto_region 3 with (first | ((with_reducible refine gate_callee (f := 21) rfl ?_); refine goesL_ (some 32) rfl rfl Tryd.func21 (by kernel_rfl) rfl #[.slice A0 l0.length c0] rfl (by (try simp only [List.map_toArray, List.map_cons, List.map_nil]); first | done | rfl | (simp only [List.length_drop, List.length_take]; rfl)) ?_; (with_reducible refine (heraldlaw04_given.calls k _ _ l0 t902 t905 t908 t909 _ ?side1 ?side2 A4.out).mono ?_); (case side1 => exact HR0.out); (case side2 => exact HC0.out); rintro e w7 ⟨v903, v906, rfl, ho0, ho1, hb⟩; refine ⟨_, rfl, ?_⟩; have HO904 := Aside0.mk (Kd.V_lower (Kd.V_mono (ok' := fun k_ => True) ho0 (fun k_ hk_ => trivial)) (below_size HB.out)); have HO907 := Aside0.mk (Kd.V_lower (Kd.V_mono (ok' := fun k_ => True) ho1 (fun k_ hk_ => trivial)) (below_size HB.out)); replace HB := Aside0.mk (below_step HB.out hb); (try clear hb); (try clear hk); (try clear hi); (try clear ho0); (try clear ho1)) | ((with_reducible refine gate_dst (N := 8) rfl ?_); refine box_event ?hg (N := 8) ?hd (cs := #[.slice none 0 0]) (t := 26) ?hr ?_; (case hd => rfl); (case hg => rfl); (case hr => first | (go_simp; done) | (go_simp; rfl)); intro gb910 hg w8 hbox hb; have BK910 := Aside0.mk (hbox); have GW910 := Aside0.mk ((by rw [hg]; exact (below_size HB.out) : w.heap.size ≤ gb910)); have GE910 := Aside0.mk ((by rw [hg]; exact (below_size HB.out) : w.heap.size ≤ gb910)); replace HO904 := ve HO904 gb910 hg hb; replace HO907 := ve HO907 gb910 hg hb; replace HB := Aside0.mk (below_step HB.out hb); clear hb hbox hg; obtain ⟨Ao9, co9, eo9⟩ := Kd.V_slice HO907.out; subst eo9; have hcz10_0 : w8.cell? ⟨gb910, 0, none⟩ = some (.slice none 0 0) := (blk_cell BK910.out 0).trans rfl; have hfz10_0 := blk_frozen BK910.out 0) | ((with_reducible refine gate_callee (f := 21) rfl ?_); refine goesL_ (some 39) rfl rfl Tryd.func21 (by kernel_rfl) rfl #[.slice A1 l1.length c1] rfl (by (try simp only [List.map_toArray, List.map_cons, List.map_nil]); first | done | rfl | (simp only [List.length_drop, List.length_take]; rfl)) ?_; (with_reducible refine (heraldlaw04_given.calls k _ _ l1 t911 t914 t917 t918 _ ?side1 ?side2 A5.out).mono ?_); (case side1 => exact Kd.C_below HR1.out (by repeat (first | exact HB.out | refine sb ?_ GE910))); (case side2 => exact HC1.out); rintro e w11 ⟨v912, v915, rfl, ho0, ho1, hb⟩; refine ⟨_, rfl, ?_⟩; have HO913 := Aside0.mk (Kd.V_lower (Kd.V_mono (ok' := fun k_ => k_ ≠ gb910) ho0 (fun k_ hk_ => (Kd.freshB (g := gb910) (o := .cells #[.slice Ao9 t905.length co9] 26 (0, 0)) (by refine blk_put (cs := #[.slice none 0 0]) ?_ 0 _ rfl; exact BK910.out) k_ hk_))) (below_size (by repeat (first | exact HB.out | refine sb ?_ GE910)))); have HO916 := Aside0.mk (Kd.V_lower (Kd.V_mono (ok' := fun k_ => k_ ≠ gb910) ho1 (fun k_ hk_ => (Kd.freshB (g := gb910) (o := .cells #[.slice Ao9 t905.length co9] 26 (0, 0)) (by refine blk_put (cs := #[.slice none 0 0]) ?_ 0 _ rfl; exact BK910.out) k_ hk_))) (below_size (by repeat (first | exact HB.out | refine sb ?_ GE910)))); replace HO904 := vf HO904 (fun k_ hk => hk.2) hb; replace HO907 := vf HO907 (fun k_ hk => hk.2) hb; replace BK910 := Aside0.mk (blk_below (g := gb910) (o := .cells #[.slice Ao9 t905.length co9] 26 (0, 0)) (by refine blk_put (cs := #[.slice none 0 0]) ?_ 0 _ rfl; exact BK910.out) hb); replace HB := Aside0.mk (below_step (by repeat (first | exact HB.out | refine sb ?_ GE910)) hb); (try clear hb); (try clear hk); (try clear hi); (try clear ho0); (try clear ho1)) | ((with_reducible refine gate_dst (N := 12) rfl ?_); refine box_event ?hg (N := 12) ?hd (cs := #[.slice none 0 0]) (t := 26) ?hr ?_; (case hd => rfl); (case hg => rfl); (case hr => first | (go_simp; done) | (go_simp; rfl)); intro gb919 hg w12 hbox hb; have BK919 := Aside0.mk (hbox); have GW919 := Aside0.mk ((by rw [hg]; exact (below_size (by repeat (first | exact HB.out | refine sb ?_ GE910))) : w.heap.size ≤ gb919)); have GE919 := Aside0.mk ((by rw [hg]; exact (below_size (by repeat (first | exact HB.out | refine sb ?_ GE910))) : w.heap.size ≤ gb919)); have NB910_919 := nl BK910 hg; have NB919_910 := ng BK910 hg; replace HO904 := ve HO904 gb919 hg hb; replace HO907 := ve HO907 gb919 hg hb; replace HO913 := ve HO913 gb919 hg hb; replace HO916 := ve HO916 gb919 hg hb; replace BK910 := bb BK910 hb; replace HB := Aside0.mk (below_step (by repeat (first | exact HB.out | refine sb ?_ GE910)) hb); clear hb hbox hg; obtain ⟨Ao13, co13, eo13⟩ := Kd.V_slice HO916.out; subst eo13; have hnb14 := NB919_910.out; have hnc14 := NB910_919.out; have hcz15_0 : w12.cell? ⟨gb919, 0, none⟩ = some (.slice none 0 0) := (blk_cell BK919.out 0).trans rfl; have hfz15_0 := blk_frozen BK919.out 0))
 (try simp only [Act.put, List.setIfInBounds_toArray, List.set_cons_zero, List.set_cons_succ])
 go_cut [53] (fun v53 wc => ∃ (kq : Nat) (x53_5 : Bool), v53 = .bool x53_5 ∧ Aside0 (heraldlaw04_NatDivides.j0 kq a2 x53_5 t905 t914 = some r) ∧ Aside0 (kq ≤ k) ∧ Aside0 (Kd.V (Kd.int .u32) 79 wc w.heap.size (fun k_ => k_ ≠ gb910 ∧ k_ ≠ gb919) (.slice Ao9 t905.length co9) t905) ∧ Aside0 (Kd.V (Kd.int .u32) 79 wc w.heap.size (fun k_ => k_ ≠ gb910 ∧ k_ ≠ gb919) (.slice Ao13 t914.length co13) t914) ∧ Aside0 (wc.heap[gb910]? = some (.cells #[(.slice Ao9 t905.length co9)] 26 (0, 0))) ∧ Aside0 (wc.heap[gb919]? = some (.cells #[(.slice Ao13 t914.length co13)] 26 (0, 0))) ∧ Aside0 (Below w.heap.size w wc))
 case first =>
  have H := HC6.out
  clear HC6
  replace H := Option.bind_eq_some_iff.mp H
  obtain ⟨t920, A160, H⟩ := H
  replace H : (if t920 = true then (if t909 = true then (heraldlaw04_NatDivides.j0 k a2 (!t918) t905 t914) else (heraldlaw04_NatDivides.j0 k a2 true t905 t914)) else (heraldlaw04_NatDivides.j0 k a2 true t905 t914)) = some r := H
  have A16 := Aside0.mk A160
  clear A160
  by_cases c17 : t920 = true
  ·subst c17
   have H1 : (if t909 = true then (heraldlaw04_NatDivides.j0 k a2 (!t918) t905 t914) else (heraldlaw04_NatDivides.j0 k a2 true t905 t914)) = some r := by rw [if_pos rfl] at H; exact H
   clear H
   have H := H1
   clear H1
   by_cases c18 : t909 = true
   ·subst c18
    have H1 : (heraldlaw04_NatDivides.j0 k a2 (!t918) t905 t914) = some r := by rw [if_pos rfl] at H; exact H
    clear H
    have H := H1
    clear H1
    as_aux_lemma =>
     have H' := Aside0.mk H
     clear H
     go_wp2_with (first | ((with_reducible refine gate_callee (f := 12) rfl ?_); refine goesL_ (some 44) rfl rfl Tryd.func12 (by kernel_rfl) rfl #[] rfl (by (try simp only [List.map_toArray, List.map_cons, List.map_nil]); first | done | rfl | (simp only [List.length_drop, List.length_take]; rfl)) ?_; (with_reducible refine (heraldlaw04_awake.calls k  true _ A16.out).mono ?_); rintro e w19 ⟨rfl, hb⟩; refine ⟨_, rfl, ?_⟩; replace HO904 := vf HO904 (fun k_ hk => hk.2) hb; replace HO907 := vf HO907 (fun k_ hk => hk.2) hb; replace HO913 := vf HO913 (fun k_ hk => hk.2) hb; replace HO916 := vf HO916 (fun k_ hk => hk.2) hb; replace BK910 := bf BK910 NB910_919 hb; replace BK919 := Aside0.mk (blk_below (g := gb919) (o := .cells #[.slice Ao13 t914.length co13] 26 (0, 0)) (by refine blk_put (cs := #[.slice none 0 0]) ?_ 0 _ rfl; exact BK919.out) hb); replace HB := Aside0.mk (below_step (by repeat (first | exact HB.out | refine sb ?_ GE910 | refine sb ?_ GE919)) hb); (try clear hb); (try clear hb2); (try clear hk); (try clear hi)))
     go_meet
     case rel => exact ⟨_, (!t918), (by first | rfl | (simp; done) | (simp [*]; done) | (simp [i64_w]; done) | (simp [*, i64_w]; done)), H', ⟨by first | omega | exact Nat.le_refl _⟩, ⟨by exact Kd.V_mono HO907.out (fun _ hk => ⟨hk.1.2, hk.2⟩)⟩, ⟨by exact HO916.out⟩, ⟨by exact BK910.out⟩, ⟨by exact BK919.out⟩, ⟨by repeat (first | exact HB.out | refine sb ?_ GE910 | refine sb ?_ GE919)⟩⟩
   ·replace c18 := Bool.eq_false_iff.mpr c18
    subst c18
    have H1 : (heraldlaw04_NatDivides.j0 k a2 true t905 t914) = some r := by rw [if_neg (show ¬ (false = true) by decide)] at H; exact H
    clear H
    have H := H1
    clear H1
    as_aux_lemma =>
     have H' := Aside0.mk H
     clear H
     go_wp2_with (first | ((with_reducible refine gate_callee (f := 12) rfl ?_); refine goesL_ (some 44) rfl rfl Tryd.func12 (by kernel_rfl) rfl #[] rfl (by (try simp only [List.map_toArray, List.map_cons, List.map_nil]); first | done | rfl | (simp only [List.length_drop, List.length_take]; rfl)) ?_; (with_reducible refine (heraldlaw04_awake.calls k  true _ A16.out).mono ?_); rintro e w20 ⟨rfl, hb⟩; refine ⟨_, rfl, ?_⟩; replace HO904 := vf HO904 (fun k_ hk => hk.2) hb; replace HO907 := vf HO907 (fun k_ hk => hk.2) hb; replace HO913 := vf HO913 (fun k_ hk => hk.2) hb; replace HO916 := vf HO916 (fun k_ hk => hk.2) hb; replace BK910 := bf BK910 NB910_919 hb; replace BK919 := Aside0.mk (blk_below (g := gb919) (o := .cells #[.slice Ao13 t914.length co13] 26 (0, 0)) (by refine blk_put (cs := #[.slice none 0 0]) ?_ 0 _ rfl; exact BK919.out) hb); replace HB := Aside0.mk (below_step (by repeat (first | exact HB.out | refine sb ?_ GE910 | refine sb ?_ GE919)) hb); (try clear hb); (try clear hb2); (try clear hk); (try clear hi)))
     go_meet
     case rel => exact ⟨_, (true), (by first | rfl | (simp; done) | (simp [*]; done) | (simp [i64_w]; done) | (simp [*, i64_w]; done)), H', ⟨by first | omega | exact Nat.le_refl _⟩, ⟨by exact Kd.V_mono HO907.out (fun _ hk => ⟨hk.1.2, hk.2⟩)⟩, ⟨by exact HO916.out⟩, ⟨by exact BK910.out⟩, ⟨by exact BK919.out⟩, ⟨by repeat (first | exact HB.out | refine sb ?_ GE910 | refine sb ?_ GE919)⟩⟩
  ·replace c17 := Bool.eq_false_iff.mpr c17
   subst c17
   have H1 : (heraldlaw04_NatDivides.j0 k a2 true t905 t914) = some r := by rw [if_neg (show ¬ (false = true) by decide)] at H; exact H
   clear H
   have H := H1
   clear H1
   as_aux_lemma =>
    have H' := Aside0.mk H
    clear H
    go_wp2_with (first | ((with_reducible refine gate_callee (f := 12) rfl ?_); refine goesL_ (some 44) rfl rfl Tryd.func12 (by kernel_rfl) rfl #[] rfl (by (try simp only [List.map_toArray, List.map_cons, List.map_nil]); first | done | rfl | (simp only [List.length_drop, List.length_take]; rfl)) ?_; (with_reducible refine (heraldlaw04_awake.calls k  false _ A16.out).mono ?_); rintro e w21 ⟨rfl, hb⟩; refine ⟨_, rfl, ?_⟩; replace HO904 := vf HO904 (fun k_ hk => hk.2) hb; replace HO907 := vf HO907 (fun k_ hk => hk.2) hb; replace HO913 := vf HO913 (fun k_ hk => hk.2) hb; replace HO916 := vf HO916 (fun k_ hk => hk.2) hb; replace BK910 := bf BK910 NB910_919 hb; replace BK919 := Aside0.mk (blk_below (g := gb919) (o := .cells #[.slice Ao13 t914.length co13] 26 (0, 0)) (by refine blk_put (cs := #[.slice none 0 0]) ?_ 0 _ rfl; exact BK919.out) hb); replace HB := Aside0.mk (below_step (by repeat (first | exact HB.out | refine sb ?_ GE910 | refine sb ?_ GE919)) hb); (try clear hb); (try clear hb2); (try clear hk); (try clear hi)))
    go_meet
    case rel => exact ⟨_, (true), (by first | rfl | (simp; done) | (simp [*]; done) | (simp [i64_w]; done) | (simp [*, i64_w]; done)), H', ⟨by first | omega | exact Nat.le_refl _⟩, ⟨by exact Kd.V_mono HO907.out (fun _ hk => ⟨hk.1.2, hk.2⟩)⟩, ⟨by exact HO916.out⟩, ⟨by exact BK910.out⟩, ⟨by exact BK919.out⟩, ⟨by repeat (first | exact HB.out | refine sb ?_ GE910 | refine sb ?_ GE919)⟩⟩
 case rest =>
  clear HC6
  try clear c1
  try clear c2
  try clear p2
  try clear c11
  try clear c12
  try clear c14
  try clear c17
  try clear c18
  try clear c21
  try clear hcz10_0
  try clear hcz15_0
  try clear hfz10_0
  try clear hfz15_0
  obtain ⟨kq, x53_5, rfl, HA, HJ5, HO_911000, HO_920000, BK910, BK919, HB⟩ := hcut
  cases kq with
  | zero => exact absurd HA.out (by simp [heraldlaw04_NatDivides.j0])
  | succ kj5 =>
   have H := HA.out
   clear HA
   simp only [heraldlaw04_NatDivides.j0] at H
   by_cases c22 : x53_5 = true
   ·subst c22
    have H1 : (some false) = some r := by rw [if_pos rfl] at H; exact H
    clear H
    have H := H1
    clear H1
    as_aux_lemma =>
     obtain rfl := Option.some.inj H
     go_wp2
     go_ret
     exact ⟨by first | rfl | (simp [errW_none, errW_some] <;> rfl) | (simp [*, errW_none, errW_some] <;> rfl), by repeat (first | exact HB.out | refine sb ?_ GE910 | refine sb ?_ GE919)⟩
   ·replace c22 := Bool.eq_false_iff.mpr c22
    subst c22
    have H1 : ((nat_Nat_Bits.f t914).bind fun t921 => (if t921 > 0 then ((nat_Nat_Div.f kj5 t905 t914).bind fun bt922 => ((nat_Nat_Mul.f kj5 bt922.1 t914).bind fun bt931 => ((nat_Nat_Add.f kj5 bt931.1 bt922.2.1).bind fun bt936 => (if bt922.2.2 = 0 then (if bt931.2 = 0 then (if bt936.2 = 0 then ((nat_Nat_Compare.f kj5 bt936.1 t905).bind fun t941 => (if t941 = 0 then ((nat_Nat_Compare.f kj5 bt922.2.1 t914).bind fun t942 => (heraldlaw04_NatDivides.j1 kj5 a2 (decide (t942 ≥ 0)) t905)) else (heraldlaw04_NatDivides.j1 kj5 a2 true t905))) else (heraldlaw04_NatDivides.j1 kj5 a2 true t905)) else (heraldlaw04_NatDivides.j1 kj5 a2 true t905)) else (heraldlaw04_NatDivides.j1 kj5 a2 true t905))))) else (heraldlaw04_NatDivides.j2 kj5 a2 t905))) = some r := by rw [if_neg (show ¬ (false = true) by decide)] at H; exact H
    clear H
    have H := H1
    clear H1
    replace H := Option.bind_eq_some_iff.mp H
    obtain ⟨t921, A230, H⟩ := H
    replace H : (if t921 > 0 then ((nat_Nat_Div.f kj5 t905 t914).bind fun bt922 => ((nat_Nat_Mul.f kj5 bt922.1 t914).bind fun bt931 => ((nat_Nat_Add.f kj5 bt931.1 bt922.2.1).bind fun bt936 => (if bt922.2.2 = 0 then (if bt931.2 = 0 then (if bt936.2 = 0 then ((nat_Nat_Compare.f kj5 bt936.1 t905).bind fun t941 => (if t941 = 0 then ((nat_Nat_Compare.f kj5 bt922.2.1 t914).bind fun t942 => (heraldlaw04_NatDivides.j1 kj5 a2 (decide (t942 ≥ 0)) t905)) else (heraldlaw04_NatDivides.j1 kj5 a2 true t905))) else (heraldlaw04_NatDivides.j1 kj5 a2 true t905)) else (heraldlaw04_NatDivides.j1 kj5 a2 true t905)) else (heraldlaw04_NatDivides.j1 kj5 a2 true t905))))) else (heraldlaw04_NatDivides.j2 kj5 a2 t905)) = some r := H
    have A23 := Aside0.mk A230
    clear A230
    have HC24 := Aside0.mk H
    clear H
    have hnb25 := NB919_910.out
    have hnc25 := NB910_919.out
    have hcz26_0 : wc.cell? ⟨gb919, 0, none⟩ = some (.slice Ao13 t914.length co13) := (blk_cell BK919.out 0).trans rfl
    have hfz26_0 := blk_frozen BK919.out 0
    go_upto_if 56 with (first | ((with_reducible refine gate_callee (f := 25) rfl ?_); refine goesL_ (some 55) rfl rfl Tryd.func25 (by kernel_rfl) rfl #[.agg #[.slice Ao13 t914.length co13]] rfl (by (try simp only [List.map_toArray, List.map_cons, List.map_nil]); first | done | rfl | (simp only [List.length_drop, List.length_take]; rfl)) ?_; (with_reducible refine (nat_Nat_Bits.calls _ _ t914 t921 _ ?side1 ?side2 A23.out).mono ?_); (case side1 => exact (Kd.V_reads' HO_920000.out).2.2); (case side2 => exact (Kd.V_reads' HO_920000.out).2.1); rintro e w27 ⟨rfl, hb⟩; refine ⟨_, rfl, ?_⟩; replace HO_911000 := vb HO_911000 hb; replace HO_920000 := vb HO_920000 hb; replace BK910 := bb BK910 hb; replace BK919 := bb BK919 hb; replace HB := Aside0.mk (below_step (by repeat (first | exact HB.out | refine sb ?_ GE910 | refine sb ?_ GE919)) hb); (try clear hb); (try clear hb2); (try clear hk); (try clear hi)))
    (try simp only [Act.put, List.setIfInBounds_toArray, List.set_cons_zero, List.set_cons_succ])
    go_cut [] (fun wc => ∃ (kq : Nat), Aside0 (heraldlaw04_NatDivides.j2 kq a2 t905 = some r) ∧ Aside0 (kq ≤ kj5) ∧ Aside0 (Kd.V (Kd.int .u32) 79 wc w.heap.size (fun k_ => k_ ≠ gb910 ∧ k_ ≠ gb919) (.slice Ao9 t905.length co9) t905) ∧ Aside0 (Kd.V (Kd.int .u32) 79 wc w.heap.size (fun k_ => k_ ≠ gb910 ∧ k_ ≠ gb919) (.slice Ao13 t914.length co13) t914) ∧ Aside0 (wc.heap[gb910]? = some (.cells #[(.slice Ao9 t905.length co9)] 26 (0, 0))) ∧ Aside0 (wc.heap[gb919]? = some (.cells #[(.slice Ao13 t914.length co13)] 26 (0, 0))) ∧ Aside0 (Below w.heap.size w wc))
    case first =>
     have H := HC24.out
     clear HC24
     by_cases c28 : t921 > 0
     ·rw [if_pos c28] at H
      have c28b0 : decide (0 < t921) = true := decide_eq_true c28
      clear c28
      (first | rw [c28b0] | (simp only [i64_w, i32_w]; rw [c28b0]) | skip)
      replace H := Option.bind_eq_some_iff.mp H
      obtain ⟨⟨t922, t925, t928⟩, A290, H⟩ := H
      replace H : ((nat_Nat_Mul.f kj5 t922 t914).bind fun bt931 => ((nat_Nat_Add.f kj5 bt931.1 t925).bind fun bt936 => (if t928 = 0 then (if bt931.2 = 0 then (if bt936.2 = 0 then ((nat_Nat_Compare.f kj5 bt936.1 t905).bind fun t941 => (if t941 = 0 then ((nat_Nat_Compare.f kj5 t925 t914).bind fun t942 => (heraldlaw04_NatDivides.j1 kj5 a2 (decide (t942 ≥ 0)) t905)) else (heraldlaw04_NatDivides.j1 kj5 a2 true t905))) else (heraldlaw04_NatDivides.j1 kj5 a2 true t905)) else (heraldlaw04_NatDivides.j1 kj5 a2 true t905)) else (heraldlaw04_NatDivides.j1 kj5 a2 true t905)))) = some r := H
      have A29 := Aside0.mk A290
      clear A290
      replace H := Option.bind_eq_some_iff.mp H
      obtain ⟨⟨t931, t934⟩, A300, H⟩ := H
      replace H : ((nat_Nat_Add.f kj5 t931 t925).bind fun bt936 => (if t928 = 0 then (if t934 = 0 then (if bt936.2 = 0 then ((nat_Nat_Compare.f kj5 bt936.1 t905).bind fun t941 => (if t941 = 0 then ((nat_Nat_Compare.f kj5 t925 t914).bind fun t942 => (heraldlaw04_NatDivides.j1 kj5 a2 (decide (t942 ≥ 0)) t905)) else (heraldlaw04_NatDivides.j1 kj5 a2 true t905))) else (heraldlaw04_NatDivides.j1 kj5 a2 true t905)) else (heraldlaw04_NatDivides.j1 kj5 a2 true t905)) else (heraldlaw04_NatDivides.j1 kj5 a2 true t905))) = some r := H
      have A30 := Aside0.mk A300
      clear A300
      replace H := Option.bind_eq_some_iff.mp H
      obtain ⟨⟨t936, t939⟩, A310, H⟩ := H
      replace H : (if t928 = 0 then (if t934 = 0 then (if t939 = 0 then ((nat_Nat_Compare.f kj5 t936 t905).bind fun t941 => (if t941 = 0 then ((nat_Nat_Compare.f kj5 t925 t914).bind fun t942 => (heraldlaw04_NatDivides.j1 kj5 a2 (decide (t942 ≥ 0)) t905)) else (heraldlaw04_NatDivides.j1 kj5 a2 true t905))) else (heraldlaw04_NatDivides.j1 kj5 a2 true t905)) else (heraldlaw04_NatDivides.j1 kj5 a2 true t905)) else (heraldlaw04_NatDivides.j1 kj5 a2 true t905)) = some r := H
      have A31 := Aside0.mk A310
      clear A310
      have HC32 := Aside0.mk H
      clear H
      have hnb33 := NB910_919.out
      have hnc33 := NB919_910.out
      have hcz34_0 : w27.cell? ⟨gb910, 0, none⟩ = some (.slice Ao9 t905.length co9) := (blk_cell BK910.out 0).trans rfl
      have hfz34_0 := blk_frozen BK910.out 0
      have hcz35_0 : w27.cell? ⟨gb919, 0, none⟩ = some (.slice Ao13 t914.length co13) := (blk_cell BK919.out 0).trans rfl
      have hfz35_0 := blk_frozen BK919.out 0
      go_upto_region 9 with (first | ((with_reducible refine gate_callee (f := 46) rfl ?_); refine goesL_ (some 60) rfl rfl Tryd.func46 (by kernel_rfl) rfl #[.agg #[.slice Ao9 t905.length co9], .agg #[.slice Ao13 t914.length co13]] rfl (by (try simp only [List.map_toArray, List.map_cons, List.map_nil]); first | done | rfl | (simp only [List.length_drop, List.length_take]; rfl)) ?_; (with_reducible refine (nat_Nat_Div.calls kj5 _ _ t905 _ _ t914 t922 t925 t928 _ ?side1 ?side2 ?side3 ?side4 A29.out).mono ?_); (case side1 => exact (Kd.V_reads' HO_911000.out).2.2); (case side2 => exact (Kd.V_reads' HO_911000.out).2.1); (case side3 => exact (Kd.V_reads' HO_920000.out).2.2); (case side4 => exact (Kd.V_reads' HO_920000.out).2.1); rintro e w36 ⟨v923, v926, rfl, ho0, ho1, hb⟩; refine ⟨_, rfl, ?_⟩; have HO924 := Aside0.mk (Kd.V_lower (Kd.V_mono (ok' := fun k_ => k_ ≠ gb910 ∧ k_ ≠ gb919) ho0 (fun k_ hk_ => ⟨(fb BK910 k_ hk_), (fb BK919 k_ hk_)⟩)) (below_size (by repeat (first | exact HB.out | refine sb ?_ GE910 | refine sb ?_ GE919)))); have HO927 := Aside0.mk (Kd.V_lower (Kd.V_mono (ok' := fun k_ => k_ ≠ gb910 ∧ k_ ≠ gb919) ho1 (fun k_ hk_ => ⟨(fb BK910 k_ hk_), (fb BK919 k_ hk_)⟩)) (below_size (by repeat (first | exact HB.out | refine sb ?_ GE910 | refine sb ?_ GE919)))); replace HO_911000 := vb HO_911000 hb; replace HO_920000 := vb HO_920000 hb; replace BK910 := bb BK910 hb; replace BK919 := bb BK919 hb; replace HB := Aside0.mk (below_step (by repeat (first | exact HB.out | refine sb ?_ GE910 | refine sb ?_ GE919)) hb); (try clear hb); (try clear hk); (try clear hi); (try clear ho0); (try clear ho1)) | ((with_reducible refine gate_dst (N := 15) rfl ?_); refine box_event ?hg (N := 15) ?hd (cs := #[.slice none 0 0]) (t := 26) ?hr ?_; (case hd => rfl); (case hg => rfl); (case hr => first | (go_simp; done) | (go_simp; rfl)); intro gb929 hg w37 hbox hb; have BK929 := Aside0.mk (hbox); have GW929 := Aside0.mk ((by rw [hg]; exact (below_size (by repeat (first | exact HB.out | refine sb ?_ GE910 | refine sb ?_ GE919))) : w.heap.size ≤ gb929)); have GE929 := Aside0.mk ((by rw [hg]; exact (below_size (by repeat (first | exact HB.out | refine sb ?_ GE910 | refine sb ?_ GE919))) : w.heap.size ≤ gb929)); have NB910_929 := nl BK910 hg; have NB929_910 := ng BK910 hg; have NB919_929 := nl BK919 hg; have NB929_919 := ng BK919 hg; replace HO_911000 := ve HO_911000 gb929 hg hb; replace HO_920000 := ve HO_920000 gb929 hg hb; replace HO924 := ve HO924 gb929 hg hb; replace HO927 := ve HO927 gb929 hg hb; replace BK910 := bb BK910 hb; replace BK919 := bb BK919 hb; replace HB := Aside0.mk (below_step (by repeat (first | exact HB.out | refine sb ?_ GE910 | refine sb ?_ GE919)) hb); clear hb hbox hg) | ((with_reducible refine gate_dst (N := 16) rfl ?_); refine box_event ?hg (N := 16) ?hd (cs := #[.slice none 0 0]) (t := 26) ?hr ?_; (case hd => rfl); (case hg => rfl); (case hr => first | (go_simp; done) | (go_simp; rfl)); intro gb930 hg w38 hbox hb; have BK930 := Aside0.mk (hbox); have GW930 := Aside0.mk ((by rw [hg]; exact (below_size (by repeat (first | exact HB.out | refine sb ?_ GE910 | refine sb ?_ GE919 | refine sb ?_ GE929))) : w.heap.size ≤ gb930)); have GE930 := Aside0.mk ((by rw [hg]; exact (below_size (by repeat (first | exact HB.out | refine sb ?_ GE910 | refine sb ?_ GE919 | refine sb ?_ GE929))) : w.heap.size ≤ gb930)); have NB910_930 := nl BK910 hg; have NB930_910 := ng BK910 hg; have NB919_930 := nl BK919 hg; have NB930_919 := ng BK919 hg; have NB929_930 := nl BK929 hg; have NB930_929 := ng BK929 hg; replace HO_911000 := ve HO_911000 gb930 hg hb; replace HO_920000 := ve HO_920000 gb930 hg hb; replace HO924 := ve HO924 gb930 hg hb; replace HO927 := ve HO927 gb930 hg hb; replace BK910 := bb BK910 hb; replace BK919 := bb BK919 hb; replace BK929 := bb BK929 hb; replace HB := Aside0.mk (below_step (by repeat (first | exact HB.out | refine sb ?_ GE910 | refine sb ?_ GE919 | refine sb ?_ GE929)) hb); clear hb hbox hg; obtain ⟨Ao39, co39, eo39⟩ := Kd.V_slice HO924.out; subst eo39; have hnb40 := NB929_910.out; have hnc40 := NB910_929.out; have hnb41 := NB929_919.out; have hnc41 := NB919_929.out; have hnb42 := NB929_930.out; have hnc42 := NB930_929.out; have hcz43_0 : w38.cell? ⟨gb929, 0, none⟩ = some (.slice none 0 0) := (blk_cell BK929.out 0).trans rfl; have hfz43_0 := blk_frozen BK929.out 0; obtain ⟨Ao44, co44, eo44⟩ := Kd.V_slice HO927.out; subst eo44; have hnb45 := NB930_910.out; have hnc45 := NB910_930.out; have hnb46 := NB930_919.out; have hnc46 := NB919_930.out; have hcz47_0 : w38.cell? ⟨gb930, 0, none⟩ = some (.slice none 0 0) := (blk_cell BK930.out 0).trans rfl; have hfz47_0 := blk_frozen BK930.out 0; have hcz48_0 : w38.cell? ⟨gb919, 0, none⟩ = some (.slice Ao13 t914.length co13) := (blk_cell BK919.out 0).trans rfl; have hfz48_0 := blk_frozen BK919.out 0) | ((with_reducible refine gate_callee (f := 44) rfl ?_); refine goesL_ (some 67) rfl rfl Tryd.func44 (by kernel_rfl) rfl #[.agg #[.slice Ao39 t922.length co39], .agg #[.slice Ao13 t914.length co13]] rfl (by (try simp only [List.map_toArray, List.map_cons, List.map_nil]); first | done | rfl | (simp only [List.length_drop, List.length_take]; rfl)) ?_; (with_reducible refine (nat_Nat_Mul.calls kj5 _ _ t922 _ _ t914 t931 t934 _ ?side1 ?side2 ?side3 ?side4 A30.out).mono ?_); (case side1 => refine (Kd.V_reads' (e := 79) (base := w.heap.size) (ok := fun k_ => (((k_ ≠ gb910 ∧ k_ ≠ gb919) ∧ k_ ≠ gb929) ∧ k_ ≠ gb930)) (n := t922.length) (c := co39) ?_).2.2; exact (by exact (Kd.V_mono (Kd.V_mono (Kd.V_far (p := ⟨gb930, 0, none⟩) (Kd.V_far (p := ⟨gb929, 0, none⟩) (Kd.V_mono (Kd.V_mono HO924.out (fun k_ hk => (⟨hk, hk.1.2⟩ : _ ∧ k_ ≠ gb929))) (fun k_ hk => (⟨hk, hk.1.2⟩ : _ ∧ k_ ≠ gb930))) (fun _ hk => hk.1.2) (.slice Ao39 t922.length co39)) (fun _ hk => hk.2) (.slice Ao44 t925.length co44)) (fun _ h_ => h_.1)) (fun _ h_ => h_.1)))); (case side2 => exact (Kd.V_reads' HO924.out).2.1); (case side3 => refine (Kd.V_reads' (e := 79) (base := w.heap.size) (ok := fun k_ => (((k_ ≠ gb910 ∧ k_ ≠ gb919) ∧ k_ ≠ gb929) ∧ k_ ≠ gb930)) (n := t914.length) (c := co13) ?_).2.2; exact (by exact (Kd.V_mono (Kd.V_mono (Kd.V_far (p := ⟨gb930, 0, none⟩) (Kd.V_far (p := ⟨gb929, 0, none⟩) (Kd.V_mono (Kd.V_mono HO_920000.out (fun k_ hk => (⟨hk, hk.1.2⟩ : _ ∧ k_ ≠ gb929))) (fun k_ hk => (⟨hk, hk.1.2⟩ : _ ∧ k_ ≠ gb930))) (fun _ hk => hk.1.2) (.slice Ao39 t922.length co39)) (fun _ hk => hk.2) (.slice Ao44 t925.length co44)) (fun _ h_ => h_.1)) (fun _ h_ => h_.1)))); (case side4 => exact (Kd.V_reads' HO_920000.out).2.1); rintro e w49 ⟨v932, rfl, ho0, hb⟩; refine ⟨_, rfl, ?_⟩; have HO933 := Aside0.mk (Kd.V_lower (Kd.V_mono (ok' := fun k_ => k_ ≠ gb910 ∧ k_ ≠ gb919 ∧ k_ ≠ gb929 ∧ k_ ≠ gb930) ho0 (fun k_ hk_ => ⟨(Kd.freshB (g := gb910) (o := .cells #[.slice Ao9 t905.length co9] 26 (0, 0)) (by refine blk_far ?_ NB910_930.out _; refine blk_far ?_ NB910_929.out _; exact BK910.out) k_ hk_), (Kd.freshB (g := gb919) (o := .cells #[.slice Ao13 t914.length co13] 26 (0, 0)) (by refine blk_far ?_ NB919_930.out _; refine blk_far ?_ NB919_929.out _; exact BK919.out) k_ hk_), (Kd.freshB (g := gb929) (o := .cells #[.slice Ao39 t922.length co39] 26 (0, 0)) (by refine blk_far ?_ NB929_930.out _; refine blk_put (cs := #[.slice none 0 0]) ?_ 0 _ rfl; exact BK929.out) k_ hk_), (Kd.freshB (g := gb930) (o := .cells #[.slice Ao44 t925.length co44] 26 (0, 0)) (by refine blk_put (cs := #[.slice none 0 0]) ?_ 0 _ rfl; refine blk_far ?_ NB930_929.out _; exact BK930.out) k_ hk_)⟩)) (below_size (by repeat (first | exact HB.out | refine sb ?_ GE910 | refine sb ?_ GE919 | refine sb ?_ GE929 | refine sb ?_ GE930)))); replace HO_911000 := Aside0.mk (Kd.V_below (by exact (Kd.V_mono (Kd.V_mono (Kd.V_far (p := ⟨gb930, 0, none⟩) (Kd.V_far (p := ⟨gb929, 0, none⟩) (Kd.V_mono (Kd.V_mono HO_911000.out (fun k_ hk => (⟨hk, hk.1.2⟩ : _ ∧ k_ ≠ gb929))) (fun k_ hk => (⟨hk, hk.1.2⟩ : _ ∧ k_ ≠ gb930))) (fun _ hk => hk.1.2) (.slice Ao39 t922.length co39)) (fun _ hk => hk.2) (.slice Ao44 t925.length co44)) (fun _ h_ => h_.1)) (fun _ h_ => h_.1))) hb); replace HO_920000 := Aside0.mk (Kd.V_below (by exact (Kd.V_mono (Kd.V_mono (Kd.V_far (p := ⟨gb930, 0, none⟩) (Kd.V_far (p := ⟨gb929, 0, none⟩) (Kd.V_mono (Kd.V_mono HO_920000.out (fun k_ hk => (⟨hk, hk.1.2⟩ : _ ∧ k_ ≠ gb929))) (fun k_ hk => (⟨hk, hk.1.2⟩ : _ ∧ k_ ≠ gb930))) (fun _ hk => hk.1.2) (.slice Ao39 t922.length co39)) (fun _ hk => hk.2) (.slice Ao44 t925.length co44)) (fun _ h_ => h_.1)) (fun _ h_ => h_.1))) hb); replace HO924 := Aside0.mk (Kd.V_below (by exact (Kd.V_mono (Kd.V_mono (Kd.V_far (p := ⟨gb930, 0, none⟩) (Kd.V_far (p := ⟨gb929, 0, none⟩) (Kd.V_mono (Kd.V_mono HO924.out (fun k_ hk => (⟨hk, hk.1.2⟩ : _ ∧ k_ ≠ gb929))) (fun k_ hk => (⟨hk, hk.1.2⟩ : _ ∧ k_ ≠ gb930))) (fun _ hk => hk.1.2) (.slice Ao39 t922.length co39)) (fun _ hk => hk.2) (.slice Ao44 t925.length co44)) (fun _ h_ => h_.1)) (fun _ h_ => h_.1))) hb); replace HO927 := Aside0.mk (Kd.V_below (by exact (Kd.V_mono (Kd.V_mono (Kd.V_far (p := ⟨gb930, 0, none⟩) (Kd.V_far (p := ⟨gb929, 0, none⟩) (Kd.V_mono (Kd.V_mono HO927.out (fun k_ hk => (⟨hk, hk.1.2⟩ : _ ∧ k_ ≠ gb929))) (fun k_ hk => (⟨hk, hk.1.2⟩ : _ ∧ k_ ≠ gb930))) (fun _ hk => hk.1.2) (.slice Ao39 t922.length co39)) (fun _ hk => hk.2) (.slice Ao44 t925.length co44)) (fun _ h_ => h_.1)) (fun _ h_ => h_.1))) hb); replace BK910 := Aside0.mk (blk_below (g := gb910) (o := .cells #[.slice Ao9 t905.length co9] 26 (0, 0)) (by refine blk_far ?_ NB910_930.out _; refine blk_far ?_ NB910_929.out _; exact BK910.out) hb); replace BK919 := Aside0.mk (blk_below (g := gb919) (o := .cells #[.slice Ao13 t914.length co13] 26 (0, 0)) (by refine blk_far ?_ NB919_930.out _; refine blk_far ?_ NB919_929.out _; exact BK919.out) hb); replace BK929 := Aside0.mk (blk_below (g := gb929) (o := .cells #[.slice Ao39 t922.length co39] 26 (0, 0)) (by refine blk_far ?_ NB929_930.out _; refine blk_put (cs := #[.slice none 0 0]) ?_ 0 _ rfl; exact BK929.out) hb); replace BK930 := Aside0.mk (blk_below (g := gb930) (o := .cells #[.slice Ao44 t925.length co44] 26 (0, 0)) (by refine blk_put (cs := #[.slice none 0 0]) ?_ 0 _ rfl; refine blk_far ?_ NB930_929.out _; exact BK930.out) hb); replace HB := Aside0.mk (below_step (by repeat (first | exact HB.out | refine sb ?_ GE910 | refine sb ?_ GE919 | refine sb ?_ GE929 | refine sb ?_ GE930)) hb); (try clear hb); (try clear hk); (try clear hi); (try clear ho0)) | ((with_reducible refine gate_dst (N := 18) rfl ?_); refine box_event ?hg (N := 18) ?hd (cs := #[.slice none 0 0]) (t := 26) ?hr ?_; (case hd => rfl); (case hg => rfl); (case hr => first | (go_simp; done) | (go_simp; rfl)); intro gb935 hg w50 hbox hb; have BK935 := Aside0.mk (hbox); have GW935 := Aside0.mk ((by rw [hg]; exact (below_size (by repeat (first | exact HB.out | refine sb ?_ GE910 | refine sb ?_ GE919 | refine sb ?_ GE929 | refine sb ?_ GE930))) : w.heap.size ≤ gb935)); have GE935 := Aside0.mk ((by rw [hg]; exact (below_size (by repeat (first | exact HB.out | refine sb ?_ GE910 | refine sb ?_ GE919 | refine sb ?_ GE929 | refine sb ?_ GE930))) : w.heap.size ≤ gb935)); have NB910_935 := nl BK910 hg; have NB935_910 := ng BK910 hg; have NB919_935 := nl BK919 hg; have NB935_919 := ng BK919 hg; have NB929_935 := nl BK929 hg; have NB935_929 := ng BK929 hg; have NB930_935 := nl BK930 hg; have NB935_930 := ng BK930 hg; replace HO_911000 := ve HO_911000 gb935 hg hb; replace HO_920000 := ve HO_920000 gb935 hg hb; replace HO924 := ve HO924 gb935 hg hb; replace HO927 := ve HO927 gb935 hg hb; replace HO933 := ve HO933 gb935 hg hb; replace BK910 := bb BK910 hb; replace BK919 := bb BK919 hb; replace BK929 := bb BK929 hb; replace BK930 := bb BK930 hb; replace HB := Aside0.mk (below_step (by repeat (first | exact HB.out | refine sb ?_ GE910 | refine sb ?_ GE919 | refine sb ?_ GE929 | refine sb ?_ GE930)) hb); clear hb hbox hg; obtain ⟨Ao51, co51, eo51⟩ := Kd.V_slice HO933.out; subst eo51; have hnb52 := NB935_910.out; have hnc52 := NB910_935.out; have hnb53 := NB935_919.out; have hnc53 := NB919_935.out; have hnb54 := NB935_929.out; have hnc54 := NB929_935.out; have hnb55 := NB935_930.out; have hnc55 := NB930_935.out; have hcz56_0 : w50.cell? ⟨gb935, 0, none⟩ = some (.slice none 0 0) := (blk_cell BK935.out 0).trans rfl; have hfz56_0 := blk_frozen BK935.out 0; have hcz57_0 : w50.cell? ⟨gb930, 0, none⟩ = some (.slice Ao44 t925.length co44) := (blk_cell BK930.out 0).trans rfl; have hfz57_0 := blk_frozen BK930.out 0) | ((with_reducible refine gate_callee (f := 33) rfl ?_); refine goesL_ (some 73) rfl rfl Tryd.func33 (by kernel_rfl) rfl #[.agg #[.slice Ao51 t931.length co51], .agg #[.slice Ao44 t925.length co44]] rfl (by (try simp only [List.map_toArray, List.map_cons, List.map_nil]); first | done | rfl | (simp only [List.length_drop, List.length_take]; rfl)) ?_; (with_reducible refine (nat_Nat_Add.calls kj5 _ _ t931 _ _ t925 t936 t939 _ ?side1 ?side2 ?side3 ?side4 A31.out).mono ?_); (case side1 => refine (Kd.V_reads' (e := 79) (base := w.heap.size) (ok := fun k_ => ((k_ ≠ gb910 ∧ (k_ ≠ gb919 ∧ (k_ ≠ gb929 ∧ k_ ≠ gb930))) ∧ k_ ≠ gb935)) (n := t931.length) (c := co51) ?_).2.2; exact (by exact (Kd.V_mono (Kd.V_far (p := ⟨gb935, 0, none⟩) (Kd.V_mono HO933.out (fun k_ hk => (⟨hk, hk.2⟩ : _ ∧ k_ ≠ gb935))) (fun _ hk => hk.2) (.slice Ao51 t931.length co51)) (fun _ h_ => h_.1)))); (case side2 => exact (Kd.V_reads' HO933.out).2.1); (case side3 => refine (Kd.V_reads' (e := 79) (base := w.heap.size) (ok := fun k_ => ((((k_ ≠ gb910 ∧ k_ ≠ gb919) ∧ k_ ≠ gb929) ∧ k_ ≠ gb930) ∧ k_ ≠ gb935)) (n := t925.length) (c := co44) ?_).2.2; exact (by exact (Kd.V_mono (Kd.V_far (p := ⟨gb935, 0, none⟩) (Kd.V_mono HO927.out (fun k_ hk => (⟨hk, hk.2⟩ : _ ∧ k_ ≠ gb935))) (fun _ hk => hk.2) (.slice Ao51 t931.length co51)) (fun _ h_ => h_.1)))); (case side4 => exact (Kd.V_reads' HO927.out).2.1); rintro e w58 ⟨v937, rfl, ho0, hb⟩; refine ⟨_, rfl, ?_⟩; have HO938 := Aside0.mk (Kd.V_lower (Kd.V_mono (ok' := fun k_ => k_ ≠ gb910 ∧ k_ ≠ gb919 ∧ k_ ≠ gb929 ∧ k_ ≠ gb930 ∧ k_ ≠ gb935) ho0 (fun k_ hk_ => ⟨(Kd.freshB (g := gb910) (o := .cells #[.slice Ao9 t905.length co9] 26 (0, 0)) (by refine blk_far ?_ NB910_935.out _; exact BK910.out) k_ hk_), (Kd.freshB (g := gb919) (o := .cells #[.slice Ao13 t914.length co13] 26 (0, 0)) (by refine blk_far ?_ NB919_935.out _; exact BK919.out) k_ hk_), (Kd.freshB (g := gb929) (o := .cells #[.slice Ao39 t922.length co39] 26 (0, 0)) (by refine blk_far ?_ NB929_935.out _; exact BK929.out) k_ hk_), (Kd.freshB (g := gb930) (o := .cells #[.slice Ao44 t925.length co44] 26 (0, 0)) (by refine blk_far ?_ NB930_935.out _; exact BK930.out) k_ hk_), (Kd.freshB (g := gb935) (o := .cells #[.slice Ao51 t931.length co51] 26 (0, 0)) (by refine blk_put (cs := #[.slice none 0 0]) ?_ 0 _ rfl; exact BK935.out) k_ hk_)⟩)) (below_size (by repeat (first | exact HB.out | refine sb ?_ GE910 | refine sb ?_ GE919 | refine sb ?_ GE929 | refine sb ?_ GE930 | refine sb ?_ GE935)))); replace HO_911000 := vf HO_911000 (fun k_ hk => hk.2) hb; replace HO_920000 := vf HO_920000 (fun k_ hk => hk.2) hb; replace HO924 := vf HO924 (fun k_ hk => hk.2) hb; replace HO927 := vf HO927 (fun k_ hk => hk.2) hb; replace HO933 := vf HO933 (fun k_ hk => hk.2) hb; replace BK910 := bf BK910 NB910_935 hb; replace BK919 := bf BK919 NB919_935 hb; replace BK929 := bf BK929 NB929_935 hb; replace BK930 := bf BK930 NB930_935 hb; replace BK935 := Aside0.mk (blk_below (g := gb935) (o := .cells #[.slice Ao51 t931.length co51] 26 (0, 0)) (by refine blk_put (cs := #[.slice none 0 0]) ?_ 0 _ rfl; exact BK935.out) hb); replace HB := Aside0.mk (below_step (by repeat (first | exact HB.out | refine sb ?_ GE910 | refine sb ?_ GE919 | refine sb ?_ GE929 | refine sb ?_ GE930 | refine sb ?_ GE935)) hb); (try clear hb); (try clear hk); (try clear hi); (try clear ho0)) | ((with_reducible refine gate_dst (N := 20) rfl ?_); refine box_event ?hg (N := 20) ?hd (cs := #[.slice none 0 0]) (t := 26) ?hr ?_; (case hd => rfl); (case hg => rfl); (case hr => first | (go_simp; done) | (go_simp; rfl)); intro gb940 hg w59 hbox hb; have BK940 := Aside0.mk (hbox); have GW940 := Aside0.mk ((by rw [hg]; exact (below_size (by repeat (first | exact HB.out | refine sb ?_ GE910 | refine sb ?_ GE919 | refine sb ?_ GE929 | refine sb ?_ GE930 | refine sb ?_ GE935))) : w.heap.size ≤ gb940)); have GE940 := Aside0.mk ((by rw [hg]; exact (below_size (by repeat (first | exact HB.out | refine sb ?_ GE910 | refine sb ?_ GE919 | refine sb ?_ GE929 | refine sb ?_ GE930 | refine sb ?_ GE935))) : w.heap.size ≤ gb940)); have NB910_940 := nl BK910 hg; have NB940_910 := ng BK910 hg; have NB919_940 := nl BK919 hg; have NB940_919 := ng BK919 hg; have NB929_940 := nl BK929 hg; have NB940_929 := ng BK929 hg; have NB930_940 := nl BK930 hg; have NB940_930 := ng BK930 hg; have NB935_940 := nl BK935 hg; have NB940_935 := ng BK935 hg; replace HO_911000 := ve HO_911000 gb940 hg hb; replace HO_920000 := ve HO_920000 gb940 hg hb; replace HO924 := ve HO924 gb940 hg hb; replace HO927 := ve HO927 gb940 hg hb; replace HO933 := ve HO933 gb940 hg hb; replace HO938 := ve HO938 gb940 hg hb; replace BK910 := bb BK910 hb; replace BK919 := bb BK919 hb; replace BK929 := bb BK929 hb; replace BK930 := bb BK930 hb; replace BK935 := bb BK935 hb; replace HB := Aside0.mk (below_step (by repeat (first | exact HB.out | refine sb ?_ GE910 | refine sb ?_ GE919 | refine sb ?_ GE929 | refine sb ?_ GE930 | refine sb ?_ GE935)) hb); clear hb hbox hg; obtain ⟨Ao60, co60, eo60⟩ := Kd.V_slice HO938.out; subst eo60; have hnb61 := NB940_910.out; have hnc61 := NB910_940.out; have hnb62 := NB940_919.out; have hnc62 := NB919_940.out; have hnb63 := NB940_929.out; have hnc63 := NB929_940.out; have hnb64 := NB940_930.out; have hnc64 := NB930_940.out; have hnb65 := NB940_935.out; have hnc65 := NB935_940.out; have hcz66_0 : w59.cell? ⟨gb940, 0, none⟩ = some (.slice none 0 0) := (blk_cell BK940.out 0).trans rfl; have hfz66_0 := blk_frozen BK940.out 0))
      (try simp only [Act.put, List.setIfInBounds_toArray, List.set_cons_zero, List.set_cons_succ])
      go_cut [97] (fun v97 wc => ∃ (kq : Nat) (x97_31 : Bool), v97 = .bool x97_31 ∧ Aside0 (heraldlaw04_NatDivides.j1 kq a2 x97_31 t905 = some r) ∧ Aside0 (kq ≤ kj5) ∧ Aside0 (Kd.V (Kd.int .u32) 79 wc w.heap.size (fun k_ => k_ ≠ gb910 ∧ k_ ≠ gb919 ∧ k_ ≠ gb929 ∧ k_ ≠ gb930 ∧ k_ ≠ gb935 ∧ k_ ≠ gb940) (.slice Ao9 t905.length co9) t905) ∧ Aside0 (Kd.V (Kd.int .u32) 79 wc w.heap.size (fun k_ => k_ ≠ gb910 ∧ k_ ≠ gb919 ∧ k_ ≠ gb929 ∧ k_ ≠ gb930 ∧ k_ ≠ gb935 ∧ k_ ≠ gb940) (.slice Ao13 t914.length co13) t914) ∧ Aside0 (Kd.V (Kd.int .u32) 79 wc w.heap.size (fun k_ => k_ ≠ gb910 ∧ k_ ≠ gb919 ∧ k_ ≠ gb929 ∧ k_ ≠ gb930 ∧ k_ ≠ gb935 ∧ k_ ≠ gb940) (.slice Ao39 t922.length co39) t922) ∧ Aside0 (Kd.V (Kd.int .u32) 79 wc w.heap.size (fun k_ => k_ ≠ gb910 ∧ k_ ≠ gb919 ∧ k_ ≠ gb929 ∧ k_ ≠ gb930 ∧ k_ ≠ gb935 ∧ k_ ≠ gb940) (.slice Ao44 t925.length co44) t925) ∧ Aside0 (Kd.V (Kd.int .u32) 79 wc w.heap.size (fun k_ => k_ ≠ gb910 ∧ k_ ≠ gb919 ∧ k_ ≠ gb929 ∧ k_ ≠ gb930 ∧ k_ ≠ gb935 ∧ k_ ≠ gb940) (.slice Ao51 t931.length co51) t931) ∧ Aside0 (Kd.V (Kd.int .u32) 79 wc w.heap.size (fun k_ => k_ ≠ gb910 ∧ k_ ≠ gb919 ∧ k_ ≠ gb929 ∧ k_ ≠ gb930 ∧ k_ ≠ gb935 ∧ k_ ≠ gb940) (.slice Ao60 t936.length co60) t936) ∧ Aside0 (wc.heap[gb910]? = some (.cells #[(.slice Ao9 t905.length co9)] 26 (0, 0))) ∧ Aside0 (wc.heap[gb919]? = some (.cells #[(.slice Ao13 t914.length co13)] 26 (0, 0))) ∧ Aside0 (wc.heap[gb929]? = some (.cells #[(.slice Ao39 t922.length co39)] 26 (0, 0))) ∧ Aside0 (wc.heap[gb930]? = some (.cells #[(.slice Ao44 t925.length co44)] 26 (0, 0))) ∧ Aside0 (wc.heap[gb935]? = some (.cells #[(.slice Ao51 t931.length co51)] 26 (0, 0))) ∧ Aside0 (wc.heap[gb940]? = some (.cells #[(.slice Ao60 t936.length co60)] 26 (0, 0))) ∧ Aside0 (Below w.heap.size w wc))
      case first =>
       have H := HC32.out
       clear HC32
       by_cases c67 : t928 = 0
       ·rw [if_pos c67] at H
        have c67b0 : (t928 == 0) = true := beq_iff_eq.mpr c67
        have c67b1 : (t928 != 0) = false := bne_eq_false_iff_eq.mpr c67
        clear c67
        (first | rw [c67b0] | (simp only [i64_w, i32_w]; rw [c67b0]) | skip)
        by_cases c68 : t934 = 0
        ·rw [if_pos c68] at H
         have c68b0 : (t934 == 0) = true := beq_iff_eq.mpr c68
         have c68b1 : (t934 != 0) = false := bne_eq_false_iff_eq.mpr c68
         clear c68
         by_cases c69 : t939 = 0
         ·rw [if_pos c69] at H
          have c69b0 : (t939 == 0) = true := beq_iff_eq.mpr c69
          have c69b1 : (t939 != 0) = false := bne_eq_false_iff_eq.mpr c69
          clear c69
          replace H := Option.bind_eq_some_iff.mp H
          obtain ⟨t941, A700, H⟩ := H
          replace H : (if t941 = 0 then ((nat_Nat_Compare.f kj5 t925 t914).bind fun t942 => (heraldlaw04_NatDivides.j1 kj5 a2 (decide (t942 ≥ 0)) t905)) else (heraldlaw04_NatDivides.j1 kj5 a2 true t905)) = some r := H
          have A70 := Aside0.mk A700
          clear A700
          by_cases c71 : t941 = 0
          ·rw [if_pos c71] at H
           have c71b0 : (t941 == 0) = true := beq_iff_eq.mpr c71
           have c71b1 : (t941 != 0) = false := bne_eq_false_iff_eq.mpr c71
           clear c71
           replace H := Option.bind_eq_some_iff.mp H
           obtain ⟨t942, A720, H⟩ := H
           replace H : (heraldlaw04_NatDivides.j1 kj5 a2 (decide (t942 ≥ 0)) t905) = some r := H
           have A72 := Aside0.mk A720
           clear A720
           as_aux_lemma =>
            have H' := Aside0.mk H
            clear H
            have hnb73 := NB940_910.out
            have hnc73 := NB910_940.out
            have hnb74 := NB940_919.out
            have hnc74 := NB919_940.out
            have hnb75 := NB940_929.out
            have hnc75 := NB929_940.out
            have hnb76 := NB940_930.out
            have hnc76 := NB930_940.out
            have hnb77 := NB940_935.out
            have hnc77 := NB935_940.out
            have hcz78_0 : w59.cell? ⟨gb940, 0, none⟩ = some (.slice none 0 0) := (blk_cell BK940.out 0).trans rfl
            have hfz78_0 := blk_frozen BK940.out 0
            have hnb79 := NB910_919.out
            have hnc79 := NB919_910.out
            have hnb80 := NB910_929.out
            have hnc80 := NB929_910.out
            have hnb81 := NB910_930.out
            have hnc81 := NB930_910.out
            have hnb82 := NB910_935.out
            have hnc82 := NB935_910.out
            have hcz83_0 : w59.cell? ⟨gb910, 0, none⟩ = some (.slice Ao9 t905.length co9) := (blk_cell BK910.out 0).trans rfl
            have hfz83_0 := blk_frozen BK910.out 0
            go_wp2_with (first | (go_at_call 29; (with_reducible refine (nat_Nat_Compare.calls kj5 _ _ t936 _ _ t905 t941 _ ?side1 ?side2 ?side3 ?side4 A70.out).mono ?_); (case side1 => refine (Kd.V_reads' (e := 79) (base := w.heap.size) (ok := fun k_ => ((k_ ≠ gb910 ∧ (k_ ≠ gb919 ∧ (k_ ≠ gb929 ∧ (k_ ≠ gb930 ∧ k_ ≠ gb935)))) ∧ k_ ≠ gb940)) (n := t936.length) (c := co60) ?_).2.2; exact (by exact (Kd.V_mono (Kd.V_far (p := ⟨gb940, 0, none⟩) (Kd.V_mono HO938.out (fun k_ hk => (⟨hk, hk.2⟩ : _ ∧ k_ ≠ gb940))) (fun _ hk => hk.2) (.slice Ao60 t936.length co60)) (fun _ h_ => h_.1)))); (case side2 => exact (Kd.V_reads' HO938.out).2.1); (case side3 => refine (Kd.V_reads' (e := 79) (base := w.heap.size) (ok := fun k_ => (((((k_ ≠ gb910 ∧ k_ ≠ gb919) ∧ k_ ≠ gb929) ∧ k_ ≠ gb930) ∧ k_ ≠ gb935) ∧ k_ ≠ gb940)) (n := t905.length) (c := co9) ?_).2.2; exact (by exact (Kd.V_mono (Kd.V_far (p := ⟨gb940, 0, none⟩) (Kd.V_mono HO_911000.out (fun k_ hk => (⟨hk, hk.2⟩ : _ ∧ k_ ≠ gb940))) (fun _ hk => hk.2) (.slice Ao60 t936.length co60)) (fun _ h_ => h_.1)))); (case side4 => exact (Kd.V_reads' HO_911000.out).2.1); rintro e w84 ⟨rfl, hb⟩; replace HO_911000 := vf HO_911000 (fun k_ hk => hk.2) hb; replace HO_920000 := vf HO_920000 (fun k_ hk => hk.2) hb; replace HO924 := vf HO924 (fun k_ hk => hk.2) hb; replace HO927 := vf HO927 (fun k_ hk => hk.2) hb; replace HO933 := vf HO933 (fun k_ hk => hk.2) hb; replace HO938 := vf HO938 (fun k_ hk => hk.2) hb; replace BK910 := bf BK910 NB910_940 hb; replace BK919 := bf BK919 NB919_940 hb; replace BK929 := bf BK929 NB929_940 hb; replace BK930 := bf BK930 NB930_940 hb; replace BK935 := bf BK935 NB935_940 hb; replace BK940 := Aside0.mk (blk_below (g := gb940) (o := .cells #[.slice Ao60 t936.length co60] 26 (0, 0)) (by refine blk_put (cs := #[.slice none 0 0]) ?_ 0 _ rfl; exact BK940.out) hb); replace HB := Aside0.mk (below_step (by repeat (first | exact HB.out | refine sb ?_ GE910 | refine sb ?_ GE919 | refine sb ?_ GE929 | refine sb ?_ GE930 | refine sb ?_ GE935 | refine sb ?_ GE940)) hb); (try clear hb); (try clear hb2); (try clear hk); (try clear hi); have hnb85 := NB930_919.out; have hnc85 := NB919_930.out; have hnb86 := NB930_929.out; have hnc86 := NB929_930.out; have hnb87 := NB930_935.out; have hnc87 := NB935_930.out; have hcz88_0 : w84.cell? ⟨gb930, 0, none⟩ = some (.slice Ao44 t925.length co44) := (blk_cell BK930.out 0).trans rfl; have hfz88_0 := blk_frozen BK930.out 0; have hnb89 := NB919_929.out; have hnc89 := NB929_919.out; have hnb90 := NB919_935.out; have hnc90 := NB935_919.out; have hcz91_0 : w84.cell? ⟨gb919, 0, none⟩ = some (.slice Ao13 t914.length co13) := (blk_cell BK919.out 0).trans rfl; have hfz91_0 := blk_frozen BK919.out 0) | (go_at_call 29; (with_reducible refine (nat_Nat_Compare.calls kj5 _ _ t925 _ _ t914 t942 _ ?side1 ?side2 ?side3 ?side4 A72.out).mono ?_); (case side1 => exact (Kd.V_reads' HO927.out).2.2); (case side2 => exact (Kd.V_reads' HO927.out).2.1); (case side3 => exact (Kd.V_reads' HO_920000.out).2.2); (case side4 => exact (Kd.V_reads' HO_920000.out).2.1); rintro e w92 ⟨rfl, hb⟩; replace HO_911000 := vb HO_911000 hb; replace HO_920000 := vb HO_920000 hb; replace HO924 := vb HO924 hb; replace HO927 := vb HO927 hb; replace HO933 := vb HO933 hb; replace HO938 := vb HO938 hb; replace BK910 := bb BK910 hb; replace BK919 := bb BK919 hb; replace BK929 := bb BK929 hb; replace BK930 := bb BK930 hb; replace BK935 := bb BK935 hb; replace BK940 := bb BK940 hb; replace HB := Aside0.mk (below_step (by repeat (first | exact HB.out | refine sb ?_ GE910 | refine sb ?_ GE919 | refine sb ?_ GE929 | refine sb ?_ GE930 | refine sb ?_ GE935 | refine sb ?_ GE940)) hb); (try clear hb); (try clear hb2); (try clear hk); (try clear hi)))
            go_meet
            case rel => exact ⟨_, (decide (t942 ≥ 0)), (by first | rfl | (simp; done) | (simp [*]; done) | (simp [i64_w]; done) | (simp [*, i64_w]; done)), H', ⟨by have := HJ5.out; first | omega | exact Nat.le_refl _⟩, ⟨by exact Kd.V_mono HO_911000.out (fun _ hk => ⟨hk.1.1.1.1.1, ⟨hk.1.1.1.1.2, ⟨hk.1.1.1.2, ⟨hk.1.1.2, ⟨hk.1.2, hk.2⟩⟩⟩⟩⟩)⟩, ⟨by exact Kd.V_mono HO_920000.out (fun _ hk => ⟨hk.1.1.1.1.1, ⟨hk.1.1.1.1.2, ⟨hk.1.1.1.2, ⟨hk.1.1.2, ⟨hk.1.2, hk.2⟩⟩⟩⟩⟩)⟩, ⟨by exact Kd.V_mono HO924.out (fun _ hk => ⟨hk.1.1.1.1.1, ⟨hk.1.1.1.1.2, ⟨hk.1.1.1.2, ⟨hk.1.1.2, ⟨hk.1.2, hk.2⟩⟩⟩⟩⟩)⟩, ⟨by exact Kd.V_mono HO927.out (fun _ hk => ⟨hk.1.1.1.1.1, ⟨hk.1.1.1.1.2, ⟨hk.1.1.1.2, ⟨hk.1.1.2, ⟨hk.1.2, hk.2⟩⟩⟩⟩⟩)⟩, ⟨by exact Kd.V_mono HO933.out (fun _ hk => ⟨hk.1.1.1, ⟨hk.1.1.2.1, ⟨hk.1.1.2.2.1, ⟨hk.1.1.2.2.2, ⟨hk.1.2, hk.2⟩⟩⟩⟩⟩)⟩, ⟨by exact Kd.V_mono HO938.out (fun _ hk => ⟨hk.1.1, ⟨hk.1.2.1, ⟨hk.1.2.2.1, ⟨hk.1.2.2.2.1, ⟨hk.1.2.2.2.2, hk.2⟩⟩⟩⟩⟩)⟩, ⟨by exact BK910.out⟩, ⟨by exact BK919.out⟩, ⟨by exact BK929.out⟩, ⟨by exact BK930.out⟩, ⟨by exact BK935.out⟩, ⟨by exact BK940.out⟩, ⟨by repeat (first | exact HB.out | refine sb ?_ GE910 | refine sb ?_ GE919 | refine sb ?_ GE929 | refine sb ?_ GE930 | refine sb ?_ GE935 | refine sb ?_ GE940)⟩⟩
          ·rw [if_neg c71] at H
           have c71b0 : (t941 == 0) = false := beq_eq_false_iff_ne.mpr c71
           have c71b1 : (t941 != 0) = true := bne_iff_ne.mpr c71
           as_aux_lemma =>
            have H' := Aside0.mk H
            clear H
            have hnb93 := NB940_910.out
            have hnc93 := NB910_940.out
            have hnb94 := NB940_919.out
            have hnc94 := NB919_940.out
            have hnb95 := NB940_929.out
            have hnc95 := NB929_940.out
            have hnb96 := NB940_930.out
            have hnc96 := NB930_940.out
            have hnb97 := NB940_935.out
            have hnc97 := NB935_940.out
            have hcz98_0 : w59.cell? ⟨gb940, 0, none⟩ = some (.slice none 0 0) := (blk_cell BK940.out 0).trans rfl
            have hfz98_0 := blk_frozen BK940.out 0
            have hnb99 := NB910_919.out
            have hnc99 := NB919_910.out
            have hnb100 := NB910_929.out
            have hnc100 := NB929_910.out
            have hnb101 := NB910_930.out
            have hnc101 := NB930_910.out
            have hnb102 := NB910_935.out
            have hnc102 := NB935_910.out
            have hcz103_0 : w59.cell? ⟨gb910, 0, none⟩ = some (.slice Ao9 t905.length co9) := (blk_cell BK910.out 0).trans rfl
            have hfz103_0 := blk_frozen BK910.out 0
            go_wp2_with (first | (go_at_call 29; (with_reducible refine (nat_Nat_Compare.calls kj5 _ _ t936 _ _ t905 t941 _ ?side1 ?side2 ?side3 ?side4 A70.out).mono ?_); (case side1 => refine (Kd.V_reads' (e := 79) (base := w.heap.size) (ok := fun k_ => ((k_ ≠ gb910 ∧ (k_ ≠ gb919 ∧ (k_ ≠ gb929 ∧ (k_ ≠ gb930 ∧ k_ ≠ gb935)))) ∧ k_ ≠ gb940)) (n := t936.length) (c := co60) ?_).2.2; exact (by exact (Kd.V_mono (Kd.V_far (p := ⟨gb940, 0, none⟩) (Kd.V_mono HO938.out (fun k_ hk => (⟨hk, hk.2⟩ : _ ∧ k_ ≠ gb940))) (fun _ hk => hk.2) (.slice Ao60 t936.length co60)) (fun _ h_ => h_.1)))); (case side2 => exact (Kd.V_reads' HO938.out).2.1); (case side3 => refine (Kd.V_reads' (e := 79) (base := w.heap.size) (ok := fun k_ => (((((k_ ≠ gb910 ∧ k_ ≠ gb919) ∧ k_ ≠ gb929) ∧ k_ ≠ gb930) ∧ k_ ≠ gb935) ∧ k_ ≠ gb940)) (n := t905.length) (c := co9) ?_).2.2; exact (by exact (Kd.V_mono (Kd.V_far (p := ⟨gb940, 0, none⟩) (Kd.V_mono HO_911000.out (fun k_ hk => (⟨hk, hk.2⟩ : _ ∧ k_ ≠ gb940))) (fun _ hk => hk.2) (.slice Ao60 t936.length co60)) (fun _ h_ => h_.1)))); (case side4 => exact (Kd.V_reads' HO_911000.out).2.1); rintro e w104 ⟨rfl, hb⟩; replace HO_911000 := vf HO_911000 (fun k_ hk => hk.2) hb; replace HO_920000 := vf HO_920000 (fun k_ hk => hk.2) hb; replace HO924 := vf HO924 (fun k_ hk => hk.2) hb; replace HO927 := vf HO927 (fun k_ hk => hk.2) hb; replace HO933 := vf HO933 (fun k_ hk => hk.2) hb; replace HO938 := vf HO938 (fun k_ hk => hk.2) hb; replace BK910 := bf BK910 NB910_940 hb; replace BK919 := bf BK919 NB919_940 hb; replace BK929 := bf BK929 NB929_940 hb; replace BK930 := bf BK930 NB930_940 hb; replace BK935 := bf BK935 NB935_940 hb; replace BK940 := Aside0.mk (blk_below (g := gb940) (o := .cells #[.slice Ao60 t936.length co60] 26 (0, 0)) (by refine blk_put (cs := #[.slice none 0 0]) ?_ 0 _ rfl; exact BK940.out) hb); replace HB := Aside0.mk (below_step (by repeat (first | exact HB.out | refine sb ?_ GE910 | refine sb ?_ GE919 | refine sb ?_ GE929 | refine sb ?_ GE930 | refine sb ?_ GE935 | refine sb ?_ GE940)) hb); (try clear hb); (try clear hb2); (try clear hk); (try clear hi)))
            go_meet
            case rel => exact ⟨_, (true), (by first | rfl | (simp; done) | (simp [*]; done) | (simp [i64_w]; done) | (simp [*, i64_w]; done)), H', ⟨by have := HJ5.out; first | omega | exact Nat.le_refl _⟩, ⟨by exact Kd.V_mono HO_911000.out (fun _ hk => ⟨hk.1.1.1.1.1, ⟨hk.1.1.1.1.2, ⟨hk.1.1.1.2, ⟨hk.1.1.2, ⟨hk.1.2, hk.2⟩⟩⟩⟩⟩)⟩, ⟨by exact Kd.V_mono HO_920000.out (fun _ hk => ⟨hk.1.1.1.1.1, ⟨hk.1.1.1.1.2, ⟨hk.1.1.1.2, ⟨hk.1.1.2, ⟨hk.1.2, hk.2⟩⟩⟩⟩⟩)⟩, ⟨by exact Kd.V_mono HO924.out (fun _ hk => ⟨hk.1.1.1.1.1, ⟨hk.1.1.1.1.2, ⟨hk.1.1.1.2, ⟨hk.1.1.2, ⟨hk.1.2, hk.2⟩⟩⟩⟩⟩)⟩, ⟨by exact Kd.V_mono HO927.out (fun _ hk => ⟨hk.1.1.1.1.1, ⟨hk.1.1.1.1.2, ⟨hk.1.1.1.2, ⟨hk.1.1.2, ⟨hk.1.2, hk.2⟩⟩⟩⟩⟩)⟩, ⟨by exact Kd.V_mono HO933.out (fun _ hk => ⟨hk.1.1.1, ⟨hk.1.1.2.1, ⟨hk.1.1.2.2.1, ⟨hk.1.1.2.2.2, ⟨hk.1.2, hk.2⟩⟩⟩⟩⟩)⟩, ⟨by exact Kd.V_mono HO938.out (fun _ hk => ⟨hk.1.1, ⟨hk.1.2.1, ⟨hk.1.2.2.1, ⟨hk.1.2.2.2.1, ⟨hk.1.2.2.2.2, hk.2⟩⟩⟩⟩⟩)⟩, ⟨by exact BK910.out⟩, ⟨by exact BK919.out⟩, ⟨by exact BK929.out⟩, ⟨by exact BK930.out⟩, ⟨by exact BK935.out⟩, ⟨by exact BK940.out⟩, ⟨by repeat (first | exact HB.out | refine sb ?_ GE910 | refine sb ?_ GE919 | refine sb ?_ GE929 | refine sb ?_ GE930 | refine sb ?_ GE935 | refine sb ?_ GE940)⟩⟩
         ·rw [if_neg c69] at H
          have c69b0 : (t939 == 0) = false := beq_eq_false_iff_ne.mpr c69
          have c69b1 : (t939 != 0) = true := bne_iff_ne.mpr c69
          as_aux_lemma =>
           have H' := Aside0.mk H
           clear H
           go_wp2
           go_meet
           case rel => exact ⟨_, (true), (by first | rfl | (simp; done) | (simp [*]; done) | (simp [i64_w]; done) | (simp [*, i64_w]; done)), H', ⟨by have := HJ5.out; first | omega | exact Nat.le_refl _⟩, ⟨by exact Kd.V_mono (Kd.V_far (p := ⟨gb940, 0, none⟩) (Kd.V_mono HO_911000.out (fun k_ hk => (⟨hk, hk.2⟩ : _ ∧ k_ ≠ gb940))) (fun _ hk => hk.2) (.slice Ao60 t936.length co60)) (fun _ hk => ⟨hk.1.1.1.1.1.1, ⟨hk.1.1.1.1.1.2, ⟨hk.1.1.1.1.2, ⟨hk.1.1.1.2, ⟨hk.1.1.2, hk.1.2⟩⟩⟩⟩⟩)⟩, ⟨by exact Kd.V_mono (Kd.V_far (p := ⟨gb940, 0, none⟩) (Kd.V_mono HO_920000.out (fun k_ hk => (⟨hk, hk.2⟩ : _ ∧ k_ ≠ gb940))) (fun _ hk => hk.2) (.slice Ao60 t936.length co60)) (fun _ hk => ⟨hk.1.1.1.1.1.1, ⟨hk.1.1.1.1.1.2, ⟨hk.1.1.1.1.2, ⟨hk.1.1.1.2, ⟨hk.1.1.2, hk.1.2⟩⟩⟩⟩⟩)⟩, ⟨by exact Kd.V_mono (Kd.V_far (p := ⟨gb940, 0, none⟩) (Kd.V_mono HO924.out (fun k_ hk => (⟨hk, hk.2⟩ : _ ∧ k_ ≠ gb940))) (fun _ hk => hk.2) (.slice Ao60 t936.length co60)) (fun _ hk => ⟨hk.1.1.1.1.1.1, ⟨hk.1.1.1.1.1.2, ⟨hk.1.1.1.1.2, ⟨hk.1.1.1.2, ⟨hk.1.1.2, hk.1.2⟩⟩⟩⟩⟩)⟩, ⟨by exact Kd.V_mono (Kd.V_far (p := ⟨gb940, 0, none⟩) (Kd.V_mono HO927.out (fun k_ hk => (⟨hk, hk.2⟩ : _ ∧ k_ ≠ gb940))) (fun _ hk => hk.2) (.slice Ao60 t936.length co60)) (fun _ hk => ⟨hk.1.1.1.1.1.1, ⟨hk.1.1.1.1.1.2, ⟨hk.1.1.1.1.2, ⟨hk.1.1.1.2, ⟨hk.1.1.2, hk.1.2⟩⟩⟩⟩⟩)⟩, ⟨by exact Kd.V_mono (Kd.V_far (p := ⟨gb940, 0, none⟩) (Kd.V_mono HO933.out (fun k_ hk => (⟨hk, hk.2⟩ : _ ∧ k_ ≠ gb940))) (fun _ hk => hk.2) (.slice Ao60 t936.length co60)) (fun _ hk => ⟨hk.1.1.1.1, ⟨hk.1.1.1.2.1, ⟨hk.1.1.1.2.2.1, ⟨hk.1.1.1.2.2.2, ⟨hk.1.1.2, hk.1.2⟩⟩⟩⟩⟩)⟩, ⟨by exact Kd.V_mono (Kd.V_far (p := ⟨gb940, 0, none⟩) (Kd.V_mono HO938.out (fun k_ hk => (⟨hk, hk.2⟩ : _ ∧ k_ ≠ gb940))) (fun _ hk => hk.2) (.slice Ao60 t936.length co60)) (fun _ hk => ⟨hk.1.1.1, ⟨hk.1.1.2.1, ⟨hk.1.1.2.2.1, ⟨hk.1.1.2.2.2.1, ⟨hk.1.1.2.2.2.2, hk.1.2⟩⟩⟩⟩⟩)⟩, ⟨by refine blk_far ?_ NB910_940.out _; exact BK910.out⟩, ⟨by refine blk_far ?_ NB919_940.out _; exact BK919.out⟩, ⟨by refine blk_far ?_ NB929_940.out _; exact BK929.out⟩, ⟨by refine blk_far ?_ NB930_940.out _; exact BK930.out⟩, ⟨by refine blk_far ?_ NB935_940.out _; exact BK935.out⟩, ⟨by refine blk_put (cs := #[.slice none 0 0]) ?_ 0 _ rfl; exact BK940.out⟩, ⟨by repeat (first | exact HB.out | refine sb ?_ GE910 | refine sb ?_ GE919 | refine sb ?_ GE929 | refine sb ?_ GE930 | refine sb ?_ GE935 | refine sb ?_ GE940)⟩⟩
        ·rw [if_neg c68] at H
         have c68b0 : (t934 == 0) = false := beq_eq_false_iff_ne.mpr c68
         have c68b1 : (t934 != 0) = true := bne_iff_ne.mpr c68
         as_aux_lemma =>
          have H' := Aside0.mk H
          clear H
          go_wp2
          go_meet
          case rel => exact ⟨_, (true), (by first | rfl | (simp; done) | (simp [*]; done) | (simp [i64_w]; done) | (simp [*, i64_w]; done)), H', ⟨by have := HJ5.out; first | omega | exact Nat.le_refl _⟩, ⟨by exact Kd.V_mono (Kd.V_far (p := ⟨gb940, 0, none⟩) (Kd.V_mono HO_911000.out (fun k_ hk => (⟨hk, hk.2⟩ : _ ∧ k_ ≠ gb940))) (fun _ hk => hk.2) (.slice Ao60 t936.length co60)) (fun _ hk => ⟨hk.1.1.1.1.1.1, ⟨hk.1.1.1.1.1.2, ⟨hk.1.1.1.1.2, ⟨hk.1.1.1.2, ⟨hk.1.1.2, hk.1.2⟩⟩⟩⟩⟩)⟩, ⟨by exact Kd.V_mono (Kd.V_far (p := ⟨gb940, 0, none⟩) (Kd.V_mono HO_920000.out (fun k_ hk => (⟨hk, hk.2⟩ : _ ∧ k_ ≠ gb940))) (fun _ hk => hk.2) (.slice Ao60 t936.length co60)) (fun _ hk => ⟨hk.1.1.1.1.1.1, ⟨hk.1.1.1.1.1.2, ⟨hk.1.1.1.1.2, ⟨hk.1.1.1.2, ⟨hk.1.1.2, hk.1.2⟩⟩⟩⟩⟩)⟩, ⟨by exact Kd.V_mono (Kd.V_far (p := ⟨gb940, 0, none⟩) (Kd.V_mono HO924.out (fun k_ hk => (⟨hk, hk.2⟩ : _ ∧ k_ ≠ gb940))) (fun _ hk => hk.2) (.slice Ao60 t936.length co60)) (fun _ hk => ⟨hk.1.1.1.1.1.1, ⟨hk.1.1.1.1.1.2, ⟨hk.1.1.1.1.2, ⟨hk.1.1.1.2, ⟨hk.1.1.2, hk.1.2⟩⟩⟩⟩⟩)⟩, ⟨by exact Kd.V_mono (Kd.V_far (p := ⟨gb940, 0, none⟩) (Kd.V_mono HO927.out (fun k_ hk => (⟨hk, hk.2⟩ : _ ∧ k_ ≠ gb940))) (fun _ hk => hk.2) (.slice Ao60 t936.length co60)) (fun _ hk => ⟨hk.1.1.1.1.1.1, ⟨hk.1.1.1.1.1.2, ⟨hk.1.1.1.1.2, ⟨hk.1.1.1.2, ⟨hk.1.1.2, hk.1.2⟩⟩⟩⟩⟩)⟩, ⟨by exact Kd.V_mono (Kd.V_far (p := ⟨gb940, 0, none⟩) (Kd.V_mono HO933.out (fun k_ hk => (⟨hk, hk.2⟩ : _ ∧ k_ ≠ gb940))) (fun _ hk => hk.2) (.slice Ao60 t936.length co60)) (fun _ hk => ⟨hk.1.1.1.1, ⟨hk.1.1.1.2.1, ⟨hk.1.1.1.2.2.1, ⟨hk.1.1.1.2.2.2, ⟨hk.1.1.2, hk.1.2⟩⟩⟩⟩⟩)⟩, ⟨by exact Kd.V_mono (Kd.V_far (p := ⟨gb940, 0, none⟩) (Kd.V_mono HO938.out (fun k_ hk => (⟨hk, hk.2⟩ : _ ∧ k_ ≠ gb940))) (fun _ hk => hk.2) (.slice Ao60 t936.length co60)) (fun _ hk => ⟨hk.1.1.1, ⟨hk.1.1.2.1, ⟨hk.1.1.2.2.1, ⟨hk.1.1.2.2.2.1, ⟨hk.1.1.2.2.2.2, hk.1.2⟩⟩⟩⟩⟩)⟩, ⟨by refine blk_far ?_ NB910_940.out _; exact BK910.out⟩, ⟨by refine blk_far ?_ NB919_940.out _; exact BK919.out⟩, ⟨by refine blk_far ?_ NB929_940.out _; exact BK929.out⟩, ⟨by refine blk_far ?_ NB930_940.out _; exact BK930.out⟩, ⟨by refine blk_far ?_ NB935_940.out _; exact BK935.out⟩, ⟨by refine blk_put (cs := #[.slice none 0 0]) ?_ 0 _ rfl; exact BK940.out⟩, ⟨by repeat (first | exact HB.out | refine sb ?_ GE910 | refine sb ?_ GE919 | refine sb ?_ GE929 | refine sb ?_ GE930 | refine sb ?_ GE935 | refine sb ?_ GE940)⟩⟩
       ·rw [if_neg c67] at H
        have c67b0 : (t928 == 0) = false := beq_eq_false_iff_ne.mpr c67
        have c67b1 : (t928 != 0) = true := bne_iff_ne.mpr c67
        (first | rw [c67b0] | (simp only [i64_w, i32_w]; rw [c67b0]) | skip)
        as_aux_lemma =>
         have H' := Aside0.mk H
         clear H
         go_wp2
         go_meet
         case rel => exact ⟨_, (true), (by first | rfl | (simp; done) | (simp [*]; done) | (simp [i64_w]; done) | (simp [*, i64_w]; done)), H', ⟨by have := HJ5.out; first | omega | exact Nat.le_refl _⟩, ⟨by exact Kd.V_mono (Kd.V_far (p := ⟨gb940, 0, none⟩) (Kd.V_mono HO_911000.out (fun k_ hk => (⟨hk, hk.2⟩ : _ ∧ k_ ≠ gb940))) (fun _ hk => hk.2) (.slice Ao60 t936.length co60)) (fun _ hk => ⟨hk.1.1.1.1.1.1, ⟨hk.1.1.1.1.1.2, ⟨hk.1.1.1.1.2, ⟨hk.1.1.1.2, ⟨hk.1.1.2, hk.1.2⟩⟩⟩⟩⟩)⟩, ⟨by exact Kd.V_mono (Kd.V_far (p := ⟨gb940, 0, none⟩) (Kd.V_mono HO_920000.out (fun k_ hk => (⟨hk, hk.2⟩ : _ ∧ k_ ≠ gb940))) (fun _ hk => hk.2) (.slice Ao60 t936.length co60)) (fun _ hk => ⟨hk.1.1.1.1.1.1, ⟨hk.1.1.1.1.1.2, ⟨hk.1.1.1.1.2, ⟨hk.1.1.1.2, ⟨hk.1.1.2, hk.1.2⟩⟩⟩⟩⟩)⟩, ⟨by exact Kd.V_mono (Kd.V_far (p := ⟨gb940, 0, none⟩) (Kd.V_mono HO924.out (fun k_ hk => (⟨hk, hk.2⟩ : _ ∧ k_ ≠ gb940))) (fun _ hk => hk.2) (.slice Ao60 t936.length co60)) (fun _ hk => ⟨hk.1.1.1.1.1.1, ⟨hk.1.1.1.1.1.2, ⟨hk.1.1.1.1.2, ⟨hk.1.1.1.2, ⟨hk.1.1.2, hk.1.2⟩⟩⟩⟩⟩)⟩, ⟨by exact Kd.V_mono (Kd.V_far (p := ⟨gb940, 0, none⟩) (Kd.V_mono HO927.out (fun k_ hk => (⟨hk, hk.2⟩ : _ ∧ k_ ≠ gb940))) (fun _ hk => hk.2) (.slice Ao60 t936.length co60)) (fun _ hk => ⟨hk.1.1.1.1.1.1, ⟨hk.1.1.1.1.1.2, ⟨hk.1.1.1.1.2, ⟨hk.1.1.1.2, ⟨hk.1.1.2, hk.1.2⟩⟩⟩⟩⟩)⟩, ⟨by exact Kd.V_mono (Kd.V_far (p := ⟨gb940, 0, none⟩) (Kd.V_mono HO933.out (fun k_ hk => (⟨hk, hk.2⟩ : _ ∧ k_ ≠ gb940))) (fun _ hk => hk.2) (.slice Ao60 t936.length co60)) (fun _ hk => ⟨hk.1.1.1.1, ⟨hk.1.1.1.2.1, ⟨hk.1.1.1.2.2.1, ⟨hk.1.1.1.2.2.2, ⟨hk.1.1.2, hk.1.2⟩⟩⟩⟩⟩)⟩, ⟨by exact Kd.V_mono (Kd.V_far (p := ⟨gb940, 0, none⟩) (Kd.V_mono HO938.out (fun k_ hk => (⟨hk, hk.2⟩ : _ ∧ k_ ≠ gb940))) (fun _ hk => hk.2) (.slice Ao60 t936.length co60)) (fun _ hk => ⟨hk.1.1.1, ⟨hk.1.1.2.1, ⟨hk.1.1.2.2.1, ⟨hk.1.1.2.2.2.1, ⟨hk.1.1.2.2.2.2, hk.1.2⟩⟩⟩⟩⟩)⟩, ⟨by refine blk_far ?_ NB910_940.out _; exact BK910.out⟩, ⟨by refine blk_far ?_ NB919_940.out _; exact BK919.out⟩, ⟨by refine blk_far ?_ NB929_940.out _; exact BK929.out⟩, ⟨by refine blk_far ?_ NB930_940.out _; exact BK930.out⟩, ⟨by refine blk_far ?_ NB935_940.out _; exact BK935.out⟩, ⟨by refine blk_put (cs := #[.slice none 0 0]) ?_ 0 _ rfl; exact BK940.out⟩, ⟨by repeat (first | exact HB.out | refine sb ?_ GE910 | refine sb ?_ GE919 | refine sb ?_ GE929 | refine sb ?_ GE930 | refine sb ?_ GE935 | refine sb ?_ GE940)⟩⟩
      case rest =>
       clear HC32
       try clear c1
       try clear c2
       try clear p2
       try clear c3
       try clear c4
       try clear c5
       try clear c6
       try clear c7
       try clear c8
       try clear c9
       try clear c10
       try clear c11
       try clear c12
       try clear c14
       try clear c17
       try clear c18
       try clear c21
       try clear c22
       try clear c25
       try clear c28
       try clear c28b0
       try clear c33
       try clear c40
       try clear c41
       try clear c42
       try clear c44
       try clear c45
       try clear c46
       try clear c52
       try clear c53
       try clear c54
       try clear c55
       try clear c61
       try clear c62
       try clear c63
       try clear c64
       try clear c65
       try clear c67
       try clear c67b0
       try clear c67b1
       try clear c68
       try clear c68b0
       try clear c68b1
       try clear c69
       try clear c69b0
       try clear c69b1
       try clear c71
       try clear c71b0
       try clear c71b1
       try clear c73
       try clear c74
       try clear c75
       try clear c76
       try clear c77
       try clear c79
       try clear c80
       try clear c81
       try clear c82
       try clear c85
       try clear c86
       try clear c87
       try clear c89
       try clear c90
       try clear c93
       try clear c94
       try clear c95
       try clear c96
       try clear c97
       try clear c99
       try clear c100
       try clear c101
       try clear c102
       try clear hcz103_0
       try clear hcz10_0
       try clear hcz15_0
       try clear hcz26_0
       try clear hcz34_0
       try clear hcz35_0
       try clear hcz43_0
       try clear hcz47_0
       try clear hcz48_0
       try clear hcz56_0
       try clear hcz57_0
       try clear hcz66_0
       try clear hcz78_0
       try clear hcz83_0
       try clear hcz88_0
       try clear hcz91_0
       try clear hcz98_0
       try clear hfz103_0
       try clear hfz10_0
       try clear hfz15_0
       try clear hfz26_0
       try clear hfz34_0
       try clear hfz35_0
       try clear hfz43_0
       try clear hfz47_0
       try clear hfz48_0
       try clear hfz56_0
       try clear hfz57_0
       try clear hfz66_0
       try clear hfz78_0
       try clear hfz83_0
       try clear hfz88_0
       try clear hfz91_0
       try clear hfz98_0
       try clear p2
       obtain ⟨kq, x97_31, rfl, HA, HJ31, HO_911000, HO_920000, HO_930000, HO_931000, HO_936000, HO_941000, BK910, BK919, BK929, BK930, BK935, BK940, HB⟩ := hcut
       cases kq with
       | zero => exact absurd HA.out (by simp [heraldlaw04_NatDivides.j1])
       | succ kj31 =>
        have H := HA.out
        clear HA
        simp only [heraldlaw04_NatDivides.j1] at H
        by_cases c105 : x97_31 = true
        ·subst c105
         have H1 : (some false) = some r := by rw [if_pos rfl] at H; exact H
         clear H
         have H := H1
         clear H1
         as_aux_lemma =>
          obtain rfl := Option.some.inj H
          go_wp2
          go_ret
          exact ⟨by first | rfl | (simp [errW_none, errW_some] <;> rfl) | (simp [*, errW_none, errW_some] <;> rfl), by repeat (first | exact HB.out | refine sb ?_ GE910 | refine sb ?_ GE919 | refine sb ?_ GE929 | refine sb ?_ GE930 | refine sb ?_ GE935 | refine sb ?_ GE940)⟩
        ·replace c105 := Bool.eq_false_iff.mpr c105
         subst c105
         have H1 : (heraldlaw04_NatDivides.j2 kj31 a2 t905) = some r := by rw [if_neg (show ¬ (false = true) by decide)] at H; exact H
         clear H
         have H := H1
         clear H1
         as_aux_lemma =>
          have H' := Aside0.mk H
          clear H
          go_wp2
          go_meet
          case rel => exact ⟨_, H', ⟨by have := HJ5.out; have := HJ31.out; first | omega | exact Nat.le_refl _⟩, ⟨by exact Kd.V_mono HO_911000.out (fun _ hk => ⟨hk.1, hk.2.1⟩)⟩, ⟨by exact Kd.V_mono HO_920000.out (fun _ hk => ⟨hk.1, hk.2.1⟩)⟩, ⟨by exact BK910.out⟩, ⟨by exact BK919.out⟩, ⟨by repeat (first | exact HB.out | refine sb ?_ GE910 | refine sb ?_ GE919 | refine sb ?_ GE929 | refine sb ?_ GE930 | refine sb ?_ GE935 | refine sb ?_ GE940)⟩⟩
     ·rw [if_neg c28] at H
      have c28b0 : decide (0 < t921) = false := decide_eq_false c28
      clear c28
      (first | rw [c28b0] | (simp only [i64_w, i32_w]; rw [c28b0]) | skip)
      as_aux_lemma =>
       have H' := Aside0.mk H
       clear H
       go_wp2
       go_meet
       case rel => exact ⟨_, H', ⟨by have := HJ5.out; first | omega | exact Nat.le_refl _⟩, ⟨by exact HO_911000.out⟩, ⟨by exact HO_920000.out⟩, ⟨by exact BK910.out⟩, ⟨by exact BK919.out⟩, ⟨by repeat (first | exact HB.out | refine sb ?_ GE910 | refine sb ?_ GE919)⟩⟩
    case rest =>
     clear HC24
     try clear c1
     try clear c2
     try clear p2
     try clear c3
     try clear c4
     try clear c5
     try clear c6
     try clear c7
     try clear c8
     try clear c9
     try clear c10
     try clear c11
     try clear c12
     try clear c14
     try clear c17
     try clear c18
     try clear c21
     try clear c22
     try clear c25
     try clear c28
     try clear c28b0
     try clear c33
     try clear c40
     try clear c41
     try clear c42
     try clear c44
     try clear c45
     try clear c46
     try clear c52
     try clear c53
     try clear c54
     try clear c55
     try clear c61
     try clear c62
     try clear c63
     try clear c64
     try clear c65
     try clear c67
     try clear c67b0
     try clear c67b1
     try clear c68
     try clear c68b0
     try clear c68b1
     try clear c69
     try clear c69b0
     try clear c69b1
     try clear c71
     try clear c71b0
     try clear c71b1
     try clear c73
     try clear c74
     try clear c75
     try clear c76
     try clear c77
     try clear c79
     try clear c80
     try clear c81
     try clear c82
     try clear c85
     try clear c86
     try clear c87
     try clear c89
     try clear c90
     try clear c93
     try clear c94
     try clear c95
     try clear c96
     try clear c97
     try clear c99
     try clear c100
     try clear c101
     try clear c102
     try clear c105
     try clear hcz103_0
     try clear hcz10_0
     try clear hcz15_0
     try clear hcz26_0
     try clear hcz34_0
     try clear hcz35_0
     try clear hcz43_0
     try clear hcz47_0
     try clear hcz48_0
     try clear hcz56_0
     try clear hcz57_0
     try clear hcz66_0
     try clear hcz78_0
     try clear hcz83_0
     try clear hcz88_0
     try clear hcz91_0
     try clear hcz98_0
     try clear hfz103_0
     try clear hfz10_0
     try clear hfz15_0
     try clear hfz26_0
     try clear hfz34_0
     try clear hfz35_0
     try clear hfz43_0
     try clear hfz47_0
     try clear hfz48_0
     try clear hfz56_0
     try clear hfz57_0
     try clear hfz66_0
     try clear hfz78_0
     try clear hfz83_0
     try clear hfz88_0
     try clear hfz91_0
     try clear hfz98_0
     try clear p2
     obtain ⟨kq, HA, HJ23, HO_911000, HO_920000, BK910, BK919, HB⟩ := hcut
     cases kq with
     | zero => exact absurd HA.out (by simp [heraldlaw04_NatDivides.j2])
     | succ kj23 =>
      have H := HA.out
      clear HA
      simp only [heraldlaw04_NatDivides.j2] at H
      have HC106 := Aside0.mk H
      clear H
      go_upto_region 11 with (fail)
      go_cut [106] (fun v106 wc => ∃ (kq : Nat) (x106_105 : Bool), v106 = .bool x106_105 ∧ Aside0 (heraldlaw04_NatDivides.j3 kq a2 x106_105 t905 = some r) ∧ Aside0 (kq ≤ kj23) ∧ Aside0 (Kd.V (Kd.int .u32) 79 wc w.heap.size (fun k_ => k_ ≠ gb910 ∧ k_ ≠ gb919) (.slice Ao9 t905.length co9) t905) ∧ Aside0 (Kd.V (Kd.int .u32) 79 wc w.heap.size (fun k_ => k_ ≠ gb910 ∧ k_ ≠ gb919) (.slice Ao13 t914.length co13) t914) ∧ Aside0 (wc.heap[gb910]? = some (.cells #[(.slice Ao9 t905.length co9)] 26 (0, 0))) ∧ Aside0 (wc.heap[gb919]? = some (.cells #[(.slice Ao13 t914.length co13)] 26 (0, 0))) ∧ Aside0 (Below w.heap.size w wc))
      case first =>
       have H := HC106.out
       clear HC106
       by_cases c107 : a2 < 0
       ·rw [if_pos c107] at H
        have c107b0 : decide (a2 < 0) = true := decide_eq_true c107
        clear c107
        (first | rw [c107b0] | (simp only [i64_w, i32_w]; rw [c107b0]) | skip)
        as_aux_lemma =>
         have H' := Aside0.mk H
         clear H
         go_wp2
         go_meet
         case rel => exact ⟨_, (true), (by first | rfl | (simp; done) | (simp [*]; done) | (simp [i64_w]; done) | (simp [*, i64_w]; done)), H', ⟨by have := HJ5.out; have := HJ23.out; first | omega | exact Nat.le_refl _⟩, ⟨by exact HO_911000.out⟩, ⟨by exact HO_920000.out⟩, ⟨by exact BK910.out⟩, ⟨by exact BK919.out⟩, ⟨by repeat (first | exact HB.out | refine sb ?_ GE910 | refine sb ?_ GE919)⟩⟩
       ·rw [if_neg c107] at H
        have c107b0 : decide (a2 < 0) = false := decide_eq_false c107
        clear c107
        (first | rw [c107b0] | (simp only [i64_w, i32_w]; rw [c107b0]) | skip)
        replace H := Option.bind_eq_some_iff.mp H
        obtain ⟨t943, A1080, H⟩ := H
        replace H : (heraldlaw04_NatDivides.j3 kj23 a2 (decide (a2 > (wrap64 (65536 - t943)))) t905) = some r := H
        have A108 := Aside0.mk A1080
        clear A1080
        as_aux_lemma =>
         have H' := Aside0.mk H
         clear H
         have hnb109 := NB910_919.out
         have hnc109 := NB919_910.out
         have hcz110_0 : wc.cell? ⟨gb910, 0, none⟩ = some (.slice Ao9 t905.length co9) := (blk_cell BK910.out 0).trans rfl
         have hfz110_0 := blk_frozen BK910.out 0
         go_wp2_with (first | (go_at_call 25; (with_reducible refine (nat_Nat_Bits.calls _ _ t905 t943 _ ?side1 ?side2 A108.out).mono ?_); (case side1 => exact (Kd.V_reads' HO_911000.out).2.2); (case side2 => exact (Kd.V_reads' HO_911000.out).2.1); rintro e w111 ⟨rfl, hb⟩; replace HO_911000 := vb HO_911000 hb; replace HO_920000 := vb HO_920000 hb; replace BK910 := bb BK910 hb; replace BK919 := bb BK919 hb; replace HB := Aside0.mk (below_step (by repeat (first | exact HB.out | refine sb ?_ GE910 | refine sb ?_ GE919)) hb); (try clear hb); (try clear hb2); (try clear hk); (try clear hi)))
         go_meet
         case rel => exact ⟨_, (decide (a2 > (wrap64 (65536 - t943)))), (by first | rfl | (simp; done) | (simp [*]; done) | (simp [i64_w]; done) | (simp [*, i64_w]; done)), H', ⟨by have := HJ5.out; have := HJ23.out; first | omega | exact Nat.le_refl _⟩, ⟨by exact HO_911000.out⟩, ⟨by exact HO_920000.out⟩, ⟨by exact BK910.out⟩, ⟨by exact BK919.out⟩, ⟨by repeat (first | exact HB.out | refine sb ?_ GE910 | refine sb ?_ GE919)⟩⟩
      case rest =>
       clear HC106
       try clear c1
       try clear c2
       try clear p2
       try clear c3
       try clear c4
       try clear c5
       try clear c6
       try clear p6
       try clear c7
       try clear c8
       try clear c9
       try clear c10
       try clear c11
       try clear c12
       try clear c14
       try clear c17
       try clear c18
       try clear c21
       try clear c22
       try clear c25
       try clear c28
       try clear c28b0
       try clear c33
       try clear c40
       try clear c41
       try clear c42
       try clear c44
       try clear c45
       try clear c46
       try clear c52
       try clear c53
       try clear c54
       try clear c55
       try clear c61
       try clear c62
       try clear c63
       try clear c64
       try clear p64
       try clear c65
       try clear c67
       try clear c67b0
       try clear c67b1
       try clear c68
       try clear c68b0
       try clear c68b1
       try clear c69
       try clear c69b0
       try clear c69b1
       try clear c71
       try clear c71b0
       try clear c71b1
       try clear c73
       try clear c74
       try clear c75
       try clear c76
       try clear c77
       try clear c79
       try clear c80
       try clear c81
       try clear c82
       try clear c85
       try clear c86
       try clear c87
       try clear c89
       try clear c90
       try clear c93
       try clear c94
       try clear c95
       try clear c96
       try clear c97
       try clear c99
       try clear c100
       try clear c101
       try clear c102
       try clear c105
       try clear c107
       try clear c107b0
       try clear c109
       try clear hcz103_0
       try clear hcz10_0
       try clear hcz110_0
       try clear hcz15_0
       try clear hcz26_0
       try clear hcz34_0
       try clear hcz35_0
       try clear hcz43_0
       try clear hcz47_0
       try clear hcz48_0
       try clear hcz56_0
       try clear hcz57_0
       try clear hcz66_0
       try clear hcz78_0
       try clear hcz83_0
       try clear hcz88_0
       try clear hcz91_0
       try clear hcz98_0
       try clear hfz103_0
       try clear hfz10_0
       try clear hfz110_0
       try clear hfz15_0
       try clear hfz26_0
       try clear hfz34_0
       try clear hfz35_0
       try clear hfz43_0
       try clear hfz47_0
       try clear hfz48_0
       try clear hfz56_0
       try clear hfz57_0
       try clear hfz66_0
       try clear hfz78_0
       try clear hfz83_0
       try clear hfz88_0
       try clear hfz91_0
       try clear hfz98_0
       try clear p2
       obtain ⟨kq, x106_105, rfl, HA, HJ105, HO_911000, HO_920000, BK910, BK919, HB⟩ := hcut
       cases kq with
       | zero => exact absurd HA.out (by simp [heraldlaw04_NatDivides.j3])
       | succ kj105 =>
        have H := HA.out
        clear HA
        simp only [heraldlaw04_NatDivides.j3] at H
        by_cases c112 : x106_105 = true
        ·subst c112
         have H1 : (some true) = some r := by rw [if_pos rfl] at H; exact H
         clear H
         have H := H1
         clear H1
         as_aux_lemma =>
          obtain rfl := Option.some.inj H
          go_wp2
          go_ret
          exact ⟨by first | rfl | (simp [errW_none, errW_some] <;> rfl) | (simp [*, errW_none, errW_some] <;> rfl), by repeat (first | exact HB.out | refine sb ?_ GE910 | refine sb ?_ GE919)⟩
        ·replace c112 := Bool.eq_false_iff.mpr c112
         subst c112
         have H1 : ((nat_Nat_Up.f kj105 t905 a2).bind fun bt944 => ((nat_Nat_Down.f kj105 bt944.1 a2).bind fun bt949 => ((nat_Of.f kj105 2).bind fun bt954 => (if bt944.2 = 0 then (if bt949.2 = 0 then (if bt954.2 = 0 then ((nat_Nat_Compare.f kj105 bt949.1 t905).bind fun t959 => (if t959 = 0 then ((nat_Nat_Bits.f t905).bind fun t960 => (if t960 > 0 then ((nat_Nat_Bits.f bt944.1).bind fun t961 => ((nat_Nat_Bits.f t905).bind fun t962 => (heraldlaw04_NatDivides.j4 kj105 a2 (t961 != (wrap64 (t962 + a2))) t905 bt944.1 bt954.1))) else (heraldlaw04_NatDivides.j4 kj105 a2 false t905 bt944.1 bt954.1))) else (heraldlaw04_NatDivides.j4 kj105 a2 true t905 bt944.1 bt954.1))) else (heraldlaw04_NatDivides.j4 kj105 a2 true t905 bt944.1 bt954.1)) else (heraldlaw04_NatDivides.j4 kj105 a2 true t905 bt944.1 bt954.1)) else (heraldlaw04_NatDivides.j4 kj105 a2 true t905 bt944.1 bt954.1))))) = some r := by rw [if_neg (show ¬ (false = true) by decide)] at H; exact H
         clear H
         have H := H1
         clear H1
         replace H := Option.bind_eq_some_iff.mp H
         obtain ⟨⟨t944, t947⟩, A1130, H⟩ := H
         replace H : ((nat_Nat_Down.f kj105 t944 a2).bind fun bt949 => ((nat_Of.f kj105 2).bind fun bt954 => (if t947 = 0 then (if bt949.2 = 0 then (if bt954.2 = 0 then ((nat_Nat_Compare.f kj105 bt949.1 t905).bind fun t959 => (if t959 = 0 then ((nat_Nat_Bits.f t905).bind fun t960 => (if t960 > 0 then ((nat_Nat_Bits.f t944).bind fun t961 => ((nat_Nat_Bits.f t905).bind fun t962 => (heraldlaw04_NatDivides.j4 kj105 a2 (t961 != (wrap64 (t962 + a2))) t905 t944 bt954.1))) else (heraldlaw04_NatDivides.j4 kj105 a2 false t905 t944 bt954.1))) else (heraldlaw04_NatDivides.j4 kj105 a2 true t905 t944 bt954.1))) else (heraldlaw04_NatDivides.j4 kj105 a2 true t905 t944 bt954.1)) else (heraldlaw04_NatDivides.j4 kj105 a2 true t905 t944 bt954.1)) else (heraldlaw04_NatDivides.j4 kj105 a2 true t905 t944 bt954.1)))) = some r := H
         have A113 := Aside0.mk A1130
         clear A1130
         replace H := Option.bind_eq_some_iff.mp H
         obtain ⟨⟨t949, t952⟩, A1140, H⟩ := H
         replace H : ((nat_Of.f kj105 2).bind fun bt954 => (if t947 = 0 then (if t952 = 0 then (if bt954.2 = 0 then ((nat_Nat_Compare.f kj105 t949 t905).bind fun t959 => (if t959 = 0 then ((nat_Nat_Bits.f t905).bind fun t960 => (if t960 > 0 then ((nat_Nat_Bits.f t944).bind fun t961 => ((nat_Nat_Bits.f t905).bind fun t962 => (heraldlaw04_NatDivides.j4 kj105 a2 (t961 != (wrap64 (t962 + a2))) t905 t944 bt954.1))) else (heraldlaw04_NatDivides.j4 kj105 a2 false t905 t944 bt954.1))) else (heraldlaw04_NatDivides.j4 kj105 a2 true t905 t944 bt954.1))) else (heraldlaw04_NatDivides.j4 kj105 a2 true t905 t944 bt954.1)) else (heraldlaw04_NatDivides.j4 kj105 a2 true t905 t944 bt954.1)) else (heraldlaw04_NatDivides.j4 kj105 a2 true t905 t944 bt954.1))) = some r := H
         have A114 := Aside0.mk A1140
         clear A1140
         replace H := Option.bind_eq_some_iff.mp H
         obtain ⟨⟨t954, t957⟩, A1150, H⟩ := H
         replace H : (if t947 = 0 then (if t952 = 0 then (if t957 = 0 then ((nat_Nat_Compare.f kj105 t949 t905).bind fun t959 => (if t959 = 0 then ((nat_Nat_Bits.f t905).bind fun t960 => (if t960 > 0 then ((nat_Nat_Bits.f t944).bind fun t961 => ((nat_Nat_Bits.f t905).bind fun t962 => (heraldlaw04_NatDivides.j4 kj105 a2 (t961 != (wrap64 (t962 + a2))) t905 t944 t954))) else (heraldlaw04_NatDivides.j4 kj105 a2 false t905 t944 t954))) else (heraldlaw04_NatDivides.j4 kj105 a2 true t905 t944 t954))) else (heraldlaw04_NatDivides.j4 kj105 a2 true t905 t944 t954)) else (heraldlaw04_NatDivides.j4 kj105 a2 true t905 t944 t954)) else (heraldlaw04_NatDivides.j4 kj105 a2 true t905 t944 t954)) = some r := H
         have A115 := Aside0.mk A1150
         clear A1150
         have HC116 := Aside0.mk H
         clear H
         have hnb117 := NB910_919.out
         have hnc117 := NB919_910.out
         have hcz118_0 : wc.cell? ⟨gb910, 0, none⟩ = some (.slice Ao9 t905.length co9) := (blk_cell BK910.out 0).trans rfl
         have hfz118_0 := blk_frozen BK910.out 0
         go_upto_region 16 with (first | ((with_reducible refine gate_callee (f := 34) rfl ?_); refine goesL_ (some 110) rfl rfl Tryd.func34 (by kernel_rfl) rfl #[.agg #[.slice Ao9 t905.length co9], .int .i64 a2] rfl (by (try simp only [List.map_toArray, List.map_cons, List.map_nil]); first | done | rfl | (simp only [List.length_drop, List.length_take]; rfl)) ?_; (with_reducible refine (nat_Nat_Up.calls kj105 _ _ t905 a2 t944 t947 _ ?side1 ?side2 A113.out).mono ?_); (case side1 => exact (Kd.V_reads' HO_911000.out).2.2); (case side2 => exact (Kd.V_reads' HO_911000.out).2.1); rintro e w119 ⟨v945, rfl, ho0, hb⟩; refine ⟨_, rfl, ?_⟩; have HO946 := Aside0.mk (Kd.V_lower (Kd.V_mono (ok' := fun k_ => k_ ≠ gb910 ∧ k_ ≠ gb919) ho0 (fun k_ hk_ => ⟨(fb BK910 k_ hk_), (fb BK919 k_ hk_)⟩)) (below_size (by repeat (first | exact HB.out | refine sb ?_ GE910 | refine sb ?_ GE919)))); replace HO_911000 := vb HO_911000 hb; replace HO_920000 := vb HO_920000 hb; replace BK910 := bb BK910 hb; replace BK919 := bb BK919 hb; replace HB := Aside0.mk (below_step (by repeat (first | exact HB.out | refine sb ?_ GE910 | refine sb ?_ GE919)) hb); (try clear hb); (try clear hk); (try clear hi); (try clear ho0)) | ((with_reducible refine gate_dst (N := 22) rfl ?_); refine box_event ?hg (N := 22) ?hd (cs := #[.slice none 0 0]) (t := 26) ?hr ?_; (case hd => rfl); (case hg => rfl); (case hr => first | (go_simp; done) | (go_simp; rfl)); intro gb948 hg w120 hbox hb; have BK948 := Aside0.mk (hbox); have GW948 := Aside0.mk ((by rw [hg]; exact (below_size (by repeat (first | exact HB.out | refine sb ?_ GE910 | refine sb ?_ GE919))) : w.heap.size ≤ gb948)); have GE948 := Aside0.mk ((by rw [hg]; exact (below_size (by repeat (first | exact HB.out | refine sb ?_ GE910 | refine sb ?_ GE919))) : w.heap.size ≤ gb948)); have NB910_948 := nl BK910 hg; have NB948_910 := ng BK910 hg; have NB919_948 := nl BK919 hg; have NB948_919 := ng BK919 hg; replace HO_911000 := ve HO_911000 gb948 hg hb; replace HO_920000 := ve HO_920000 gb948 hg hb; replace HO946 := ve HO946 gb948 hg hb; replace BK910 := bb BK910 hb; replace BK919 := bb BK919 hb; replace HB := Aside0.mk (below_step (by repeat (first | exact HB.out | refine sb ?_ GE910 | refine sb ?_ GE919)) hb); clear hb hbox hg; obtain ⟨Ao121, co121, eo121⟩ := Kd.V_slice HO946.out; subst eo121; have hnb122 := NB948_910.out; have hnc122 := NB910_948.out; have hnb123 := NB948_919.out; have hnc123 := NB919_948.out; have hcz124_0 : w120.cell? ⟨gb948, 0, none⟩ = some (.slice none 0 0) := (blk_cell BK948.out 0).trans rfl; have hfz124_0 := blk_frozen BK948.out 0) | ((with_reducible refine gate_callee (f := 36) rfl ?_); refine goesL_ (some 116) rfl rfl Tryd.func36 (by kernel_rfl) rfl #[.agg #[.slice Ao121 t944.length co121], .int .i64 a2] rfl (by (try simp only [List.map_toArray, List.map_cons, List.map_nil]); first | done | rfl | (simp only [List.length_drop, List.length_take]; rfl)) ?_; (with_reducible refine (nat_Nat_Down.calls kj105 _ _ t944 a2 t949 t952 _ ?side1 ?side2 A114.out).mono ?_); (case side1 => refine (Kd.V_reads' (e := 79) (base := w.heap.size) (ok := fun k_ => ((k_ ≠ gb910 ∧ k_ ≠ gb919) ∧ k_ ≠ gb948)) (n := t944.length) (c := co121) ?_).2.2; exact (by exact (Kd.V_mono (Kd.V_far (p := ⟨gb948, 0, none⟩) (Kd.V_mono HO946.out (fun k_ hk => (⟨hk, hk.2⟩ : _ ∧ k_ ≠ gb948))) (fun _ hk => hk.2) (.slice Ao121 t944.length co121)) (fun _ h_ => h_.1)))); (case side2 => exact (Kd.V_reads' HO946.out).2.1); rintro e w125 ⟨v950, rfl, ho0, hb⟩; refine ⟨_, rfl, ?_⟩; have HO951 := Aside0.mk (Kd.V_lower (Kd.V_mono (ok' := fun k_ => k_ ≠ gb910 ∧ k_ ≠ gb919 ∧ k_ ≠ gb948) ho0 (fun k_ hk_ => ⟨(Kd.freshB (g := gb910) (o := .cells #[.slice Ao9 t905.length co9] 26 (0, 0)) (by refine blk_far ?_ NB910_948.out _; exact BK910.out) k_ hk_), (Kd.freshB (g := gb919) (o := .cells #[.slice Ao13 t914.length co13] 26 (0, 0)) (by refine blk_far ?_ NB919_948.out _; exact BK919.out) k_ hk_), (Kd.freshB (g := gb948) (o := .cells #[.slice Ao121 t944.length co121] 26 (0, 0)) (by refine blk_put (cs := #[.slice none 0 0]) ?_ 0 _ rfl; exact BK948.out) k_ hk_)⟩)) (below_size (by repeat (first | exact HB.out | refine sb ?_ GE910 | refine sb ?_ GE919 | refine sb ?_ GE948)))); replace HO_911000 := vf HO_911000 (fun k_ hk => hk.2) hb; replace HO_920000 := vf HO_920000 (fun k_ hk => hk.2) hb; replace HO946 := vf HO946 (fun k_ hk => hk.2) hb; replace BK910 := bf BK910 NB910_948 hb; replace BK919 := bf BK919 NB919_948 hb; replace BK948 := Aside0.mk (blk_below (g := gb948) (o := .cells #[.slice Ao121 t944.length co121] 26 (0, 0)) (by refine blk_put (cs := #[.slice none 0 0]) ?_ 0 _ rfl; exact BK948.out) hb); replace HB := Aside0.mk (below_step (by repeat (first | exact HB.out | refine sb ?_ GE910 | refine sb ?_ GE919 | refine sb ?_ GE948)) hb); (try clear hb); (try clear hk); (try clear hi); (try clear ho0)) | ((with_reducible refine gate_dst (N := 24) rfl ?_); refine box_event ?hg (N := 24) ?hd (cs := #[.slice none 0 0]) (t := 26) ?hr ?_; (case hd => rfl); (case hg => rfl); (case hr => first | (go_simp; done) | (go_simp; rfl)); intro gb953 hg w126 hbox hb; have BK953 := Aside0.mk (hbox); have GW953 := Aside0.mk ((by rw [hg]; exact (below_size (by repeat (first | exact HB.out | refine sb ?_ GE910 | refine sb ?_ GE919 | refine sb ?_ GE948))) : w.heap.size ≤ gb953)); have GE953 := Aside0.mk ((by rw [hg]; exact (below_size (by repeat (first | exact HB.out | refine sb ?_ GE910 | refine sb ?_ GE919 | refine sb ?_ GE948))) : w.heap.size ≤ gb953)); have NB910_953 := nl BK910 hg; have NB953_910 := ng BK910 hg; have NB919_953 := nl BK919 hg; have NB953_919 := ng BK919 hg; have NB948_953 := nl BK948 hg; have NB953_948 := ng BK948 hg; replace HO_911000 := ve HO_911000 gb953 hg hb; replace HO_920000 := ve HO_920000 gb953 hg hb; replace HO946 := ve HO946 gb953 hg hb; replace HO951 := ve HO951 gb953 hg hb; replace BK910 := bb BK910 hb; replace BK919 := bb BK919 hb; replace BK948 := bb BK948 hb; replace HB := Aside0.mk (below_step (by repeat (first | exact HB.out | refine sb ?_ GE910 | refine sb ?_ GE919 | refine sb ?_ GE948)) hb); clear hb hbox hg; obtain ⟨Ao127, co127, eo127⟩ := Kd.V_slice HO951.out; subst eo127; have hnb128 := NB953_910.out; have hnc128 := NB910_953.out; have hnb129 := NB953_919.out; have hnc129 := NB919_953.out; have hnb130 := NB953_948.out; have hnc130 := NB948_953.out; have hcz131_0 : w126.cell? ⟨gb953, 0, none⟩ = some (.slice none 0 0) := (blk_cell BK953.out 0).trans rfl; have hfz131_0 := blk_frozen BK953.out 0) | ((with_reducible refine gate_callee (f := 13) rfl ?_); refine goesL_ (some 120) rfl rfl Tryd.func13 (by kernel_rfl) rfl #[.int .i64 2] rfl (by (try simp only [List.map_toArray, List.map_cons, List.map_nil]); first | done | rfl | (simp only [List.length_drop, List.length_take]; rfl)) ?_; (with_reducible refine (nat_Of.calls kj105 2 t954 t957 _ A115.out).mono ?_); rintro e w132 ⟨v955, rfl, ho0, hb⟩; refine ⟨_, rfl, ?_⟩; have HO956 := Aside0.mk (Kd.V_lower (Kd.V_mono (ok' := fun k_ => k_ ≠ gb910 ∧ k_ ≠ gb919 ∧ k_ ≠ gb948 ∧ k_ ≠ gb953) ho0 (fun k_ hk_ => ⟨(Kd.freshB (g := gb910) (o := .cells #[.slice Ao9 t905.length co9] 26 (0, 0)) (by refine blk_far ?_ NB910_953.out _; exact BK910.out) k_ hk_), (Kd.freshB (g := gb919) (o := .cells #[.slice Ao13 t914.length co13] 26 (0, 0)) (by refine blk_far ?_ NB919_953.out _; exact BK919.out) k_ hk_), (Kd.freshB (g := gb948) (o := .cells #[.slice Ao121 t944.length co121] 26 (0, 0)) (by refine blk_far ?_ NB948_953.out _; exact BK948.out) k_ hk_), (Kd.freshB (g := gb953) (o := .cells #[.slice Ao127 t949.length co127] 26 (0, 0)) (by refine blk_put (cs := #[.slice none 0 0]) ?_ 0 _ rfl; exact BK953.out) k_ hk_)⟩)) (below_size (by repeat (first | exact HB.out | refine sb ?_ GE910 | refine sb ?_ GE919 | refine sb ?_ GE948 | refine sb ?_ GE953)))); replace HO_911000 := vf HO_911000 (fun k_ hk => hk.2) hb; replace HO_920000 := vf HO_920000 (fun k_ hk => hk.2) hb; replace HO946 := vf HO946 (fun k_ hk => hk.2) hb; replace HO951 := vf HO951 (fun k_ hk => hk.2) hb; replace BK910 := bf BK910 NB910_953 hb; replace BK919 := bf BK919 NB919_953 hb; replace BK948 := bf BK948 NB948_953 hb; replace BK953 := Aside0.mk (blk_below (g := gb953) (o := .cells #[.slice Ao127 t949.length co127] 26 (0, 0)) (by refine blk_put (cs := #[.slice none 0 0]) ?_ 0 _ rfl; exact BK953.out) hb); replace HB := Aside0.mk (below_step (by repeat (first | exact HB.out | refine sb ?_ GE910 | refine sb ?_ GE919 | refine sb ?_ GE948 | refine sb ?_ GE953)) hb); (try clear hb); (try clear hk); (try clear hi); (try clear ho0)) | ((with_reducible refine gate_dst (N := 26) rfl ?_); refine box_event ?hg (N := 26) ?hd (cs := #[.slice none 0 0]) (t := 26) ?hr ?_; (case hd => rfl); (case hg => rfl); (case hr => first | (go_simp; done) | (go_simp; rfl)); intro gb958 hg w133 hbox hb; have BK958 := Aside0.mk (hbox); have GW958 := Aside0.mk ((by rw [hg]; exact (below_size (by repeat (first | exact HB.out | refine sb ?_ GE910 | refine sb ?_ GE919 | refine sb ?_ GE948 | refine sb ?_ GE953))) : w.heap.size ≤ gb958)); have GE958 := Aside0.mk ((by rw [hg]; exact (below_size (by repeat (first | exact HB.out | refine sb ?_ GE910 | refine sb ?_ GE919 | refine sb ?_ GE948 | refine sb ?_ GE953))) : w.heap.size ≤ gb958)); have NB910_958 := nl BK910 hg; have NB958_910 := ng BK910 hg; have NB919_958 := nl BK919 hg; have NB958_919 := ng BK919 hg; have NB948_958 := nl BK948 hg; have NB958_948 := ng BK948 hg; have NB953_958 := nl BK953 hg; have NB958_953 := ng BK953 hg; replace HO_911000 := ve HO_911000 gb958 hg hb; replace HO_920000 := ve HO_920000 gb958 hg hb; replace HO946 := ve HO946 gb958 hg hb; replace HO951 := ve HO951 gb958 hg hb; replace HO956 := ve HO956 gb958 hg hb; replace BK910 := bb BK910 hb; replace BK919 := bb BK919 hb; replace BK948 := bb BK948 hb; replace BK953 := bb BK953 hb; replace HB := Aside0.mk (below_step (by repeat (first | exact HB.out | refine sb ?_ GE910 | refine sb ?_ GE919 | refine sb ?_ GE948 | refine sb ?_ GE953)) hb); clear hb hbox hg; obtain ⟨Ao134, co134, eo134⟩ := Kd.V_slice HO956.out; subst eo134; have hnb135 := NB958_910.out; have hnc135 := NB910_958.out; have hnb136 := NB958_919.out; have hnc136 := NB919_958.out; have hnb137 := NB958_948.out; have hnc137 := NB948_958.out; have hnb138 := NB958_953.out; have hnc138 := NB953_958.out; have hcz139_0 : w133.cell? ⟨gb958, 0, none⟩ = some (.slice none 0 0) := (blk_cell BK958.out 0).trans rfl; have hfz139_0 := blk_frozen BK958.out 0))
         (try simp only [Act.put, List.setIfInBounds_toArray, List.set_cons_zero, List.set_cons_succ])
         go_cut [152] (fun v152 wc => ∃ (kq : Nat) (x152_115 : Bool), v152 = .bool x152_115 ∧ Aside0 (heraldlaw04_NatDivides.j4 kq a2 x152_115 t905 t944 t954 = some r) ∧ Aside0 (kq ≤ kj105) ∧ Aside0 (Kd.V (Kd.int .u32) 79 wc w.heap.size (fun k_ => k_ ≠ gb910 ∧ k_ ≠ gb919 ∧ k_ ≠ gb948 ∧ k_ ≠ gb953 ∧ k_ ≠ gb958) (.slice Ao9 t905.length co9) t905) ∧ Aside0 (Kd.V (Kd.int .u32) 79 wc w.heap.size (fun k_ => k_ ≠ gb910 ∧ k_ ≠ gb919 ∧ k_ ≠ gb948 ∧ k_ ≠ gb953 ∧ k_ ≠ gb958) (.slice Ao13 t914.length co13) t914) ∧ Aside0 (Kd.V (Kd.int .u32) 79 wc w.heap.size (fun k_ => k_ ≠ gb910 ∧ k_ ≠ gb919 ∧ k_ ≠ gb948 ∧ k_ ≠ gb953 ∧ k_ ≠ gb958) (.slice Ao121 t944.length co121) t944) ∧ Aside0 (Kd.V (Kd.int .u32) 79 wc w.heap.size (fun k_ => k_ ≠ gb910 ∧ k_ ≠ gb919 ∧ k_ ≠ gb948 ∧ k_ ≠ gb953 ∧ k_ ≠ gb958) (.slice Ao127 t949.length co127) t949) ∧ Aside0 (Kd.V (Kd.int .u32) 79 wc w.heap.size (fun k_ => k_ ≠ gb910 ∧ k_ ≠ gb919 ∧ k_ ≠ gb948 ∧ k_ ≠ gb953 ∧ k_ ≠ gb958) (.slice Ao134 t954.length co134) t954) ∧ Aside0 (wc.heap[gb910]? = some (.cells #[(.slice Ao9 t905.length co9)] 26 (0, 0))) ∧ Aside0 (wc.heap[gb919]? = some (.cells #[(.slice Ao13 t914.length co13)] 26 (0, 0))) ∧ Aside0 (wc.heap[gb948]? = some (.cells #[(.slice Ao121 t944.length co121)] 26 (0, 0))) ∧ Aside0 (wc.heap[gb953]? = some (.cells #[(.slice Ao127 t949.length co127)] 26 (0, 0))) ∧ Aside0 (wc.heap[gb958]? = some (.cells #[(.slice Ao134 t954.length co134)] 26 (0, 0))) ∧ Aside0 (Below w.heap.size w wc))
         case first =>
          have H := HC116.out
          clear HC116
          by_cases c140 : t947 = 0
          ·rw [if_pos c140] at H
           have c140b0 : (t947 == 0) = true := beq_iff_eq.mpr c140
           have c140b1 : (t947 != 0) = false := bne_eq_false_iff_eq.mpr c140
           clear c140
           (first | rw [c140b0] | (simp only [i64_w, i32_w]; rw [c140b0]) | skip)
           by_cases c141 : t952 = 0
           ·rw [if_pos c141] at H
            have c141b0 : (t952 == 0) = true := beq_iff_eq.mpr c141
            have c141b1 : (t952 != 0) = false := bne_eq_false_iff_eq.mpr c141
            clear c141
            by_cases c142 : t957 = 0
            ·rw [if_pos c142] at H
             have c142b0 : (t957 == 0) = true := beq_iff_eq.mpr c142
             have c142b1 : (t957 != 0) = false := bne_eq_false_iff_eq.mpr c142
             clear c142
             replace H := Option.bind_eq_some_iff.mp H
             obtain ⟨t959, A1430, H⟩ := H
             replace H : (if t959 = 0 then ((nat_Nat_Bits.f t905).bind fun t960 => (if t960 > 0 then ((nat_Nat_Bits.f t944).bind fun t961 => ((nat_Nat_Bits.f t905).bind fun t962 => (heraldlaw04_NatDivides.j4 kj105 a2 (t961 != (wrap64 (t962 + a2))) t905 t944 t954))) else (heraldlaw04_NatDivides.j4 kj105 a2 false t905 t944 t954))) else (heraldlaw04_NatDivides.j4 kj105 a2 true t905 t944 t954)) = some r := H
             have A143 := Aside0.mk A1430
             clear A1430
             by_cases c144 : t959 = 0
             ·rw [if_pos c144] at H
              have c144b0 : (t959 == 0) = true := beq_iff_eq.mpr c144
              have c144b1 : (t959 != 0) = false := bne_eq_false_iff_eq.mpr c144
              clear c144
              replace H := Option.bind_eq_some_iff.mp H
              obtain ⟨t960, A1450, H⟩ := H
              replace H : (if t960 > 0 then ((nat_Nat_Bits.f t944).bind fun t961 => ((nat_Nat_Bits.f t905).bind fun t962 => (heraldlaw04_NatDivides.j4 kj105 a2 (t961 != (wrap64 (t962 + a2))) t905 t944 t954))) else (heraldlaw04_NatDivides.j4 kj105 a2 false t905 t944 t954)) = some r := H
              have A145 := Aside0.mk A1450
              clear A1450
              by_cases c146 : t960 > 0
              ·rw [if_pos c146] at H
               have c146b0 : decide (0 < t960) = true := decide_eq_true c146
               clear c146
               replace H := Option.bind_eq_some_iff.mp H
               obtain ⟨t961, A1470, H⟩ := H
               replace H : ((nat_Nat_Bits.f t905).bind fun t962 => (heraldlaw04_NatDivides.j4 kj105 a2 (t961 != (wrap64 (t962 + a2))) t905 t944 t954)) = some r := H
               have A147 := Aside0.mk A1470
               clear A1470
               replace H := Option.bind_eq_some_iff.mp H
               obtain ⟨t962, A1480, H⟩ := H
               replace H : (heraldlaw04_NatDivides.j4 kj105 a2 (t961 != (wrap64 (t962 + a2))) t905 t944 t954) = some r := H
               have A148 := Aside0.mk A1480
               clear A1480
               as_aux_lemma =>
                have H' := Aside0.mk H
                clear H
                try go_wp2
                have n0_ : Aside0 (Kd.V (Kd.int .u32) 79 (w133.setCell ⟨gb958, 0, none⟩ (.slice Ao134 t954.length co134)) w.heap.size (fun k_ => k_ ≠ gb910 ∧ k_ ≠ gb919 ∧ k_ ≠ gb948 ∧ k_ ≠ gb953 ∧ k_ ≠ gb958) (.slice Ao9 t905.length co9) t905) := ⟨by exact Kd.V_mono (Kd.V_far (p := ⟨gb958, 0, none⟩) (Kd.V_mono HO_911000.out (fun k_ hk => (⟨hk, hk.2⟩ : _ ∧ k_ ≠ gb958))) (fun _ hk => hk.2) (.slice Ao134 t954.length co134)) (fun _ hk => ⟨hk.1.1.1.1.1, ⟨hk.1.1.1.1.2, ⟨hk.1.1.1.2, ⟨hk.1.1.2, hk.1.2⟩⟩⟩⟩)⟩
                have n1_ : Aside0 (Kd.V (Kd.int .u32) 79 (w133.setCell ⟨gb958, 0, none⟩ (.slice Ao134 t954.length co134)) w.heap.size (fun k_ => k_ ≠ gb910 ∧ k_ ≠ gb919 ∧ k_ ≠ gb948 ∧ k_ ≠ gb953 ∧ k_ ≠ gb958) (.slice Ao13 t914.length co13) t914) := ⟨by exact Kd.V_mono (Kd.V_far (p := ⟨gb958, 0, none⟩) (Kd.V_mono HO_920000.out (fun k_ hk => (⟨hk, hk.2⟩ : _ ∧ k_ ≠ gb958))) (fun _ hk => hk.2) (.slice Ao134 t954.length co134)) (fun _ hk => ⟨hk.1.1.1.1.1, ⟨hk.1.1.1.1.2, ⟨hk.1.1.1.2, ⟨hk.1.1.2, hk.1.2⟩⟩⟩⟩)⟩
                have n2_ : Aside0 (Kd.V (Kd.int .u32) 79 (w133.setCell ⟨gb958, 0, none⟩ (.slice Ao134 t954.length co134)) w.heap.size (fun k_ => k_ ≠ gb910 ∧ k_ ≠ gb919 ∧ k_ ≠ gb948 ∧ k_ ≠ gb953 ∧ k_ ≠ gb958) (.slice Ao121 t944.length co121) t944) := ⟨by exact Kd.V_mono (Kd.V_far (p := ⟨gb958, 0, none⟩) (Kd.V_mono HO946.out (fun k_ hk => (⟨hk, hk.2⟩ : _ ∧ k_ ≠ gb958))) (fun _ hk => hk.2) (.slice Ao134 t954.length co134)) (fun _ hk => ⟨hk.1.1.1.1.1, ⟨hk.1.1.1.1.2, ⟨hk.1.1.1.2, ⟨hk.1.1.2, hk.1.2⟩⟩⟩⟩)⟩
                have n3_ : Aside0 (Kd.V (Kd.int .u32) 79 (w133.setCell ⟨gb958, 0, none⟩ (.slice Ao134 t954.length co134)) w.heap.size (fun k_ => k_ ≠ gb910 ∧ k_ ≠ gb919 ∧ k_ ≠ gb948 ∧ k_ ≠ gb953 ∧ k_ ≠ gb958) (.slice Ao127 t949.length co127) t949) := ⟨by exact Kd.V_mono (Kd.V_far (p := ⟨gb958, 0, none⟩) (Kd.V_mono HO951.out (fun k_ hk => (⟨hk, hk.2⟩ : _ ∧ k_ ≠ gb958))) (fun _ hk => hk.2) (.slice Ao134 t954.length co134)) (fun _ hk => ⟨hk.1.1.1.1, ⟨hk.1.1.1.2.1, ⟨hk.1.1.1.2.2, ⟨hk.1.1.2, hk.1.2⟩⟩⟩⟩)⟩
                have n4_ : Aside0 (Kd.V (Kd.int .u32) 79 (w133.setCell ⟨gb958, 0, none⟩ (.slice Ao134 t954.length co134)) w.heap.size (fun k_ => k_ ≠ gb910 ∧ k_ ≠ gb919 ∧ k_ ≠ gb948 ∧ k_ ≠ gb953 ∧ k_ ≠ gb958) (.slice Ao134 t954.length co134) t954) := ⟨by exact Kd.V_mono (Kd.V_far (p := ⟨gb958, 0, none⟩) (Kd.V_mono HO956.out (fun k_ hk => (⟨hk, hk.2⟩ : _ ∧ k_ ≠ gb958))) (fun _ hk => hk.2) (.slice Ao134 t954.length co134)) (fun _ hk => ⟨hk.1.1.1, ⟨hk.1.1.2.1, ⟨hk.1.1.2.2.1, ⟨hk.1.1.2.2.2, hk.1.2⟩⟩⟩⟩)⟩
                have n5_ : Aside0 ((w133.setCell ⟨gb958, 0, none⟩ (.slice Ao134 t954.length co134)).heap[gb910]? = some (.cells #[.slice Ao9 t905.length co9] 26 (0, 0))) := ⟨by refine blk_far ?_ NB910_958.out _; exact BK910.out⟩
                have n6_ : Aside0 ((w133.setCell ⟨gb958, 0, none⟩ (.slice Ao134 t954.length co134)).heap[gb919]? = some (.cells #[.slice Ao13 t914.length co13] 26 (0, 0))) := ⟨by refine blk_far ?_ NB919_958.out _; exact BK919.out⟩
                have n7_ : Aside0 ((w133.setCell ⟨gb958, 0, none⟩ (.slice Ao134 t954.length co134)).heap[gb948]? = some (.cells #[.slice Ao121 t944.length co121] 26 (0, 0))) := ⟨by refine blk_far ?_ NB948_958.out _; exact BK948.out⟩
                have n8_ : Aside0 ((w133.setCell ⟨gb958, 0, none⟩ (.slice Ao134 t954.length co134)).heap[gb953]? = some (.cells #[.slice Ao127 t949.length co127] 26 (0, 0))) := ⟨by refine blk_far ?_ NB953_958.out _; exact BK953.out⟩
                have n9_ : Aside0 ((w133.setCell ⟨gb958, 0, none⟩ (.slice Ao134 t954.length co134)).heap[gb958]? = some (.cells #[.slice Ao134 t954.length co134] 26 (0, 0))) := ⟨by refine blk_put (cs := #[.slice none 0 0]) ?_ 0 _ rfl; exact BK958.out⟩
                have n10_ : Aside0 (Below w.heap.size w (w133.setCell ⟨gb958, 0, none⟩ (.slice Ao134 t954.length co134))) := ⟨by repeat (first | exact HB.out | refine sb ?_ GE910 | refine sb ?_ GE919 | refine sb ?_ GE948 | refine sb ?_ GE953 | refine sb ?_ GE958)⟩
                (try clear HO_911000)
                (try clear HO_920000)
                (try clear HO946)
                (try clear HO951)
                (try clear HO956)
                (try clear BK910)
                (try clear BK919)
                (try clear BK948)
                (try clear BK953)
                (try clear BK958)
                (try clear HB)
                generalize (w133.setCell ⟨gb958, 0, none⟩ (.slice Ao134 t954.length co134)) = w149 at n0_ n1_ n2_ n3_ n4_ n5_ n6_ n7_ n8_ n9_ n10_ ⊢
                have HO_911000 := n0_
                have HO_920000 := n1_
                have HO946 := n2_
                have HO951 := n3_
                have HO956 := n4_
                have BK910 := n5_
                have BK919 := n6_
                have BK948 := n7_
                have BK953 := n8_
                have BK958 := n9_
                have HB := n10_
                clear n0_ n1_ n2_ n3_ n4_ n5_ n6_ n7_ n8_ n9_ n10_
                replace HO_911000 := Aside0.mk (Kd.V_drew HO_911000.out)
                replace HO_920000 := Aside0.mk (Kd.V_drew HO_920000.out)
                replace HO946 := Aside0.mk (Kd.V_drew HO946.out)
                replace HO951 := Aside0.mk (Kd.V_drew HO951.out)
                replace HO956 := Aside0.mk (Kd.V_drew HO956.out)
                replace BK910 := Aside0.mk (blk_drew BK910.out)
                replace BK919 := Aside0.mk (blk_drew BK919.out)
                replace BK948 := Aside0.mk (blk_drew BK948.out)
                replace BK953 := Aside0.mk (blk_drew BK953.out)
                replace BK958 := Aside0.mk (blk_drew BK958.out)
                replace HB := Aside0.mk (below_drew1 HB.out)
                refine start_ (n := 30) (S := fun w' => w'.cell? ⟨gb953, 0, none⟩ = some (.slice Ao127 t949.length co127) ∧ w'.cell? ⟨gb910, 0, none⟩ = some (.slice Ao9 t905.length co9) ∧ w'.cell? ⟨gb948, 0, none⟩ = some (.slice Ao121 t944.length co121)) (ds := []) #[false, false, false, false, false, false, false, false, false, false, false, false, false, false, false, false, false, false, false, false, false, false, false, false, false, false, false, false, false, false] (by kernel_rfl) rfl rfl ⟨(blk_cell BK953.out 0).trans rfl, (blk_cell BK910.out 0).trans rfl, (blk_cell BK948.out 0).trans rfl⟩ (fun hHeld => ?_); refine with_tabW heraldlaw04_NatDivides.tab16 heraldlaw04_NatDivides.bits16 (fun HT_ HW_ => ?_)
                generalize w149.drew = w150 at HO_911000 HO_920000 HO946 HO951 HO956 BK910 BK919 BK948 BK953 BK958 HB hHeld ⊢
                refine pure_ (i := 0) (N := some 123) (v := ?_) (a' := ?_) #[true, false, false, false, false, false, false, false, false, false, false, false, false, false, false, false, false, false, false, false, false, false, false, false, false, false, false, false, false, false] rfl rfl (any_of HT_.out (by kernel_rfl)) (fun _ _ _ h => h) (Or.inl ⟨by rfl, ?_⟩) ?_ ?_
                rotate_left
                ·intro w'
                 go_simp
                 with_reducible rfl
                rotate_left
                ·simp only [Act.put, sa, sz, ss, i64_w, i32_w]
                 rfl
                refine pure_ (i := 1) (N := some 124) (v := ?_) (a' := ?_) #[true, true, false, false, false, false, false, false, false, false, false, false, false, false, false, false, false, false, false, false, false, false, false, false, false, false, false, false, false, false] rfl rfl (any_of HT_.out (by kernel_rfl)) (fun _ _ _ h => h) (Or.inl ⟨by rfl, ?_⟩) ?_ ?_
                rotate_left
                ·intro w'
                 go_simp
                 with_reducible rfl
                rotate_left
                ·simp only [Act.put, sa, sz, ss, i64_w, i32_w]
                 rfl
                refine pure_ (i := 2) (N := some 125) (v := ?_) (a' := ?_) #[true, true, true, false, false, false, false, false, false, false, false, false, false, false, false, false, false, false, false, false, false, false, false, false, false, false, false, false, false, false] rfl rfl (any_of HT_.out (by kernel_rfl)) (fun _ _ _ h => h) (Or.inl ⟨by rfl, ?_⟩) ?_ ?_
                rotate_left
                ·intro w'
                 go_simp
                 with_reducible rfl
                rotate_left
                ·simp only [Act.put, sa, sz, ss, i64_w, i32_w]
                 rfl
                refine pure_ (i := 3) (N := some 126) (v := ?_) (a' := ?_) #[true, true, true, true, false, false, false, false, false, false, false, false, false, false, false, false, false, false, false, false, false, false, false, false, false, false, false, false, false, false] rfl rfl (any_of HT_.out (by kernel_rfl)) (fun _ _ _ h => h) (Or.inl ⟨by rfl, ?_⟩) ?_ ?_
                rotate_left
                ·intro w'
                 go_simp
                 with_reducible rfl
                rotate_left
                ·simp only [Act.put, sa, sz, ss, i64_w, i32_w]
                 rfl
                refine pure_ (i := 4) (N := some 127) (v := ?_) (a' := ?_) #[true, true, true, true, true, false, false, false, false, false, false, false, false, false, false, false, false, false, false, false, false, false, false, false, false, false, false, false, false, false] rfl rfl (any_of HT_.out (by kernel_rfl)) (fun _ _ _ h => h) (Or.inl ⟨by rfl, ?_⟩) ?_ ?_
                rotate_left
                ·intro w'
                 go_simp
                 with_reducible rfl
                rotate_left
                ·simp only [Act.put, sa, sz, ss, i64_w, i32_w]
                 rfl
                refine pure_ (i := 5) (N := some 128) (v := ?_) (a' := ?_) #[true, true, true, true, true, true, false, false, false, false, false, false, false, false, false, false, false, false, false, false, false, false, false, false, false, false, false, false, false, false] rfl rfl (any_of HT_.out (by kernel_rfl)) (fun _ _ _ h => h) (Or.inl ⟨by rfl, ?_⟩) ?_ ?_
                rotate_left
                ·intro w'
                 go_simp
                 with_reducible rfl
                rotate_left
                ·simp only [Act.put, sa, sz, ss, i64_w, i32_w]
                 rfl
                refine pure_ (i := 6) (N := some 129) (v := ?_) (a' := ?_) #[true, true, true, true, true, true, true, false, false, false, false, false, false, false, false, false, false, false, false, false, false, false, false, false, false, false, false, false, false, false] rfl rfl (any_of HT_.out (by kernel_rfl)) (fun _ _ _ h => h) (Or.inl ⟨by rfl, ?_⟩) ?_ ?_
                rotate_left
                ·intro w'
                 go_simp
                 with_reducible rfl
                rotate_left
                ·simp only [Act.put, sa, sz, ss, i64_w, i32_w]
                 rfl
                refine pure_ (i := 7) (N := some 130) (v := ?_) (a' := ?_) #[true, true, true, true, true, true, true, true, false, false, false, false, false, false, false, false, false, false, false, false, false, false, false, false, false, false, false, false, false, false] rfl rfl (any_of HT_.out (by kernel_rfl)) (fun _ _ _ h => h) (Or.inl ⟨by rfl, ?_⟩) ?_ ?_
                rotate_left
                ·intro w'
                 go_simp
                 with_reducible rfl
                rotate_left
                ·simp only [Act.put, sa, sz, ss, i64_w, i32_w]
                 rfl
                refine pure_ (i := 8) (N := some 131) (v := ?_) (a' := ?_) #[true, true, true, true, true, true, true, true, true, false, false, false, false, false, false, false, false, false, false, false, false, false, false, false, false, false, false, false, false, false] rfl rfl (any_of HT_.out (by kernel_rfl)) (fun _ _ _ h => h) (Or.inl ⟨by rfl, ?_⟩) ?_ ?_
                rotate_left
                ·intro w'
                 go_simp
                 with_reducible rfl
                rotate_left
                ·simp only [Act.put, sa, sz, ss, i64_w, i32_w]
                 rfl
                refine pure_ (i := 9) (N := some 132) (v := ?_) (a' := ?_) #[true, true, true, true, true, true, true, true, true, true, false, false, false, false, false, false, false, false, false, false, false, false, false, false, false, false, false, false, false, false] rfl rfl (any_of HT_.out (by kernel_rfl)) (fun _ _ _ h => h) (Or.inl ⟨by rfl, ?_⟩) ?_ ?_
                rotate_left
                ·intro w'
                 go_simp
                 with_reducible rfl
                rotate_left
                ·simp only [Act.put, sa, sz, ss, i64_w, i32_w]
                 rfl
                refine pure_ (i := 10) (N := some 133) (v := ?_) (a' := ?_) #[true, true, true, true, true, true, true, true, true, true, true, false, false, false, false, false, false, false, false, false, false, false, false, false, false, false, false, false, false, false] rfl rfl (any_of HT_.out (by kernel_rfl)) (fun _ _ _ h => h) (Or.inl ⟨by rfl, ?_⟩) ?_ ?_
                rotate_left
                ·intro w'
                 go_simp
                 with_reducible rfl
                rotate_left
                ·simp only [Act.put, sa, sz, ss, i64_w, i32_w]
                 rfl
                refine take_ (i := 11) (N := some 134) (v := ?_) (a' := ?_) #[true, true, true, true, true, true, true, true, true, true, true, true, false, false, false, false, false, false, false, false, false, false, false, false, false, false, false, false, false, false] rfl rfl (take_ofW HT_.out HW_.out (by kernel_rfl)) (fun _ _ _ h => h) (Or.inl ⟨by rfl, ?_⟩) hHeld ?_ ?_
                rotate_left
                ·rintro w' ⟨s0, s1, s2⟩
                 go_simp
                 with_reducible rfl
                rotate_left
                ·simp only [Act.put, sa, sz, ss, i64_w, i32_w]
                 rfl
                refine take_ (i := 12) (N := some 135) (v := ?_) (a' := ?_) #[true, true, true, true, true, true, true, true, true, true, true, true, true, false, false, false, false, false, false, false, false, false, false, false, false, false, false, false, false, false] rfl rfl (take_ofW HT_.out HW_.out (by kernel_rfl)) (fun _ _ _ h => h) (Or.inl ⟨by rfl, ?_⟩) hHeld ?_ ?_
                rotate_left
                ·rintro w' ⟨s0, s1, s2⟩
                 go_simp
                 with_reducible rfl
                rotate_left
                ·simp only [Act.put, sa, sz, ss, i64_w, i32_w]
                 rfl
                refine one_ (i := 13) (N := some 136) #[true, true, true, true, true, true, true, true, true, true, true, true, true, true, false, false, false, false, false, false, false, false, false, false, false, false, false, false, false, false] rfl rfl (one_of HT_.out (by kernel_rfl)) (by decide) (fun K hK => ?_)
                refine goes_ Tryd.func29 (by kernel_rfl) rfl #[.agg #[.slice Ao127 t949.length co127], .agg #[.slice Ao9 t905.length co9]] (by rfl) rfl rfl (by (try simp only [List.map_toArray, List.map_cons, List.map_nil]); first | done | rfl | (simp only [List.length_drop, List.length_take]; rfl)) ?_
                with_reducible refine (nat_Nat_Compare.calls kj105 _ _ t949 _ _ t905 t959 _ ?side1 ?side2 ?side3 ?side4 A143.out).mono ?_
                (case side1 => exact (Kd.V_reads' HO951.out).2.2)
                (case side2 => exact (Kd.V_reads' HO951.out).2.1)
                (case side3 => exact (Kd.V_reads' HO_911000.out).2.2)
                (case side4 => exact (Kd.V_reads' HO_911000.out).2.1)
                rintro e w151 ⟨rfl, hb⟩
                refine ⟨_, rfl, ?_⟩
                replace HO_911000 := vb HO_911000 hb
                replace HO_920000 := vb HO_920000 hb
                replace HO946 := vb HO946 hb
                replace HO951 := vb HO951 hb
                replace HO956 := vb HO956 hb
                replace BK910 := bb BK910 hb
                replace BK919 := bb BK919 hb
                replace BK948 := bb BK948 hb
                replace BK953 := bb BK953 hb
                replace BK958 := bb BK958 hb
                replace HB := Aside0.mk (below_step (by repeat (first | exact HB.out | refine sb ?_ GE910 | refine sb ?_ GE919 | refine sb ?_ GE948 | refine sb ?_ GE953 | refine sb ?_ GE958)) hb)
                (try clear hb)
                (try clear hb2)
                (try clear hk)
                (try clear hi)
                refine hK.out _ _ ⟨(blk_cell BK953.out 0).trans rfl, (blk_cell BK910.out 0).trans rfl, (blk_cell BK948.out 0).trans rfl⟩ (fun hHeld => ?_)
                clear hK K
                refine norm_ (a' := ?_) ?_ ?_
                rotate_left
                ·show Act.put _ (some 136) _ = _
                 simp only [Act.put, sa, sz, ss, i64_w, i32_w]
                 rfl
                refine pure_ (i := 14) (N := some 137) (v := ?_) (a' := ?_) #[true, true, true, true, true, true, true, true, true, true, true, true, true, true, true, false, false, false, false, false, false, false, false, false, false, false, false, false, false, false] rfl rfl (any_of HT_.out (by kernel_rfl)) (fun _ _ _ h => h) (Or.inl ⟨by rfl, ?_⟩) ?_ ?_
                rotate_left
                ·intro w'
                 go_simp
                 with_reducible rfl
                rotate_left
                ·simp only [Act.put, sa, sz, ss, i64_w, i32_w]
                 rfl
                refine pure_ (i := 15) (N := some 138) (v := ?_) (a' := ?_) #[true, true, true, true, true, true, true, true, true, true, true, true, true, true, true, true, false, false, false, false, false, false, false, false, false, false, false, false, false, false] rfl rfl (any_of HT_.out (by kernel_rfl)) (fun _ _ _ h => h) (Or.inl ⟨by rfl, ?_⟩) ?_ ?_
                rotate_left
                ·intro w'
                 go_simp
                 with_reducible rfl
                rotate_left
                ·simp only [Act.put, sa, sz, ss, i64_w, i32_w]
                 rfl
                refine pure_ (i := 16) (N := some 139) (v := ?_) (a' := ?_) #[true, true, true, true, true, true, true, true, true, true, true, true, true, true, true, true, true, false, false, false, false, false, false, false, false, false, false, false, false, false] rfl rfl (any_of HT_.out (by kernel_rfl)) (fun _ _ _ h => h) (Or.inl ⟨by rfl, ?_⟩) ?_ ?_
                rotate_left
                ·intro w'
                 go_simp
                 with_reducible rfl
                rotate_left
                ·simp only [Act.put, sa, sz, ss, i64_w, i32_w]
                 rfl
                refine take_ (i := 17) (N := some 140) (v := ?_) (a' := ?_) #[true, true, true, true, true, true, true, true, true, true, true, true, true, true, true, true, true, true, false, false, false, false, false, false, false, false, false, false, false, false] rfl rfl (take_ofW HT_.out HW_.out (by kernel_rfl)) (fun _ _ _ h => h) (Or.inl ⟨by rfl, ?_⟩) hHeld ?_ ?_
                rotate_left
                ·rintro w' ⟨s0, s1, s2⟩
                 go_simp
                 with_reducible rfl
                rotate_left
                ·simp only [Act.put, sa, sz, ss, i64_w, i32_w]
                 rfl
                refine one_ (i := 18) (N := some 141) #[true, true, true, true, true, true, true, true, true, true, true, true, true, true, true, true, true, true, true, false, false, false, false, false, false, false, false, false, false, false] rfl rfl (one_of HT_.out (by kernel_rfl)) (by decide) (fun K hK => ?_)
                refine goes_ Tryd.func25 (by kernel_rfl) rfl #[.agg #[.slice Ao9 t905.length co9]] (by rfl) rfl rfl (by (try simp only [List.map_toArray, List.map_cons, List.map_nil]); first | done | rfl | (simp only [List.length_drop, List.length_take]; rfl)) ?_
                with_reducible refine (nat_Nat_Bits.calls _ _ t905 t960 _ ?side1 ?side2 A145.out).mono ?_
                (case side1 => exact (Kd.V_reads' HO_911000.out).2.2)
                (case side2 => exact (Kd.V_reads' HO_911000.out).2.1)
                rintro e w152 ⟨rfl, hb⟩
                refine ⟨_, rfl, ?_⟩
                replace HO_911000 := vb HO_911000 hb
                replace HO_920000 := vb HO_920000 hb
                replace HO946 := vb HO946 hb
                replace HO951 := vb HO951 hb
                replace HO956 := vb HO956 hb
                replace BK910 := bb BK910 hb
                replace BK919 := bb BK919 hb
                replace BK948 := bb BK948 hb
                replace BK953 := bb BK953 hb
                replace BK958 := bb BK958 hb
                replace HB := Aside0.mk (below_step (by repeat (first | exact HB.out | refine sb ?_ GE910 | refine sb ?_ GE919 | refine sb ?_ GE948 | refine sb ?_ GE953 | refine sb ?_ GE958)) hb)
                (try clear hb)
                (try clear hb2)
                (try clear hk)
                (try clear hi)
                refine hK.out _ _ ⟨(blk_cell BK953.out 0).trans rfl, (blk_cell BK910.out 0).trans rfl, (blk_cell BK948.out 0).trans rfl⟩ (fun hHeld => ?_)
                clear hK K
                refine norm_ (a' := ?_) ?_ ?_
                rotate_left
                ·show Act.put _ (some 141) _ = _
                 simp only [Act.put, sa, sz, ss, i64_w, i32_w]
                 rfl
                refine pure_ (i := 19) (N := some 142) (v := ?_) (a' := ?_) #[true, true, true, true, true, true, true, true, true, true, true, true, true, true, true, true, true, true, true, true, false, false, false, false, false, false, false, false, false, false] rfl rfl (any_of HT_.out (by kernel_rfl)) (fun _ _ _ h => h) (Or.inl ⟨by rfl, ?_⟩) ?_ ?_
                rotate_left
                ·intro w'
                 go_simp
                 with_reducible rfl
                rotate_left
                ·simp only [Act.put, sa, sz, ss, i64_w, i32_w]
                 rfl
                refine pure_ (i := 20) (N := some 143) (v := ?_) (a' := ?_) #[true, true, true, true, true, true, true, true, true, true, true, true, true, true, true, true, true, true, true, true, true, false, false, false, false, false, false, false, false, false] rfl rfl (any_of HT_.out (by kernel_rfl)) (fun _ _ _ h => h) (Or.inl ⟨by rfl, ?_⟩) ?_ ?_
                rotate_left
                ·intro w'
                 go_simp
                 with_reducible rfl
                rotate_left
                ·simp only [Act.put, sa, sz, ss, i64_w, i32_w]
                 rfl
                refine pure_ (i := 25) (N := some 148) (v := ?_) (a' := ?_) #[true, true, true, true, true, true, true, true, true, true, true, true, true, true, true, true, true, true, true, true, true, false, false, false, false, true, false, false, false, false] rfl rfl (any_of HT_.out (by kernel_rfl)) (fun _ _ _ h => h) (Or.inl ⟨by rfl, ?_⟩) ?_ ?_
                rotate_left
                ·intro w'
                 go_simp
                 with_reducible rfl
                rotate_left
                ·simp only [Act.put, sa, sz, ss, i64_w, i32_w]
                 rfl
                refine take_ (i := 21) (N := some 144) (v := ?_) (a' := ?_) #[true, true, true, true, true, true, true, true, true, true, true, true, true, true, true, true, true, true, true, true, true, true, false, false, false, true, false, false, false, false] rfl rfl (take_ofW HT_.out HW_.out (by kernel_rfl)) (fun _ _ _ h => h) (Or.inl ⟨by rfl, ?_⟩) hHeld ?_ ?_
                rotate_left
                ·rintro w' ⟨s0, s1, s2⟩
                 go_simp
                 with_reducible rfl
                rotate_left
                ·simp only [Act.put, sa, sz, ss, i64_w, i32_w]
                 rfl
                refine take_ (i := 23) (N := some 146) (v := ?_) (a' := ?_) #[true, true, true, true, true, true, true, true, true, true, true, true, true, true, true, true, true, true, true, true, true, true, false, true, false, true, false, false, false, false] rfl rfl (take_ofW HT_.out HW_.out (by kernel_rfl)) (fun _ _ _ h => h) (Or.inl ⟨by rfl, ?_⟩) hHeld ?_ ?_
                rotate_left
                ·rintro w' ⟨s0, s1, s2⟩
                 go_simp
                 with_reducible rfl
                rotate_left
                ·simp only [Act.put, sa, sz, ss, i64_w, i32_w]
                 rfl
                refine one_ (i := 22) (N := some 145) #[true, true, true, true, true, true, true, true, true, true, true, true, true, true, true, true, true, true, true, true, true, true, true, true, false, true, false, false, false, false] rfl rfl (one_of HT_.out (by kernel_rfl)) (by decide) (fun K hK => ?_)
                refine goes_ Tryd.func25 (by kernel_rfl) rfl #[.agg #[.slice Ao121 t944.length co121]] (by rfl) rfl rfl (by (try simp only [List.map_toArray, List.map_cons, List.map_nil]); first | done | rfl | (simp only [List.length_drop, List.length_take]; rfl)) ?_
                with_reducible refine (nat_Nat_Bits.calls _ _ t944 t961 _ ?side1 ?side2 A147.out).mono ?_
                (case side1 => exact (Kd.V_reads' HO946.out).2.2)
                (case side2 => exact (Kd.V_reads' HO946.out).2.1)
                rintro e w153 ⟨rfl, hb⟩
                refine ⟨_, rfl, ?_⟩
                replace HO_911000 := vb HO_911000 hb
                replace HO_920000 := vb HO_920000 hb
                replace HO946 := vb HO946 hb
                replace HO951 := vb HO951 hb
                replace HO956 := vb HO956 hb
                replace BK910 := bb BK910 hb
                replace BK919 := bb BK919 hb
                replace BK948 := bb BK948 hb
                replace BK953 := bb BK953 hb
                replace BK958 := bb BK958 hb
                replace HB := Aside0.mk (below_step (by repeat (first | exact HB.out | refine sb ?_ GE910 | refine sb ?_ GE919 | refine sb ?_ GE948 | refine sb ?_ GE953 | refine sb ?_ GE958)) hb)
                (try clear hb)
                (try clear hb2)
                (try clear hk)
                (try clear hi)
                refine hK.out _ _ ⟨(blk_cell BK953.out 0).trans rfl, (blk_cell BK910.out 0).trans rfl, (blk_cell BK948.out 0).trans rfl⟩ (fun hHeld => ?_)
                clear hK K
                refine norm_ (a' := ?_) ?_ ?_
                rotate_left
                ·show Act.put _ (some 145) _ = _
                 simp only [Act.put, sa, sz, ss, i64_w, i32_w]
                 rfl
                refine one_ (i := 24) (N := some 147) #[true, true, true, true, true, true, true, true, true, true, true, true, true, true, true, true, true, true, true, true, true, true, true, true, true, true, false, false, false, false] rfl rfl (one_of HT_.out (by kernel_rfl)) (by decide) (fun K hK => ?_)
                refine goes_ Tryd.func25 (by kernel_rfl) rfl #[.agg #[.slice Ao9 t905.length co9]] (by rfl) rfl rfl (by (try simp only [List.map_toArray, List.map_cons, List.map_nil]); first | done | rfl | (simp only [List.length_drop, List.length_take]; rfl)) ?_
                with_reducible refine (nat_Nat_Bits.calls _ _ t905 t962 _ ?side1 ?side2 A148.out).mono ?_
                (case side1 => exact (Kd.V_reads' HO_911000.out).2.2)
                (case side2 => exact (Kd.V_reads' HO_911000.out).2.1)
                rintro e w154 ⟨rfl, hb⟩
                refine ⟨_, rfl, ?_⟩
                replace HO_911000 := vb HO_911000 hb
                replace HO_920000 := vb HO_920000 hb
                replace HO946 := vb HO946 hb
                replace HO951 := vb HO951 hb
                replace HO956 := vb HO956 hb
                replace BK910 := bb BK910 hb
                replace BK919 := bb BK919 hb
                replace BK948 := bb BK948 hb
                replace BK953 := bb BK953 hb
                replace BK958 := bb BK958 hb
                replace HB := Aside0.mk (below_step (by repeat (first | exact HB.out | refine sb ?_ GE910 | refine sb ?_ GE919 | refine sb ?_ GE948 | refine sb ?_ GE953 | refine sb ?_ GE958)) hb)
                (try clear hb)
                (try clear hb2)
                (try clear hk)
                (try clear hi)
                refine hK.out _ _ ⟨(blk_cell BK953.out 0).trans rfl, (blk_cell BK910.out 0).trans rfl, (blk_cell BK948.out 0).trans rfl⟩ (fun hHeld => ?_)
                clear hK K
                refine norm_ (a' := ?_) ?_ ?_
                rotate_left
                ·show Act.put _ (some 147) _ = _
                 simp only [Act.put, sa, sz, ss, i64_w, i32_w]
                 rfl
                refine pure_ (i := 26) (N := some 149) (v := ?_) (a' := ?_) #[true, true, true, true, true, true, true, true, true, true, true, true, true, true, true, true, true, true, true, true, true, true, true, true, true, true, true, false, false, false] rfl rfl (any_of HT_.out (by kernel_rfl)) (fun _ _ _ h => h) (Or.inl ⟨by rfl, ?_⟩) ?_ ?_
                rotate_left
                ·intro w'
                 go_simp
                 with_reducible rfl
                rotate_left
                ·simp only [Act.put, sa, sz, ss, i64_w, i32_w]
                 rfl
                refine pure_ (i := 27) (N := some 150) (v := ?_) (a' := ?_) #[true, true, true, true, true, true, true, true, true, true, true, true, true, true, true, true, true, true, true, true, true, true, true, true, true, true, true, true, false, false] rfl rfl (any_of HT_.out (by kernel_rfl)) (fun _ _ _ h => h) (Or.inl ⟨by rfl, ?_⟩) ?_ ?_
                rotate_left
                ·intro w'
                 go_simp
                 with_reducible rfl
                rotate_left
                ·simp only [Act.put, sa, sz, ss, i64_w, i32_w]
                 rfl
                refine pure_ (i := 28) (N := some 151) (v := ?_) (a' := ?_) #[true, true, true, true, true, true, true, true, true, true, true, true, true, true, true, true, true, true, true, true, true, true, true, true, true, true, true, true, true, false] rfl rfl (any_of HT_.out (by kernel_rfl)) (fun _ _ _ h => h) (Or.inl ⟨by rfl, ?_⟩) ?_ ?_
                rotate_left
                ·intro w'
                 go_simp
                 with_reducible rfl
                rotate_left
                ·simp only [Act.put, sa, sz, ss, i64_w, i32_w]
                 rfl
                refine pure_ (i := 29) (N := some 152) (v := ?_) (a' := ?_) #[true, true, true, true, true, true, true, true, true, true, true, true, true, true, true, true, true, true, true, true, true, true, true, true, true, true, true, true, true, true] rfl rfl (any_of HT_.out (by kernel_rfl)) (fun _ _ _ h => h) (Or.inl ⟨by rfl, ?_⟩) ?_ ?_
                rotate_left
                ·intro w'
                 go_simp
                 with_reducible rfl
                rotate_left
                ·simp only [Act.put, sa, sz, ss, i64_w, i32_w]
                 rfl
                refine done_ (done_of HT_.out (by kernel_rfl)) ?_
                try go_wp2
                go_meet
                case rel => exact ⟨_, ((t961 != (wrap64 (t962 + a2)))), (by first | rfl | (simp; done) | (simp [*]; done) | (simp [i64_w]; done) | (simp [*, i64_w]; done)), H', ⟨by have := HJ5.out; have := HJ23.out; have := HJ105.out; first | omega | exact Nat.le_refl _⟩, ⟨by exact HO_911000.out⟩, ⟨by exact HO_920000.out⟩, ⟨by exact HO946.out⟩, ⟨by exact HO951.out⟩, ⟨by exact HO956.out⟩, ⟨by exact BK910.out⟩, ⟨by exact BK919.out⟩, ⟨by exact BK948.out⟩, ⟨by exact BK953.out⟩, ⟨by exact BK958.out⟩, ⟨by repeat (first | exact HB.out | refine sb ?_ GE910 | refine sb ?_ GE919 | refine sb ?_ GE948 | refine sb ?_ GE953 | refine sb ?_ GE958)⟩⟩
              ·rw [if_neg c146] at H
               have c146b0 : decide (0 < t960) = false := decide_eq_false c146
               clear c146
               as_aux_lemma =>
                have H' := Aside0.mk H
                clear H
                try go_wp2
                have n0_ : Aside0 (Kd.V (Kd.int .u32) 79 (w133.setCell ⟨gb958, 0, none⟩ (.slice Ao134 t954.length co134)) w.heap.size (fun k_ => k_ ≠ gb910 ∧ k_ ≠ gb919 ∧ k_ ≠ gb948 ∧ k_ ≠ gb953 ∧ k_ ≠ gb958) (.slice Ao9 t905.length co9) t905) := ⟨by exact Kd.V_mono (Kd.V_far (p := ⟨gb958, 0, none⟩) (Kd.V_mono HO_911000.out (fun k_ hk => (⟨hk, hk.2⟩ : _ ∧ k_ ≠ gb958))) (fun _ hk => hk.2) (.slice Ao134 t954.length co134)) (fun _ hk => ⟨hk.1.1.1.1.1, ⟨hk.1.1.1.1.2, ⟨hk.1.1.1.2, ⟨hk.1.1.2, hk.1.2⟩⟩⟩⟩)⟩
                have n1_ : Aside0 (Kd.V (Kd.int .u32) 79 (w133.setCell ⟨gb958, 0, none⟩ (.slice Ao134 t954.length co134)) w.heap.size (fun k_ => k_ ≠ gb910 ∧ k_ ≠ gb919 ∧ k_ ≠ gb948 ∧ k_ ≠ gb953 ∧ k_ ≠ gb958) (.slice Ao13 t914.length co13) t914) := ⟨by exact Kd.V_mono (Kd.V_far (p := ⟨gb958, 0, none⟩) (Kd.V_mono HO_920000.out (fun k_ hk => (⟨hk, hk.2⟩ : _ ∧ k_ ≠ gb958))) (fun _ hk => hk.2) (.slice Ao134 t954.length co134)) (fun _ hk => ⟨hk.1.1.1.1.1, ⟨hk.1.1.1.1.2, ⟨hk.1.1.1.2, ⟨hk.1.1.2, hk.1.2⟩⟩⟩⟩)⟩
                have n2_ : Aside0 (Kd.V (Kd.int .u32) 79 (w133.setCell ⟨gb958, 0, none⟩ (.slice Ao134 t954.length co134)) w.heap.size (fun k_ => k_ ≠ gb910 ∧ k_ ≠ gb919 ∧ k_ ≠ gb948 ∧ k_ ≠ gb953 ∧ k_ ≠ gb958) (.slice Ao121 t944.length co121) t944) := ⟨by exact Kd.V_mono (Kd.V_far (p := ⟨gb958, 0, none⟩) (Kd.V_mono HO946.out (fun k_ hk => (⟨hk, hk.2⟩ : _ ∧ k_ ≠ gb958))) (fun _ hk => hk.2) (.slice Ao134 t954.length co134)) (fun _ hk => ⟨hk.1.1.1.1.1, ⟨hk.1.1.1.1.2, ⟨hk.1.1.1.2, ⟨hk.1.1.2, hk.1.2⟩⟩⟩⟩)⟩
                have n3_ : Aside0 (Kd.V (Kd.int .u32) 79 (w133.setCell ⟨gb958, 0, none⟩ (.slice Ao134 t954.length co134)) w.heap.size (fun k_ => k_ ≠ gb910 ∧ k_ ≠ gb919 ∧ k_ ≠ gb948 ∧ k_ ≠ gb953 ∧ k_ ≠ gb958) (.slice Ao127 t949.length co127) t949) := ⟨by exact Kd.V_mono (Kd.V_far (p := ⟨gb958, 0, none⟩) (Kd.V_mono HO951.out (fun k_ hk => (⟨hk, hk.2⟩ : _ ∧ k_ ≠ gb958))) (fun _ hk => hk.2) (.slice Ao134 t954.length co134)) (fun _ hk => ⟨hk.1.1.1.1, ⟨hk.1.1.1.2.1, ⟨hk.1.1.1.2.2, ⟨hk.1.1.2, hk.1.2⟩⟩⟩⟩)⟩
                have n4_ : Aside0 (Kd.V (Kd.int .u32) 79 (w133.setCell ⟨gb958, 0, none⟩ (.slice Ao134 t954.length co134)) w.heap.size (fun k_ => k_ ≠ gb910 ∧ k_ ≠ gb919 ∧ k_ ≠ gb948 ∧ k_ ≠ gb953 ∧ k_ ≠ gb958) (.slice Ao134 t954.length co134) t954) := ⟨by exact Kd.V_mono (Kd.V_far (p := ⟨gb958, 0, none⟩) (Kd.V_mono HO956.out (fun k_ hk => (⟨hk, hk.2⟩ : _ ∧ k_ ≠ gb958))) (fun _ hk => hk.2) (.slice Ao134 t954.length co134)) (fun _ hk => ⟨hk.1.1.1, ⟨hk.1.1.2.1, ⟨hk.1.1.2.2.1, ⟨hk.1.1.2.2.2, hk.1.2⟩⟩⟩⟩)⟩
                have n5_ : Aside0 ((w133.setCell ⟨gb958, 0, none⟩ (.slice Ao134 t954.length co134)).heap[gb910]? = some (.cells #[.slice Ao9 t905.length co9] 26 (0, 0))) := ⟨by refine blk_far ?_ NB910_958.out _; exact BK910.out⟩
                have n6_ : Aside0 ((w133.setCell ⟨gb958, 0, none⟩ (.slice Ao134 t954.length co134)).heap[gb919]? = some (.cells #[.slice Ao13 t914.length co13] 26 (0, 0))) := ⟨by refine blk_far ?_ NB919_958.out _; exact BK919.out⟩
                have n7_ : Aside0 ((w133.setCell ⟨gb958, 0, none⟩ (.slice Ao134 t954.length co134)).heap[gb948]? = some (.cells #[.slice Ao121 t944.length co121] 26 (0, 0))) := ⟨by refine blk_far ?_ NB948_958.out _; exact BK948.out⟩
                have n8_ : Aside0 ((w133.setCell ⟨gb958, 0, none⟩ (.slice Ao134 t954.length co134)).heap[gb953]? = some (.cells #[.slice Ao127 t949.length co127] 26 (0, 0))) := ⟨by refine blk_far ?_ NB953_958.out _; exact BK953.out⟩
                have n9_ : Aside0 ((w133.setCell ⟨gb958, 0, none⟩ (.slice Ao134 t954.length co134)).heap[gb958]? = some (.cells #[.slice Ao134 t954.length co134] 26 (0, 0))) := ⟨by refine blk_put (cs := #[.slice none 0 0]) ?_ 0 _ rfl; exact BK958.out⟩
                have n10_ : Aside0 (Below w.heap.size w (w133.setCell ⟨gb958, 0, none⟩ (.slice Ao134 t954.length co134))) := ⟨by repeat (first | exact HB.out | refine sb ?_ GE910 | refine sb ?_ GE919 | refine sb ?_ GE948 | refine sb ?_ GE953 | refine sb ?_ GE958)⟩
                (try clear HO_911000)
                (try clear HO_920000)
                (try clear HO946)
                (try clear HO951)
                (try clear HO956)
                (try clear BK910)
                (try clear BK919)
                (try clear BK948)
                (try clear BK953)
                (try clear BK958)
                (try clear HB)
                generalize (w133.setCell ⟨gb958, 0, none⟩ (.slice Ao134 t954.length co134)) = w155 at n0_ n1_ n2_ n3_ n4_ n5_ n6_ n7_ n8_ n9_ n10_ ⊢
                have HO_911000 := n0_
                have HO_920000 := n1_
                have HO946 := n2_
                have HO951 := n3_
                have HO956 := n4_
                have BK910 := n5_
                have BK919 := n6_
                have BK948 := n7_
                have BK953 := n8_
                have BK958 := n9_
                have HB := n10_
                clear n0_ n1_ n2_ n3_ n4_ n5_ n6_ n7_ n8_ n9_ n10_
                replace HO_911000 := Aside0.mk (Kd.V_drew HO_911000.out)
                replace HO_920000 := Aside0.mk (Kd.V_drew HO_920000.out)
                replace HO946 := Aside0.mk (Kd.V_drew HO946.out)
                replace HO951 := Aside0.mk (Kd.V_drew HO951.out)
                replace HO956 := Aside0.mk (Kd.V_drew HO956.out)
                replace BK910 := Aside0.mk (blk_drew BK910.out)
                replace BK919 := Aside0.mk (blk_drew BK919.out)
                replace BK948 := Aside0.mk (blk_drew BK948.out)
                replace BK953 := Aside0.mk (blk_drew BK953.out)
                replace BK958 := Aside0.mk (blk_drew BK958.out)
                replace HB := Aside0.mk (below_drew1 HB.out)
                refine start_ (n := 30) (S := fun w' => w'.cell? ⟨gb953, 0, none⟩ = some (.slice Ao127 t949.length co127) ∧ w'.cell? ⟨gb910, 0, none⟩ = some (.slice Ao9 t905.length co9)) (ds := []) #[false, false, false, false, false, false, false, false, false, false, false, false, false, false, false, false, false, false, false, false, false, false, false, false, false, false, false, false, false, false] (by kernel_rfl) rfl rfl ⟨(blk_cell BK953.out 0).trans rfl, (blk_cell BK910.out 0).trans rfl⟩ (fun hHeld => ?_); refine with_tabW heraldlaw04_NatDivides.tab16 heraldlaw04_NatDivides.bits16 (fun HT_ HW_ => ?_)
                generalize w155.drew = w156 at HO_911000 HO_920000 HO946 HO951 HO956 BK910 BK919 BK948 BK953 BK958 HB hHeld ⊢
                refine pure_ (i := 0) (N := some 123) (v := ?_) (a' := ?_) #[true, false, false, false, false, false, false, false, false, false, false, false, false, false, false, false, false, false, false, false, false, false, false, false, false, false, false, false, false, false] rfl rfl (any_of HT_.out (by kernel_rfl)) (fun _ _ _ h => h) (Or.inl ⟨by rfl, ?_⟩) ?_ ?_
                rotate_left
                ·intro w'
                 go_simp
                 with_reducible rfl
                rotate_left
                ·simp only [Act.put, sa, sz, ss, i64_w, i32_w]
                 rfl
                refine pure_ (i := 1) (N := some 124) (v := ?_) (a' := ?_) #[true, true, false, false, false, false, false, false, false, false, false, false, false, false, false, false, false, false, false, false, false, false, false, false, false, false, false, false, false, false] rfl rfl (any_of HT_.out (by kernel_rfl)) (fun _ _ _ h => h) (Or.inl ⟨by rfl, ?_⟩) ?_ ?_
                rotate_left
                ·intro w'
                 go_simp
                 with_reducible rfl
                rotate_left
                ·simp only [Act.put, sa, sz, ss, i64_w, i32_w]
                 rfl
                refine pure_ (i := 2) (N := some 125) (v := ?_) (a' := ?_) #[true, true, true, false, false, false, false, false, false, false, false, false, false, false, false, false, false, false, false, false, false, false, false, false, false, false, false, false, false, false] rfl rfl (any_of HT_.out (by kernel_rfl)) (fun _ _ _ h => h) (Or.inl ⟨by rfl, ?_⟩) ?_ ?_
                rotate_left
                ·intro w'
                 go_simp
                 with_reducible rfl
                rotate_left
                ·simp only [Act.put, sa, sz, ss, i64_w, i32_w]
                 rfl
                refine pure_ (i := 3) (N := some 126) (v := ?_) (a' := ?_) #[true, true, true, true, false, false, false, false, false, false, false, false, false, false, false, false, false, false, false, false, false, false, false, false, false, false, false, false, false, false] rfl rfl (any_of HT_.out (by kernel_rfl)) (fun _ _ _ h => h) (Or.inl ⟨by rfl, ?_⟩) ?_ ?_
                rotate_left
                ·intro w'
                 go_simp
                 with_reducible rfl
                rotate_left
                ·simp only [Act.put, sa, sz, ss, i64_w, i32_w]
                 rfl
                refine pure_ (i := 4) (N := some 127) (v := ?_) (a' := ?_) #[true, true, true, true, true, false, false, false, false, false, false, false, false, false, false, false, false, false, false, false, false, false, false, false, false, false, false, false, false, false] rfl rfl (any_of HT_.out (by kernel_rfl)) (fun _ _ _ h => h) (Or.inl ⟨by rfl, ?_⟩) ?_ ?_
                rotate_left
                ·intro w'
                 go_simp
                 with_reducible rfl
                rotate_left
                ·simp only [Act.put, sa, sz, ss, i64_w, i32_w]
                 rfl
                refine pure_ (i := 5) (N := some 128) (v := ?_) (a' := ?_) #[true, true, true, true, true, true, false, false, false, false, false, false, false, false, false, false, false, false, false, false, false, false, false, false, false, false, false, false, false, false] rfl rfl (any_of HT_.out (by kernel_rfl)) (fun _ _ _ h => h) (Or.inl ⟨by rfl, ?_⟩) ?_ ?_
                rotate_left
                ·intro w'
                 go_simp
                 with_reducible rfl
                rotate_left
                ·simp only [Act.put, sa, sz, ss, i64_w, i32_w]
                 rfl
                refine pure_ (i := 6) (N := some 129) (v := ?_) (a' := ?_) #[true, true, true, true, true, true, true, false, false, false, false, false, false, false, false, false, false, false, false, false, false, false, false, false, false, false, false, false, false, false] rfl rfl (any_of HT_.out (by kernel_rfl)) (fun _ _ _ h => h) (Or.inl ⟨by rfl, ?_⟩) ?_ ?_
                rotate_left
                ·intro w'
                 go_simp
                 with_reducible rfl
                rotate_left
                ·simp only [Act.put, sa, sz, ss, i64_w, i32_w]
                 rfl
                refine pure_ (i := 7) (N := some 130) (v := ?_) (a' := ?_) #[true, true, true, true, true, true, true, true, false, false, false, false, false, false, false, false, false, false, false, false, false, false, false, false, false, false, false, false, false, false] rfl rfl (any_of HT_.out (by kernel_rfl)) (fun _ _ _ h => h) (Or.inl ⟨by rfl, ?_⟩) ?_ ?_
                rotate_left
                ·intro w'
                 go_simp
                 with_reducible rfl
                rotate_left
                ·simp only [Act.put, sa, sz, ss, i64_w, i32_w]
                 rfl
                refine pure_ (i := 8) (N := some 131) (v := ?_) (a' := ?_) #[true, true, true, true, true, true, true, true, true, false, false, false, false, false, false, false, false, false, false, false, false, false, false, false, false, false, false, false, false, false] rfl rfl (any_of HT_.out (by kernel_rfl)) (fun _ _ _ h => h) (Or.inl ⟨by rfl, ?_⟩) ?_ ?_
                rotate_left
                ·intro w'
                 go_simp
                 with_reducible rfl
                rotate_left
                ·simp only [Act.put, sa, sz, ss, i64_w, i32_w]
                 rfl
                refine pure_ (i := 9) (N := some 132) (v := ?_) (a' := ?_) #[true, true, true, true, true, true, true, true, true, true, false, false, false, false, false, false, false, false, false, false, false, false, false, false, false, false, false, false, false, false] rfl rfl (any_of HT_.out (by kernel_rfl)) (fun _ _ _ h => h) (Or.inl ⟨by rfl, ?_⟩) ?_ ?_
                rotate_left
                ·intro w'
                 go_simp
                 with_reducible rfl
                rotate_left
                ·simp only [Act.put, sa, sz, ss, i64_w, i32_w]
                 rfl
                refine pure_ (i := 10) (N := some 133) (v := ?_) (a' := ?_) #[true, true, true, true, true, true, true, true, true, true, true, false, false, false, false, false, false, false, false, false, false, false, false, false, false, false, false, false, false, false] rfl rfl (any_of HT_.out (by kernel_rfl)) (fun _ _ _ h => h) (Or.inl ⟨by rfl, ?_⟩) ?_ ?_
                rotate_left
                ·intro w'
                 go_simp
                 with_reducible rfl
                rotate_left
                ·simp only [Act.put, sa, sz, ss, i64_w, i32_w]
                 rfl
                refine take_ (i := 11) (N := some 134) (v := ?_) (a' := ?_) #[true, true, true, true, true, true, true, true, true, true, true, true, false, false, false, false, false, false, false, false, false, false, false, false, false, false, false, false, false, false] rfl rfl (take_ofW HT_.out HW_.out (by kernel_rfl)) (fun _ _ _ h => h) (Or.inl ⟨by rfl, ?_⟩) hHeld ?_ ?_
                rotate_left
                ·rintro w' ⟨s0, s1⟩
                 go_simp
                 with_reducible rfl
                rotate_left
                ·simp only [Act.put, sa, sz, ss, i64_w, i32_w]
                 rfl
                refine take_ (i := 12) (N := some 135) (v := ?_) (a' := ?_) #[true, true, true, true, true, true, true, true, true, true, true, true, true, false, false, false, false, false, false, false, false, false, false, false, false, false, false, false, false, false] rfl rfl (take_ofW HT_.out HW_.out (by kernel_rfl)) (fun _ _ _ h => h) (Or.inl ⟨by rfl, ?_⟩) hHeld ?_ ?_
                rotate_left
                ·rintro w' ⟨s0, s1⟩
                 go_simp
                 with_reducible rfl
                rotate_left
                ·simp only [Act.put, sa, sz, ss, i64_w, i32_w]
                 rfl
                refine one_ (i := 13) (N := some 136) #[true, true, true, true, true, true, true, true, true, true, true, true, true, true, false, false, false, false, false, false, false, false, false, false, false, false, false, false, false, false] rfl rfl (one_of HT_.out (by kernel_rfl)) (by decide) (fun K hK => ?_)
                refine goes_ Tryd.func29 (by kernel_rfl) rfl #[.agg #[.slice Ao127 t949.length co127], .agg #[.slice Ao9 t905.length co9]] (by rfl) rfl rfl (by (try simp only [List.map_toArray, List.map_cons, List.map_nil]); first | done | rfl | (simp only [List.length_drop, List.length_take]; rfl)) ?_
                with_reducible refine (nat_Nat_Compare.calls kj105 _ _ t949 _ _ t905 t959 _ ?side1 ?side2 ?side3 ?side4 A143.out).mono ?_
                (case side1 => exact (Kd.V_reads' HO951.out).2.2)
                (case side2 => exact (Kd.V_reads' HO951.out).2.1)
                (case side3 => exact (Kd.V_reads' HO_911000.out).2.2)
                (case side4 => exact (Kd.V_reads' HO_911000.out).2.1)
                rintro e w157 ⟨rfl, hb⟩
                refine ⟨_, rfl, ?_⟩
                replace HO_911000 := vb HO_911000 hb
                replace HO_920000 := vb HO_920000 hb
                replace HO946 := vb HO946 hb
                replace HO951 := vb HO951 hb
                replace HO956 := vb HO956 hb
                replace BK910 := bb BK910 hb
                replace BK919 := bb BK919 hb
                replace BK948 := bb BK948 hb
                replace BK953 := bb BK953 hb
                replace BK958 := bb BK958 hb
                replace HB := Aside0.mk (below_step (by repeat (first | exact HB.out | refine sb ?_ GE910 | refine sb ?_ GE919 | refine sb ?_ GE948 | refine sb ?_ GE953 | refine sb ?_ GE958)) hb)
                (try clear hb)
                (try clear hb2)
                (try clear hk)
                (try clear hi)
                refine hK.out _ _ ⟨(blk_cell BK953.out 0).trans rfl, (blk_cell BK910.out 0).trans rfl⟩ (fun hHeld => ?_)
                clear hK K
                refine norm_ (a' := ?_) ?_ ?_
                rotate_left
                ·show Act.put _ (some 136) _ = _
                 simp only [Act.put, sa, sz, ss, i64_w, i32_w]
                 rfl
                refine pure_ (i := 14) (N := some 137) (v := ?_) (a' := ?_) #[true, true, true, true, true, true, true, true, true, true, true, true, true, true, true, false, false, false, false, false, false, false, false, false, false, false, false, false, false, false] rfl rfl (any_of HT_.out (by kernel_rfl)) (fun _ _ _ h => h) (Or.inl ⟨by rfl, ?_⟩) ?_ ?_
                rotate_left
                ·intro w'
                 go_simp
                 with_reducible rfl
                rotate_left
                ·simp only [Act.put, sa, sz, ss, i64_w, i32_w]
                 rfl
                refine pure_ (i := 15) (N := some 138) (v := ?_) (a' := ?_) #[true, true, true, true, true, true, true, true, true, true, true, true, true, true, true, true, false, false, false, false, false, false, false, false, false, false, false, false, false, false] rfl rfl (any_of HT_.out (by kernel_rfl)) (fun _ _ _ h => h) (Or.inl ⟨by rfl, ?_⟩) ?_ ?_
                rotate_left
                ·intro w'
                 go_simp
                 with_reducible rfl
                rotate_left
                ·simp only [Act.put, sa, sz, ss, i64_w, i32_w]
                 rfl
                refine pure_ (i := 16) (N := some 139) (v := ?_) (a' := ?_) #[true, true, true, true, true, true, true, true, true, true, true, true, true, true, true, true, true, false, false, false, false, false, false, false, false, false, false, false, false, false] rfl rfl (any_of HT_.out (by kernel_rfl)) (fun _ _ _ h => h) (Or.inl ⟨by rfl, ?_⟩) ?_ ?_
                rotate_left
                ·intro w'
                 go_simp
                 with_reducible rfl
                rotate_left
                ·simp only [Act.put, sa, sz, ss, i64_w, i32_w]
                 rfl
                refine take_ (i := 17) (N := some 140) (v := ?_) (a' := ?_) #[true, true, true, true, true, true, true, true, true, true, true, true, true, true, true, true, true, true, false, false, false, false, false, false, false, false, false, false, false, false] rfl rfl (take_ofW HT_.out HW_.out (by kernel_rfl)) (fun _ _ _ h => h) (Or.inl ⟨by rfl, ?_⟩) hHeld ?_ ?_
                rotate_left
                ·rintro w' ⟨s0, s1⟩
                 go_simp
                 with_reducible rfl
                rotate_left
                ·simp only [Act.put, sa, sz, ss, i64_w, i32_w]
                 rfl
                refine one_ (i := 18) (N := some 141) #[true, true, true, true, true, true, true, true, true, true, true, true, true, true, true, true, true, true, true, false, false, false, false, false, false, false, false, false, false, false] rfl rfl (one_of HT_.out (by kernel_rfl)) (by decide) (fun K hK => ?_)
                refine goes_ Tryd.func25 (by kernel_rfl) rfl #[.agg #[.slice Ao9 t905.length co9]] (by rfl) rfl rfl (by (try simp only [List.map_toArray, List.map_cons, List.map_nil]); first | done | rfl | (simp only [List.length_drop, List.length_take]; rfl)) ?_
                with_reducible refine (nat_Nat_Bits.calls _ _ t905 t960 _ ?side1 ?side2 A145.out).mono ?_
                (case side1 => exact (Kd.V_reads' HO_911000.out).2.2)
                (case side2 => exact (Kd.V_reads' HO_911000.out).2.1)
                rintro e w158 ⟨rfl, hb⟩
                refine ⟨_, rfl, ?_⟩
                replace HO_911000 := vb HO_911000 hb
                replace HO_920000 := vb HO_920000 hb
                replace HO946 := vb HO946 hb
                replace HO951 := vb HO951 hb
                replace HO956 := vb HO956 hb
                replace BK910 := bb BK910 hb
                replace BK919 := bb BK919 hb
                replace BK948 := bb BK948 hb
                replace BK953 := bb BK953 hb
                replace BK958 := bb BK958 hb
                replace HB := Aside0.mk (below_step (by repeat (first | exact HB.out | refine sb ?_ GE910 | refine sb ?_ GE919 | refine sb ?_ GE948 | refine sb ?_ GE953 | refine sb ?_ GE958)) hb)
                (try clear hb)
                (try clear hb2)
                (try clear hk)
                (try clear hi)
                refine hK.out _ _ ⟨(blk_cell BK953.out 0).trans rfl, (blk_cell BK910.out 0).trans rfl⟩ (fun hHeld => ?_)
                clear hK K
                refine norm_ (a' := ?_) ?_ ?_
                rotate_left
                ·show Act.put _ (some 141) _ = _
                 simp only [Act.put, sa, sz, ss, i64_w, i32_w]
                 rfl
                refine pure_ (i := 19) (N := some 142) (v := ?_) (a' := ?_) #[true, true, true, true, true, true, true, true, true, true, true, true, true, true, true, true, true, true, true, true, false, false, false, false, false, false, false, false, false, false] rfl rfl (any_of HT_.out (by kernel_rfl)) (fun _ _ _ h => h) (Or.inl ⟨by rfl, ?_⟩) ?_ ?_
                rotate_left
                ·intro w'
                 go_simp
                 with_reducible rfl
                rotate_left
                ·simp only [Act.put, sa, sz, ss, i64_w, i32_w]
                 rfl
                refine pure_ (i := 20) (N := some 143) (v := ?_) (a' := ?_) #[true, true, true, true, true, true, true, true, true, true, true, true, true, true, true, true, true, true, true, true, true, false, false, false, false, false, false, false, false, false] rfl rfl (any_of HT_.out (by kernel_rfl)) (fun _ _ _ h => h) (Or.inl ⟨by rfl, ?_⟩) ?_ ?_
                rotate_left
                ·intro w'
                 go_simp
                 with_reducible rfl
                rotate_left
                ·simp only [Act.put, sa, sz, ss, i64_w, i32_w]
                 rfl
                refine pure_ (i := 21) (N := some 144) (v := undef) (a' := ?_) #[true, true, true, true, true, true, true, true, true, true, true, true, true, true, true, true, true, true, true, true, true, true, false, false, false, false, false, false, false, false] rfl rfl (any_of HT_.out (by kernel_rfl)) (fun _ _ _ h => h) (Or.inr ⟨by rfl, rfl⟩) ?_ ?_
                rotate_left
                ·simp only [Act.put, sa, sz, ss, i64_w, i32_w]
                 rfl
                refine pure_ (i := 22) (N := some 145) (v := undef) (a' := ?_) #[true, true, true, true, true, true, true, true, true, true, true, true, true, true, true, true, true, true, true, true, true, true, true, false, false, false, false, false, false, false] rfl rfl (any_of HT_.out (by kernel_rfl)) (fun _ _ _ h => h) (Or.inr ⟨by rfl, rfl⟩) ?_ ?_
                rotate_left
                ·simp only [Act.put, sa, sz, ss, i64_w, i32_w]
                 rfl
                refine pure_ (i := 23) (N := some 146) (v := undef) (a' := ?_) #[true, true, true, true, true, true, true, true, true, true, true, true, true, true, true, true, true, true, true, true, true, true, true, true, false, false, false, false, false, false] rfl rfl (any_of HT_.out (by kernel_rfl)) (fun _ _ _ h => h) (Or.inr ⟨by rfl, rfl⟩) ?_ ?_
                rotate_left
                ·simp only [Act.put, sa, sz, ss, i64_w, i32_w]
                 rfl
                refine pure_ (i := 24) (N := some 147) (v := undef) (a' := ?_) #[true, true, true, true, true, true, true, true, true, true, true, true, true, true, true, true, true, true, true, true, true, true, true, true, true, false, false, false, false, false] rfl rfl (any_of HT_.out (by kernel_rfl)) (fun _ _ _ h => h) (Or.inr ⟨by rfl, rfl⟩) ?_ ?_
                rotate_left
                ·simp only [Act.put, sa, sz, ss, i64_w, i32_w]
                 rfl
                refine pure_ (i := 25) (N := some 148) (v := undef) (a' := ?_) #[true, true, true, true, true, true, true, true, true, true, true, true, true, true, true, true, true, true, true, true, true, true, true, true, true, true, false, false, false, false] rfl rfl (any_of HT_.out (by kernel_rfl)) (fun _ _ _ h => h) (Or.inr ⟨by rfl, rfl⟩) ?_ ?_
                rotate_left
                ·simp only [Act.put, sa, sz, ss, i64_w, i32_w]
                 rfl
                refine pure_ (i := 26) (N := some 149) (v := undef) (a' := ?_) #[true, true, true, true, true, true, true, true, true, true, true, true, true, true, true, true, true, true, true, true, true, true, true, true, true, true, true, false, false, false] rfl rfl (any_of HT_.out (by kernel_rfl)) (fun _ _ _ h => h) (Or.inr ⟨by rfl, rfl⟩) ?_ ?_
                rotate_left
                ·simp only [Act.put, sa, sz, ss, i64_w, i32_w]
                 rfl
                refine pure_ (i := 27) (N := some 150) (v := undef) (a' := ?_) #[true, true, true, true, true, true, true, true, true, true, true, true, true, true, true, true, true, true, true, true, true, true, true, true, true, true, true, true, false, false] rfl rfl (any_of HT_.out (by kernel_rfl)) (fun _ _ _ h => h) (Or.inr ⟨by rfl, rfl⟩) ?_ ?_
                rotate_left
                ·simp only [Act.put, sa, sz, ss, i64_w, i32_w]
                 rfl
                refine pure_ (i := 28) (N := some 151) (v := ?_) (a' := ?_) #[true, true, true, true, true, true, true, true, true, true, true, true, true, true, true, true, true, true, true, true, true, true, true, true, true, true, true, true, true, false] rfl rfl (any_of HT_.out (by kernel_rfl)) (fun _ _ _ h => h) (Or.inl ⟨by rfl, ?_⟩) ?_ ?_
                rotate_left
                ·intro w'
                 go_simp
                 with_reducible rfl
                rotate_left
                ·simp only [Act.put, sa, sz, ss, i64_w, i32_w]
                 rfl
                refine pure_ (i := 29) (N := some 152) (v := ?_) (a' := ?_) #[true, true, true, true, true, true, true, true, true, true, true, true, true, true, true, true, true, true, true, true, true, true, true, true, true, true, true, true, true, true] rfl rfl (any_of HT_.out (by kernel_rfl)) (fun _ _ _ h => h) (Or.inl ⟨by rfl, ?_⟩) ?_ ?_
                rotate_left
                ·intro w'
                 go_simp
                 with_reducible rfl
                rotate_left
                ·simp only [Act.put, sa, sz, ss, i64_w, i32_w]
                 rfl
                refine done_ (done_of HT_.out (by kernel_rfl)) ?_
                try go_wp2
                go_meet
                case rel => exact ⟨_, (false), (by first | rfl | (simp; done) | (simp [*]; done) | (simp [i64_w]; done) | (simp [*, i64_w]; done)), H', ⟨by have := HJ5.out; have := HJ23.out; have := HJ105.out; first | omega | exact Nat.le_refl _⟩, ⟨by exact HO_911000.out⟩, ⟨by exact HO_920000.out⟩, ⟨by exact HO946.out⟩, ⟨by exact HO951.out⟩, ⟨by exact HO956.out⟩, ⟨by exact BK910.out⟩, ⟨by exact BK919.out⟩, ⟨by exact BK948.out⟩, ⟨by exact BK953.out⟩, ⟨by exact BK958.out⟩, ⟨by repeat (first | exact HB.out | refine sb ?_ GE910 | refine sb ?_ GE919 | refine sb ?_ GE948 | refine sb ?_ GE953 | refine sb ?_ GE958)⟩⟩
             ·rw [if_neg c144] at H
              have c144b0 : (t959 == 0) = false := beq_eq_false_iff_ne.mpr c144
              have c144b1 : (t959 != 0) = true := bne_iff_ne.mpr c144
              as_aux_lemma =>
               have H' := Aside0.mk H
               clear H
               try go_wp2
               have n0_ : Aside0 (Kd.V (Kd.int .u32) 79 (w133.setCell ⟨gb958, 0, none⟩ (.slice Ao134 t954.length co134)) w.heap.size (fun k_ => k_ ≠ gb910 ∧ k_ ≠ gb919 ∧ k_ ≠ gb948 ∧ k_ ≠ gb953 ∧ k_ ≠ gb958) (.slice Ao9 t905.length co9) t905) := ⟨by exact Kd.V_mono (Kd.V_far (p := ⟨gb958, 0, none⟩) (Kd.V_mono HO_911000.out (fun k_ hk => (⟨hk, hk.2⟩ : _ ∧ k_ ≠ gb958))) (fun _ hk => hk.2) (.slice Ao134 t954.length co134)) (fun _ hk => ⟨hk.1.1.1.1.1, ⟨hk.1.1.1.1.2, ⟨hk.1.1.1.2, ⟨hk.1.1.2, hk.1.2⟩⟩⟩⟩)⟩
               have n1_ : Aside0 (Kd.V (Kd.int .u32) 79 (w133.setCell ⟨gb958, 0, none⟩ (.slice Ao134 t954.length co134)) w.heap.size (fun k_ => k_ ≠ gb910 ∧ k_ ≠ gb919 ∧ k_ ≠ gb948 ∧ k_ ≠ gb953 ∧ k_ ≠ gb958) (.slice Ao13 t914.length co13) t914) := ⟨by exact Kd.V_mono (Kd.V_far (p := ⟨gb958, 0, none⟩) (Kd.V_mono HO_920000.out (fun k_ hk => (⟨hk, hk.2⟩ : _ ∧ k_ ≠ gb958))) (fun _ hk => hk.2) (.slice Ao134 t954.length co134)) (fun _ hk => ⟨hk.1.1.1.1.1, ⟨hk.1.1.1.1.2, ⟨hk.1.1.1.2, ⟨hk.1.1.2, hk.1.2⟩⟩⟩⟩)⟩
               have n2_ : Aside0 (Kd.V (Kd.int .u32) 79 (w133.setCell ⟨gb958, 0, none⟩ (.slice Ao134 t954.length co134)) w.heap.size (fun k_ => k_ ≠ gb910 ∧ k_ ≠ gb919 ∧ k_ ≠ gb948 ∧ k_ ≠ gb953 ∧ k_ ≠ gb958) (.slice Ao121 t944.length co121) t944) := ⟨by exact Kd.V_mono (Kd.V_far (p := ⟨gb958, 0, none⟩) (Kd.V_mono HO946.out (fun k_ hk => (⟨hk, hk.2⟩ : _ ∧ k_ ≠ gb958))) (fun _ hk => hk.2) (.slice Ao134 t954.length co134)) (fun _ hk => ⟨hk.1.1.1.1.1, ⟨hk.1.1.1.1.2, ⟨hk.1.1.1.2, ⟨hk.1.1.2, hk.1.2⟩⟩⟩⟩)⟩
               have n3_ : Aside0 (Kd.V (Kd.int .u32) 79 (w133.setCell ⟨gb958, 0, none⟩ (.slice Ao134 t954.length co134)) w.heap.size (fun k_ => k_ ≠ gb910 ∧ k_ ≠ gb919 ∧ k_ ≠ gb948 ∧ k_ ≠ gb953 ∧ k_ ≠ gb958) (.slice Ao127 t949.length co127) t949) := ⟨by exact Kd.V_mono (Kd.V_far (p := ⟨gb958, 0, none⟩) (Kd.V_mono HO951.out (fun k_ hk => (⟨hk, hk.2⟩ : _ ∧ k_ ≠ gb958))) (fun _ hk => hk.2) (.slice Ao134 t954.length co134)) (fun _ hk => ⟨hk.1.1.1.1, ⟨hk.1.1.1.2.1, ⟨hk.1.1.1.2.2, ⟨hk.1.1.2, hk.1.2⟩⟩⟩⟩)⟩
               have n4_ : Aside0 (Kd.V (Kd.int .u32) 79 (w133.setCell ⟨gb958, 0, none⟩ (.slice Ao134 t954.length co134)) w.heap.size (fun k_ => k_ ≠ gb910 ∧ k_ ≠ gb919 ∧ k_ ≠ gb948 ∧ k_ ≠ gb953 ∧ k_ ≠ gb958) (.slice Ao134 t954.length co134) t954) := ⟨by exact Kd.V_mono (Kd.V_far (p := ⟨gb958, 0, none⟩) (Kd.V_mono HO956.out (fun k_ hk => (⟨hk, hk.2⟩ : _ ∧ k_ ≠ gb958))) (fun _ hk => hk.2) (.slice Ao134 t954.length co134)) (fun _ hk => ⟨hk.1.1.1, ⟨hk.1.1.2.1, ⟨hk.1.1.2.2.1, ⟨hk.1.1.2.2.2, hk.1.2⟩⟩⟩⟩)⟩
               have n5_ : Aside0 ((w133.setCell ⟨gb958, 0, none⟩ (.slice Ao134 t954.length co134)).heap[gb910]? = some (.cells #[.slice Ao9 t905.length co9] 26 (0, 0))) := ⟨by refine blk_far ?_ NB910_958.out _; exact BK910.out⟩
               have n6_ : Aside0 ((w133.setCell ⟨gb958, 0, none⟩ (.slice Ao134 t954.length co134)).heap[gb919]? = some (.cells #[.slice Ao13 t914.length co13] 26 (0, 0))) := ⟨by refine blk_far ?_ NB919_958.out _; exact BK919.out⟩
               have n7_ : Aside0 ((w133.setCell ⟨gb958, 0, none⟩ (.slice Ao134 t954.length co134)).heap[gb948]? = some (.cells #[.slice Ao121 t944.length co121] 26 (0, 0))) := ⟨by refine blk_far ?_ NB948_958.out _; exact BK948.out⟩
               have n8_ : Aside0 ((w133.setCell ⟨gb958, 0, none⟩ (.slice Ao134 t954.length co134)).heap[gb953]? = some (.cells #[.slice Ao127 t949.length co127] 26 (0, 0))) := ⟨by refine blk_far ?_ NB953_958.out _; exact BK953.out⟩
               have n9_ : Aside0 ((w133.setCell ⟨gb958, 0, none⟩ (.slice Ao134 t954.length co134)).heap[gb958]? = some (.cells #[.slice Ao134 t954.length co134] 26 (0, 0))) := ⟨by refine blk_put (cs := #[.slice none 0 0]) ?_ 0 _ rfl; exact BK958.out⟩
               have n10_ : Aside0 (Below w.heap.size w (w133.setCell ⟨gb958, 0, none⟩ (.slice Ao134 t954.length co134))) := ⟨by repeat (first | exact HB.out | refine sb ?_ GE910 | refine sb ?_ GE919 | refine sb ?_ GE948 | refine sb ?_ GE953 | refine sb ?_ GE958)⟩
               (try clear HO_911000)
               (try clear HO_920000)
               (try clear HO946)
               (try clear HO951)
               (try clear HO956)
               (try clear BK910)
               (try clear BK919)
               (try clear BK948)
               (try clear BK953)
               (try clear BK958)
               (try clear HB)
               generalize (w133.setCell ⟨gb958, 0, none⟩ (.slice Ao134 t954.length co134)) = w159 at n0_ n1_ n2_ n3_ n4_ n5_ n6_ n7_ n8_ n9_ n10_ ⊢
               have HO_911000 := n0_
               have HO_920000 := n1_
               have HO946 := n2_
               have HO951 := n3_
               have HO956 := n4_
               have BK910 := n5_
               have BK919 := n6_
               have BK948 := n7_
               have BK953 := n8_
               have BK958 := n9_
               have HB := n10_
               clear n0_ n1_ n2_ n3_ n4_ n5_ n6_ n7_ n8_ n9_ n10_
               replace HO_911000 := Aside0.mk (Kd.V_drew HO_911000.out)
               replace HO_920000 := Aside0.mk (Kd.V_drew HO_920000.out)
               replace HO946 := Aside0.mk (Kd.V_drew HO946.out)
               replace HO951 := Aside0.mk (Kd.V_drew HO951.out)
               replace HO956 := Aside0.mk (Kd.V_drew HO956.out)
               replace BK910 := Aside0.mk (blk_drew BK910.out)
               replace BK919 := Aside0.mk (blk_drew BK919.out)
               replace BK948 := Aside0.mk (blk_drew BK948.out)
               replace BK953 := Aside0.mk (blk_drew BK953.out)
               replace BK958 := Aside0.mk (blk_drew BK958.out)
               replace HB := Aside0.mk (below_drew1 HB.out)
               refine start_ (n := 30) (S := fun w' => w'.cell? ⟨gb953, 0, none⟩ = some (.slice Ao127 t949.length co127) ∧ w'.cell? ⟨gb910, 0, none⟩ = some (.slice Ao9 t905.length co9)) (ds := []) #[false, false, false, false, false, false, false, false, false, false, false, false, false, false, false, false, false, false, false, false, false, false, false, false, false, false, false, false, false, false] (by kernel_rfl) rfl rfl ⟨(blk_cell BK953.out 0).trans rfl, (blk_cell BK910.out 0).trans rfl⟩ (fun hHeld => ?_); refine with_tabW heraldlaw04_NatDivides.tab16 heraldlaw04_NatDivides.bits16 (fun HT_ HW_ => ?_)
               generalize w159.drew = w160 at HO_911000 HO_920000 HO946 HO951 HO956 BK910 BK919 BK948 BK953 BK958 HB hHeld ⊢
               refine pure_ (i := 0) (N := some 123) (v := ?_) (a' := ?_) #[true, false, false, false, false, false, false, false, false, false, false, false, false, false, false, false, false, false, false, false, false, false, false, false, false, false, false, false, false, false] rfl rfl (any_of HT_.out (by kernel_rfl)) (fun _ _ _ h => h) (Or.inl ⟨by rfl, ?_⟩) ?_ ?_
               rotate_left
               ·intro w'
                go_simp
                with_reducible rfl
               rotate_left
               ·simp only [Act.put, sa, sz, ss, i64_w, i32_w]
                rfl
               refine pure_ (i := 1) (N := some 124) (v := ?_) (a' := ?_) #[true, true, false, false, false, false, false, false, false, false, false, false, false, false, false, false, false, false, false, false, false, false, false, false, false, false, false, false, false, false] rfl rfl (any_of HT_.out (by kernel_rfl)) (fun _ _ _ h => h) (Or.inl ⟨by rfl, ?_⟩) ?_ ?_
               rotate_left
               ·intro w'
                go_simp
                with_reducible rfl
               rotate_left
               ·simp only [Act.put, sa, sz, ss, i64_w, i32_w]
                rfl
               refine pure_ (i := 2) (N := some 125) (v := ?_) (a' := ?_) #[true, true, true, false, false, false, false, false, false, false, false, false, false, false, false, false, false, false, false, false, false, false, false, false, false, false, false, false, false, false] rfl rfl (any_of HT_.out (by kernel_rfl)) (fun _ _ _ h => h) (Or.inl ⟨by rfl, ?_⟩) ?_ ?_
               rotate_left
               ·intro w'
                go_simp
                with_reducible rfl
               rotate_left
               ·simp only [Act.put, sa, sz, ss, i64_w, i32_w]
                rfl
               refine pure_ (i := 3) (N := some 126) (v := ?_) (a' := ?_) #[true, true, true, true, false, false, false, false, false, false, false, false, false, false, false, false, false, false, false, false, false, false, false, false, false, false, false, false, false, false] rfl rfl (any_of HT_.out (by kernel_rfl)) (fun _ _ _ h => h) (Or.inl ⟨by rfl, ?_⟩) ?_ ?_
               rotate_left
               ·intro w'
                go_simp
                with_reducible rfl
               rotate_left
               ·simp only [Act.put, sa, sz, ss, i64_w, i32_w]
                rfl
               refine pure_ (i := 4) (N := some 127) (v := ?_) (a' := ?_) #[true, true, true, true, true, false, false, false, false, false, false, false, false, false, false, false, false, false, false, false, false, false, false, false, false, false, false, false, false, false] rfl rfl (any_of HT_.out (by kernel_rfl)) (fun _ _ _ h => h) (Or.inl ⟨by rfl, ?_⟩) ?_ ?_
               rotate_left
               ·intro w'
                go_simp
                with_reducible rfl
               rotate_left
               ·simp only [Act.put, sa, sz, ss, i64_w, i32_w]
                rfl
               refine pure_ (i := 5) (N := some 128) (v := ?_) (a' := ?_) #[true, true, true, true, true, true, false, false, false, false, false, false, false, false, false, false, false, false, false, false, false, false, false, false, false, false, false, false, false, false] rfl rfl (any_of HT_.out (by kernel_rfl)) (fun _ _ _ h => h) (Or.inl ⟨by rfl, ?_⟩) ?_ ?_
               rotate_left
               ·intro w'
                go_simp
                with_reducible rfl
               rotate_left
               ·simp only [Act.put, sa, sz, ss, i64_w, i32_w]
                rfl
               refine pure_ (i := 6) (N := some 129) (v := ?_) (a' := ?_) #[true, true, true, true, true, true, true, false, false, false, false, false, false, false, false, false, false, false, false, false, false, false, false, false, false, false, false, false, false, false] rfl rfl (any_of HT_.out (by kernel_rfl)) (fun _ _ _ h => h) (Or.inl ⟨by rfl, ?_⟩) ?_ ?_
               rotate_left
               ·intro w'
                go_simp
                with_reducible rfl
               rotate_left
               ·simp only [Act.put, sa, sz, ss, i64_w, i32_w]
                rfl
               refine pure_ (i := 7) (N := some 130) (v := ?_) (a' := ?_) #[true, true, true, true, true, true, true, true, false, false, false, false, false, false, false, false, false, false, false, false, false, false, false, false, false, false, false, false, false, false] rfl rfl (any_of HT_.out (by kernel_rfl)) (fun _ _ _ h => h) (Or.inl ⟨by rfl, ?_⟩) ?_ ?_
               rotate_left
               ·intro w'
                go_simp
                with_reducible rfl
               rotate_left
               ·simp only [Act.put, sa, sz, ss, i64_w, i32_w]
                rfl
               refine pure_ (i := 8) (N := some 131) (v := ?_) (a' := ?_) #[true, true, true, true, true, true, true, true, true, false, false, false, false, false, false, false, false, false, false, false, false, false, false, false, false, false, false, false, false, false] rfl rfl (any_of HT_.out (by kernel_rfl)) (fun _ _ _ h => h) (Or.inl ⟨by rfl, ?_⟩) ?_ ?_
               rotate_left
               ·intro w'
                go_simp
                with_reducible rfl
               rotate_left
               ·simp only [Act.put, sa, sz, ss, i64_w, i32_w]
                rfl
               refine pure_ (i := 9) (N := some 132) (v := ?_) (a' := ?_) #[true, true, true, true, true, true, true, true, true, true, false, false, false, false, false, false, false, false, false, false, false, false, false, false, false, false, false, false, false, false] rfl rfl (any_of HT_.out (by kernel_rfl)) (fun _ _ _ h => h) (Or.inl ⟨by rfl, ?_⟩) ?_ ?_
               rotate_left
               ·intro w'
                go_simp
                with_reducible rfl
               rotate_left
               ·simp only [Act.put, sa, sz, ss, i64_w, i32_w]
                rfl
               refine pure_ (i := 10) (N := some 133) (v := ?_) (a' := ?_) #[true, true, true, true, true, true, true, true, true, true, true, false, false, false, false, false, false, false, false, false, false, false, false, false, false, false, false, false, false, false] rfl rfl (any_of HT_.out (by kernel_rfl)) (fun _ _ _ h => h) (Or.inl ⟨by rfl, ?_⟩) ?_ ?_
               rotate_left
               ·intro w'
                go_simp
                with_reducible rfl
               rotate_left
               ·simp only [Act.put, sa, sz, ss, i64_w, i32_w]
                rfl
               refine take_ (i := 11) (N := some 134) (v := ?_) (a' := ?_) #[true, true, true, true, true, true, true, true, true, true, true, true, false, false, false, false, false, false, false, false, false, false, false, false, false, false, false, false, false, false] rfl rfl (take_ofW HT_.out HW_.out (by kernel_rfl)) (fun _ _ _ h => h) (Or.inl ⟨by rfl, ?_⟩) hHeld ?_ ?_
               rotate_left
               ·rintro w' ⟨s0, s1⟩
                go_simp
                with_reducible rfl
               rotate_left
               ·simp only [Act.put, sa, sz, ss, i64_w, i32_w]
                rfl
               refine take_ (i := 12) (N := some 135) (v := ?_) (a' := ?_) #[true, true, true, true, true, true, true, true, true, true, true, true, true, false, false, false, false, false, false, false, false, false, false, false, false, false, false, false, false, false] rfl rfl (take_ofW HT_.out HW_.out (by kernel_rfl)) (fun _ _ _ h => h) (Or.inl ⟨by rfl, ?_⟩) hHeld ?_ ?_
               rotate_left
               ·rintro w' ⟨s0, s1⟩
                go_simp
                with_reducible rfl
               rotate_left
               ·simp only [Act.put, sa, sz, ss, i64_w, i32_w]
                rfl
               refine one_ (i := 13) (N := some 136) #[true, true, true, true, true, true, true, true, true, true, true, true, true, true, false, false, false, false, false, false, false, false, false, false, false, false, false, false, false, false] rfl rfl (one_of HT_.out (by kernel_rfl)) (by decide) (fun K hK => ?_)
               refine goes_ Tryd.func29 (by kernel_rfl) rfl #[.agg #[.slice Ao127 t949.length co127], .agg #[.slice Ao9 t905.length co9]] (by rfl) rfl rfl (by (try simp only [List.map_toArray, List.map_cons, List.map_nil]); first | done | rfl | (simp only [List.length_drop, List.length_take]; rfl)) ?_
               with_reducible refine (nat_Nat_Compare.calls kj105 _ _ t949 _ _ t905 t959 _ ?side1 ?side2 ?side3 ?side4 A143.out).mono ?_
               (case side1 => exact (Kd.V_reads' HO951.out).2.2)
               (case side2 => exact (Kd.V_reads' HO951.out).2.1)
               (case side3 => exact (Kd.V_reads' HO_911000.out).2.2)
               (case side4 => exact (Kd.V_reads' HO_911000.out).2.1)
               rintro e w161 ⟨rfl, hb⟩
               refine ⟨_, rfl, ?_⟩
               replace HO_911000 := vb HO_911000 hb
               replace HO_920000 := vb HO_920000 hb
               replace HO946 := vb HO946 hb
               replace HO951 := vb HO951 hb
               replace HO956 := vb HO956 hb
               replace BK910 := bb BK910 hb
               replace BK919 := bb BK919 hb
               replace BK948 := bb BK948 hb
               replace BK953 := bb BK953 hb
               replace BK958 := bb BK958 hb
               replace HB := Aside0.mk (below_step (by repeat (first | exact HB.out | refine sb ?_ GE910 | refine sb ?_ GE919 | refine sb ?_ GE948 | refine sb ?_ GE953 | refine sb ?_ GE958)) hb)
               (try clear hb)
               (try clear hb2)
               (try clear hk)
               (try clear hi)
               refine hK.out _ _ ⟨(blk_cell BK953.out 0).trans rfl, (blk_cell BK910.out 0).trans rfl⟩ (fun hHeld => ?_)
               clear hK K
               refine norm_ (a' := ?_) ?_ ?_
               rotate_left
               ·show Act.put _ (some 136) _ = _
                simp only [Act.put, sa, sz, ss, i64_w, i32_w]
                rfl
               refine pure_ (i := 14) (N := some 137) (v := ?_) (a' := ?_) #[true, true, true, true, true, true, true, true, true, true, true, true, true, true, true, false, false, false, false, false, false, false, false, false, false, false, false, false, false, false] rfl rfl (any_of HT_.out (by kernel_rfl)) (fun _ _ _ h => h) (Or.inl ⟨by rfl, ?_⟩) ?_ ?_
               rotate_left
               ·intro w'
                go_simp
                with_reducible rfl
               rotate_left
               ·simp only [Act.put, sa, sz, ss, i64_w, i32_w]
                rfl
               refine pure_ (i := 15) (N := some 138) (v := ?_) (a' := ?_) #[true, true, true, true, true, true, true, true, true, true, true, true, true, true, true, true, false, false, false, false, false, false, false, false, false, false, false, false, false, false] rfl rfl (any_of HT_.out (by kernel_rfl)) (fun _ _ _ h => h) (Or.inl ⟨by rfl, ?_⟩) ?_ ?_
               rotate_left
               ·intro w'
                go_simp
                with_reducible rfl
               rotate_left
               ·simp only [Act.put, sa, sz, ss, i64_w, i32_w]
                rfl
               refine pure_ (i := 16) (N := some 139) (v := ?_) (a' := ?_) #[true, true, true, true, true, true, true, true, true, true, true, true, true, true, true, true, true, false, false, false, false, false, false, false, false, false, false, false, false, false] rfl rfl (any_of HT_.out (by kernel_rfl)) (fun _ _ _ h => h) (Or.inl ⟨by rfl, ?_⟩) ?_ ?_
               rotate_left
               ·intro w'
                go_simp
                with_reducible rfl
               rotate_left
               ·simp only [Act.put, sa, sz, ss, i64_w, i32_w]
                rfl
               refine pure_ (i := 17) (N := some 140) (v := undef) (a' := ?_) #[true, true, true, true, true, true, true, true, true, true, true, true, true, true, true, true, true, true, false, false, false, false, false, false, false, false, false, false, false, false] rfl rfl (any_of HT_.out (by kernel_rfl)) (fun _ _ _ h => h) (Or.inr ⟨by rfl, rfl⟩) ?_ ?_
               rotate_left
               ·simp only [Act.put, sa, sz, ss, i64_w, i32_w]
                rfl
               refine pure_ (i := 18) (N := some 141) (v := undef) (a' := ?_) #[true, true, true, true, true, true, true, true, true, true, true, true, true, true, true, true, true, true, true, false, false, false, false, false, false, false, false, false, false, false] rfl rfl (any_of HT_.out (by kernel_rfl)) (fun _ _ _ h => h) (Or.inr ⟨by rfl, rfl⟩) ?_ ?_
               rotate_left
               ·simp only [Act.put, sa, sz, ss, i64_w, i32_w]
                rfl
               refine pure_ (i := 19) (N := some 142) (v := undef) (a' := ?_) #[true, true, true, true, true, true, true, true, true, true, true, true, true, true, true, true, true, true, true, true, false, false, false, false, false, false, false, false, false, false] rfl rfl (any_of HT_.out (by kernel_rfl)) (fun _ _ _ h => h) (Or.inr ⟨by rfl, rfl⟩) ?_ ?_
               rotate_left
               ·simp only [Act.put, sa, sz, ss, i64_w, i32_w]
                rfl
               refine pure_ (i := 20) (N := some 143) (v := undef) (a' := ?_) #[true, true, true, true, true, true, true, true, true, true, true, true, true, true, true, true, true, true, true, true, true, false, false, false, false, false, false, false, false, false] rfl rfl (any_of HT_.out (by kernel_rfl)) (fun _ _ _ h => h) (Or.inr ⟨by rfl, rfl⟩) ?_ ?_
               rotate_left
               ·simp only [Act.put, sa, sz, ss, i64_w, i32_w]
                rfl
               refine pure_ (i := 21) (N := some 144) (v := undef) (a' := ?_) #[true, true, true, true, true, true, true, true, true, true, true, true, true, true, true, true, true, true, true, true, true, true, false, false, false, false, false, false, false, false] rfl rfl (any_of HT_.out (by kernel_rfl)) (fun _ _ _ h => h) (Or.inr ⟨by rfl, rfl⟩) ?_ ?_
               rotate_left
               ·simp only [Act.put, sa, sz, ss, i64_w, i32_w]
                rfl
               refine pure_ (i := 22) (N := some 145) (v := undef) (a' := ?_) #[true, true, true, true, true, true, true, true, true, true, true, true, true, true, true, true, true, true, true, true, true, true, true, false, false, false, false, false, false, false] rfl rfl (any_of HT_.out (by kernel_rfl)) (fun _ _ _ h => h) (Or.inr ⟨by rfl, rfl⟩) ?_ ?_
               rotate_left
               ·simp only [Act.put, sa, sz, ss, i64_w, i32_w]
                rfl
               refine pure_ (i := 23) (N := some 146) (v := undef) (a' := ?_) #[true, true, true, true, true, true, true, true, true, true, true, true, true, true, true, true, true, true, true, true, true, true, true, true, false, false, false, false, false, false] rfl rfl (any_of HT_.out (by kernel_rfl)) (fun _ _ _ h => h) (Or.inr ⟨by rfl, rfl⟩) ?_ ?_
               rotate_left
               ·simp only [Act.put, sa, sz, ss, i64_w, i32_w]
                rfl
               refine pure_ (i := 24) (N := some 147) (v := undef) (a' := ?_) #[true, true, true, true, true, true, true, true, true, true, true, true, true, true, true, true, true, true, true, true, true, true, true, true, true, false, false, false, false, false] rfl rfl (any_of HT_.out (by kernel_rfl)) (fun _ _ _ h => h) (Or.inr ⟨by rfl, rfl⟩) ?_ ?_
               rotate_left
               ·simp only [Act.put, sa, sz, ss, i64_w, i32_w]
                rfl
               refine pure_ (i := 25) (N := some 148) (v := undef) (a' := ?_) #[true, true, true, true, true, true, true, true, true, true, true, true, true, true, true, true, true, true, true, true, true, true, true, true, true, true, false, false, false, false] rfl rfl (any_of HT_.out (by kernel_rfl)) (fun _ _ _ h => h) (Or.inr ⟨by rfl, rfl⟩) ?_ ?_
               rotate_left
               ·simp only [Act.put, sa, sz, ss, i64_w, i32_w]
                rfl
               refine pure_ (i := 26) (N := some 149) (v := undef) (a' := ?_) #[true, true, true, true, true, true, true, true, true, true, true, true, true, true, true, true, true, true, true, true, true, true, true, true, true, true, true, false, false, false] rfl rfl (any_of HT_.out (by kernel_rfl)) (fun _ _ _ h => h) (Or.inr ⟨by rfl, rfl⟩) ?_ ?_
               rotate_left
               ·simp only [Act.put, sa, sz, ss, i64_w, i32_w]
                rfl
               refine pure_ (i := 27) (N := some 150) (v := undef) (a' := ?_) #[true, true, true, true, true, true, true, true, true, true, true, true, true, true, true, true, true, true, true, true, true, true, true, true, true, true, true, true, false, false] rfl rfl (any_of HT_.out (by kernel_rfl)) (fun _ _ _ h => h) (Or.inr ⟨by rfl, rfl⟩) ?_ ?_
               rotate_left
               ·simp only [Act.put, sa, sz, ss, i64_w, i32_w]
                rfl
               refine pure_ (i := 28) (N := some 151) (v := undef) (a' := ?_) #[true, true, true, true, true, true, true, true, true, true, true, true, true, true, true, true, true, true, true, true, true, true, true, true, true, true, true, true, true, false] rfl rfl (any_of HT_.out (by kernel_rfl)) (fun _ _ _ h => h) (Or.inr ⟨by rfl, rfl⟩) ?_ ?_
               rotate_left
               ·simp only [Act.put, sa, sz, ss, i64_w, i32_w]
                rfl
               refine pure_ (i := 29) (N := some 152) (v := ?_) (a' := ?_) #[true, true, true, true, true, true, true, true, true, true, true, true, true, true, true, true, true, true, true, true, true, true, true, true, true, true, true, true, true, true] rfl rfl (any_of HT_.out (by kernel_rfl)) (fun _ _ _ h => h) (Or.inl ⟨by rfl, ?_⟩) ?_ ?_
               rotate_left
               ·intro w'
                go_simp
                with_reducible rfl
               rotate_left
               ·simp only [Act.put, sa, sz, ss, i64_w, i32_w]
                rfl
               refine done_ (done_of HT_.out (by kernel_rfl)) ?_
               try go_wp2
               go_meet
               case rel => exact ⟨_, (true), (by first | rfl | (simp; done) | (simp [*]; done) | (simp [i64_w]; done) | (simp [*, i64_w]; done)), H', ⟨by have := HJ5.out; have := HJ23.out; have := HJ105.out; first | omega | exact Nat.le_refl _⟩, ⟨by exact HO_911000.out⟩, ⟨by exact HO_920000.out⟩, ⟨by exact HO946.out⟩, ⟨by exact HO951.out⟩, ⟨by exact HO956.out⟩, ⟨by exact BK910.out⟩, ⟨by exact BK919.out⟩, ⟨by exact BK948.out⟩, ⟨by exact BK953.out⟩, ⟨by exact BK958.out⟩, ⟨by repeat (first | exact HB.out | refine sb ?_ GE910 | refine sb ?_ GE919 | refine sb ?_ GE948 | refine sb ?_ GE953 | refine sb ?_ GE958)⟩⟩
            ·rw [if_neg c142] at H
             have c142b0 : (t957 == 0) = false := beq_eq_false_iff_ne.mpr c142
             have c142b1 : (t957 != 0) = true := bne_iff_ne.mpr c142
             as_aux_lemma =>
              have H' := Aside0.mk H
              clear H
              try go_wp2
              have n0_ : Aside0 (Kd.V (Kd.int .u32) 79 (w133.setCell ⟨gb958, 0, none⟩ (.slice Ao134 t954.length co134)) w.heap.size (fun k_ => k_ ≠ gb910 ∧ k_ ≠ gb919 ∧ k_ ≠ gb948 ∧ k_ ≠ gb953 ∧ k_ ≠ gb958) (.slice Ao9 t905.length co9) t905) := ⟨by exact Kd.V_mono (Kd.V_far (p := ⟨gb958, 0, none⟩) (Kd.V_mono HO_911000.out (fun k_ hk => (⟨hk, hk.2⟩ : _ ∧ k_ ≠ gb958))) (fun _ hk => hk.2) (.slice Ao134 t954.length co134)) (fun _ hk => ⟨hk.1.1.1.1.1, ⟨hk.1.1.1.1.2, ⟨hk.1.1.1.2, ⟨hk.1.1.2, hk.1.2⟩⟩⟩⟩)⟩
              have n1_ : Aside0 (Kd.V (Kd.int .u32) 79 (w133.setCell ⟨gb958, 0, none⟩ (.slice Ao134 t954.length co134)) w.heap.size (fun k_ => k_ ≠ gb910 ∧ k_ ≠ gb919 ∧ k_ ≠ gb948 ∧ k_ ≠ gb953 ∧ k_ ≠ gb958) (.slice Ao13 t914.length co13) t914) := ⟨by exact Kd.V_mono (Kd.V_far (p := ⟨gb958, 0, none⟩) (Kd.V_mono HO_920000.out (fun k_ hk => (⟨hk, hk.2⟩ : _ ∧ k_ ≠ gb958))) (fun _ hk => hk.2) (.slice Ao134 t954.length co134)) (fun _ hk => ⟨hk.1.1.1.1.1, ⟨hk.1.1.1.1.2, ⟨hk.1.1.1.2, ⟨hk.1.1.2, hk.1.2⟩⟩⟩⟩)⟩
              have n2_ : Aside0 (Kd.V (Kd.int .u32) 79 (w133.setCell ⟨gb958, 0, none⟩ (.slice Ao134 t954.length co134)) w.heap.size (fun k_ => k_ ≠ gb910 ∧ k_ ≠ gb919 ∧ k_ ≠ gb948 ∧ k_ ≠ gb953 ∧ k_ ≠ gb958) (.slice Ao121 t944.length co121) t944) := ⟨by exact Kd.V_mono (Kd.V_far (p := ⟨gb958, 0, none⟩) (Kd.V_mono HO946.out (fun k_ hk => (⟨hk, hk.2⟩ : _ ∧ k_ ≠ gb958))) (fun _ hk => hk.2) (.slice Ao134 t954.length co134)) (fun _ hk => ⟨hk.1.1.1.1.1, ⟨hk.1.1.1.1.2, ⟨hk.1.1.1.2, ⟨hk.1.1.2, hk.1.2⟩⟩⟩⟩)⟩
              have n3_ : Aside0 (Kd.V (Kd.int .u32) 79 (w133.setCell ⟨gb958, 0, none⟩ (.slice Ao134 t954.length co134)) w.heap.size (fun k_ => k_ ≠ gb910 ∧ k_ ≠ gb919 ∧ k_ ≠ gb948 ∧ k_ ≠ gb953 ∧ k_ ≠ gb958) (.slice Ao127 t949.length co127) t949) := ⟨by exact Kd.V_mono (Kd.V_far (p := ⟨gb958, 0, none⟩) (Kd.V_mono HO951.out (fun k_ hk => (⟨hk, hk.2⟩ : _ ∧ k_ ≠ gb958))) (fun _ hk => hk.2) (.slice Ao134 t954.length co134)) (fun _ hk => ⟨hk.1.1.1.1, ⟨hk.1.1.1.2.1, ⟨hk.1.1.1.2.2, ⟨hk.1.1.2, hk.1.2⟩⟩⟩⟩)⟩
              have n4_ : Aside0 (Kd.V (Kd.int .u32) 79 (w133.setCell ⟨gb958, 0, none⟩ (.slice Ao134 t954.length co134)) w.heap.size (fun k_ => k_ ≠ gb910 ∧ k_ ≠ gb919 ∧ k_ ≠ gb948 ∧ k_ ≠ gb953 ∧ k_ ≠ gb958) (.slice Ao134 t954.length co134) t954) := ⟨by exact Kd.V_mono (Kd.V_far (p := ⟨gb958, 0, none⟩) (Kd.V_mono HO956.out (fun k_ hk => (⟨hk, hk.2⟩ : _ ∧ k_ ≠ gb958))) (fun _ hk => hk.2) (.slice Ao134 t954.length co134)) (fun _ hk => ⟨hk.1.1.1, ⟨hk.1.1.2.1, ⟨hk.1.1.2.2.1, ⟨hk.1.1.2.2.2, hk.1.2⟩⟩⟩⟩)⟩
              have n5_ : Aside0 ((w133.setCell ⟨gb958, 0, none⟩ (.slice Ao134 t954.length co134)).heap[gb910]? = some (.cells #[.slice Ao9 t905.length co9] 26 (0, 0))) := ⟨by refine blk_far ?_ NB910_958.out _; exact BK910.out⟩
              have n6_ : Aside0 ((w133.setCell ⟨gb958, 0, none⟩ (.slice Ao134 t954.length co134)).heap[gb919]? = some (.cells #[.slice Ao13 t914.length co13] 26 (0, 0))) := ⟨by refine blk_far ?_ NB919_958.out _; exact BK919.out⟩
              have n7_ : Aside0 ((w133.setCell ⟨gb958, 0, none⟩ (.slice Ao134 t954.length co134)).heap[gb948]? = some (.cells #[.slice Ao121 t944.length co121] 26 (0, 0))) := ⟨by refine blk_far ?_ NB948_958.out _; exact BK948.out⟩
              have n8_ : Aside0 ((w133.setCell ⟨gb958, 0, none⟩ (.slice Ao134 t954.length co134)).heap[gb953]? = some (.cells #[.slice Ao127 t949.length co127] 26 (0, 0))) := ⟨by refine blk_far ?_ NB953_958.out _; exact BK953.out⟩
              have n9_ : Aside0 ((w133.setCell ⟨gb958, 0, none⟩ (.slice Ao134 t954.length co134)).heap[gb958]? = some (.cells #[.slice Ao134 t954.length co134] 26 (0, 0))) := ⟨by refine blk_put (cs := #[.slice none 0 0]) ?_ 0 _ rfl; exact BK958.out⟩
              have n10_ : Aside0 (Below w.heap.size w (w133.setCell ⟨gb958, 0, none⟩ (.slice Ao134 t954.length co134))) := ⟨by repeat (first | exact HB.out | refine sb ?_ GE910 | refine sb ?_ GE919 | refine sb ?_ GE948 | refine sb ?_ GE953 | refine sb ?_ GE958)⟩
              (try clear HO_911000)
              (try clear HO_920000)
              (try clear HO946)
              (try clear HO951)
              (try clear HO956)
              (try clear BK910)
              (try clear BK919)
              (try clear BK948)
              (try clear BK953)
              (try clear BK958)
              (try clear HB)
              generalize (w133.setCell ⟨gb958, 0, none⟩ (.slice Ao134 t954.length co134)) = w162 at n0_ n1_ n2_ n3_ n4_ n5_ n6_ n7_ n8_ n9_ n10_ ⊢
              have HO_911000 := n0_
              have HO_920000 := n1_
              have HO946 := n2_
              have HO951 := n3_
              have HO956 := n4_
              have BK910 := n5_
              have BK919 := n6_
              have BK948 := n7_
              have BK953 := n8_
              have BK958 := n9_
              have HB := n10_
              clear n0_ n1_ n2_ n3_ n4_ n5_ n6_ n7_ n8_ n9_ n10_
              replace HO_911000 := Aside0.mk (Kd.V_drew HO_911000.out)
              replace HO_920000 := Aside0.mk (Kd.V_drew HO_920000.out)
              replace HO946 := Aside0.mk (Kd.V_drew HO946.out)
              replace HO951 := Aside0.mk (Kd.V_drew HO951.out)
              replace HO956 := Aside0.mk (Kd.V_drew HO956.out)
              replace BK910 := Aside0.mk (blk_drew BK910.out)
              replace BK919 := Aside0.mk (blk_drew BK919.out)
              replace BK948 := Aside0.mk (blk_drew BK948.out)
              replace BK953 := Aside0.mk (blk_drew BK953.out)
              replace BK958 := Aside0.mk (blk_drew BK958.out)
              replace HB := Aside0.mk (below_drew1 HB.out)
              refine start_ (n := 30) (S := fun w' => True) (ds := []) #[false, false, false, false, false, false, false, false, false, false, false, false, false, false, false, false, false, false, false, false, false, false, false, false, false, false, false, false, false, false] (by kernel_rfl) rfl rfl trivial (fun hHeld => ?_); refine with_tabW heraldlaw04_NatDivides.tab16 heraldlaw04_NatDivides.bits16 (fun HT_ HW_ => ?_)
              generalize w162.drew = w163 at HO_911000 HO_920000 HO946 HO951 HO956 BK910 BK919 BK948 BK953 BK958 HB hHeld ⊢
              refine pure_ (i := 0) (N := some 123) (v := ?_) (a' := ?_) #[true, false, false, false, false, false, false, false, false, false, false, false, false, false, false, false, false, false, false, false, false, false, false, false, false, false, false, false, false, false] rfl rfl (any_of HT_.out (by kernel_rfl)) (fun _ _ _ h => h) (Or.inl ⟨by rfl, ?_⟩) ?_ ?_
              rotate_left
              ·intro w'
               go_simp
               with_reducible rfl
              rotate_left
              ·simp only [Act.put, sa, sz, ss, i64_w, i32_w]
               rfl
              refine pure_ (i := 1) (N := some 124) (v := ?_) (a' := ?_) #[true, true, false, false, false, false, false, false, false, false, false, false, false, false, false, false, false, false, false, false, false, false, false, false, false, false, false, false, false, false] rfl rfl (any_of HT_.out (by kernel_rfl)) (fun _ _ _ h => h) (Or.inl ⟨by rfl, ?_⟩) ?_ ?_
              rotate_left
              ·intro w'
               go_simp
               with_reducible rfl
              rotate_left
              ·simp only [Act.put, sa, sz, ss, i64_w, i32_w]
               rfl
              refine pure_ (i := 2) (N := some 125) (v := ?_) (a' := ?_) #[true, true, true, false, false, false, false, false, false, false, false, false, false, false, false, false, false, false, false, false, false, false, false, false, false, false, false, false, false, false] rfl rfl (any_of HT_.out (by kernel_rfl)) (fun _ _ _ h => h) (Or.inl ⟨by rfl, ?_⟩) ?_ ?_
              rotate_left
              ·intro w'
               go_simp
               with_reducible rfl
              rotate_left
              ·simp only [Act.put, sa, sz, ss, i64_w, i32_w]
               rfl
              refine pure_ (i := 3) (N := some 126) (v := ?_) (a' := ?_) #[true, true, true, true, false, false, false, false, false, false, false, false, false, false, false, false, false, false, false, false, false, false, false, false, false, false, false, false, false, false] rfl rfl (any_of HT_.out (by kernel_rfl)) (fun _ _ _ h => h) (Or.inl ⟨by rfl, ?_⟩) ?_ ?_
              rotate_left
              ·intro w'
               go_simp
               with_reducible rfl
              rotate_left
              ·simp only [Act.put, sa, sz, ss, i64_w, i32_w]
               rfl
              refine pure_ (i := 4) (N := some 127) (v := ?_) (a' := ?_) #[true, true, true, true, true, false, false, false, false, false, false, false, false, false, false, false, false, false, false, false, false, false, false, false, false, false, false, false, false, false] rfl rfl (any_of HT_.out (by kernel_rfl)) (fun _ _ _ h => h) (Or.inl ⟨by rfl, ?_⟩) ?_ ?_
              rotate_left
              ·intro w'
               go_simp
               with_reducible rfl
              rotate_left
              ·simp only [Act.put, sa, sz, ss, i64_w, i32_w]
               rfl
              refine pure_ (i := 5) (N := some 128) (v := ?_) (a' := ?_) #[true, true, true, true, true, true, false, false, false, false, false, false, false, false, false, false, false, false, false, false, false, false, false, false, false, false, false, false, false, false] rfl rfl (any_of HT_.out (by kernel_rfl)) (fun _ _ _ h => h) (Or.inl ⟨by rfl, ?_⟩) ?_ ?_
              rotate_left
              ·intro w'
               go_simp
               with_reducible rfl
              rotate_left
              ·simp only [Act.put, sa, sz, ss, i64_w, i32_w]
               rfl
              refine pure_ (i := 6) (N := some 129) (v := ?_) (a' := ?_) #[true, true, true, true, true, true, true, false, false, false, false, false, false, false, false, false, false, false, false, false, false, false, false, false, false, false, false, false, false, false] rfl rfl (any_of HT_.out (by kernel_rfl)) (fun _ _ _ h => h) (Or.inl ⟨by rfl, ?_⟩) ?_ ?_
              rotate_left
              ·intro w'
               go_simp
               with_reducible rfl
              rotate_left
              ·simp only [Act.put, sa, sz, ss, i64_w, i32_w]
               rfl
              refine pure_ (i := 7) (N := some 130) (v := ?_) (a' := ?_) #[true, true, true, true, true, true, true, true, false, false, false, false, false, false, false, false, false, false, false, false, false, false, false, false, false, false, false, false, false, false] rfl rfl (any_of HT_.out (by kernel_rfl)) (fun _ _ _ h => h) (Or.inl ⟨by rfl, ?_⟩) ?_ ?_
              rotate_left
              ·intro w'
               go_simp
               with_reducible rfl
              rotate_left
              ·simp only [Act.put, sa, sz, ss, i64_w, i32_w]
               rfl
              refine pure_ (i := 8) (N := some 131) (v := ?_) (a' := ?_) #[true, true, true, true, true, true, true, true, true, false, false, false, false, false, false, false, false, false, false, false, false, false, false, false, false, false, false, false, false, false] rfl rfl (any_of HT_.out (by kernel_rfl)) (fun _ _ _ h => h) (Or.inl ⟨by rfl, ?_⟩) ?_ ?_
              rotate_left
              ·intro w'
               go_simp
               with_reducible rfl
              rotate_left
              ·simp only [Act.put, sa, sz, ss, i64_w, i32_w]
               rfl
              refine pure_ (i := 9) (N := some 132) (v := ?_) (a' := ?_) #[true, true, true, true, true, true, true, true, true, true, false, false, false, false, false, false, false, false, false, false, false, false, false, false, false, false, false, false, false, false] rfl rfl (any_of HT_.out (by kernel_rfl)) (fun _ _ _ h => h) (Or.inl ⟨by rfl, ?_⟩) ?_ ?_
              rotate_left
              ·intro w'
               go_simp
               with_reducible rfl
              rotate_left
              ·simp only [Act.put, sa, sz, ss, i64_w, i32_w]
               rfl
              refine pure_ (i := 10) (N := some 133) (v := ?_) (a' := ?_) #[true, true, true, true, true, true, true, true, true, true, true, false, false, false, false, false, false, false, false, false, false, false, false, false, false, false, false, false, false, false] rfl rfl (any_of HT_.out (by kernel_rfl)) (fun _ _ _ h => h) (Or.inl ⟨by rfl, ?_⟩) ?_ ?_
              rotate_left
              ·intro w'
               go_simp
               with_reducible rfl
              rotate_left
              ·simp only [Act.put, sa, sz, ss, i64_w, i32_w]
               rfl
              refine pure_ (i := 11) (N := some 134) (v := undef) (a' := ?_) #[true, true, true, true, true, true, true, true, true, true, true, true, false, false, false, false, false, false, false, false, false, false, false, false, false, false, false, false, false, false] rfl rfl (any_of HT_.out (by kernel_rfl)) (fun _ _ _ h => h) (Or.inr ⟨by rfl, rfl⟩) ?_ ?_
              rotate_left
              ·simp only [Act.put, sa, sz, ss, i64_w, i32_w]
               rfl
              refine pure_ (i := 12) (N := some 135) (v := undef) (a' := ?_) #[true, true, true, true, true, true, true, true, true, true, true, true, true, false, false, false, false, false, false, false, false, false, false, false, false, false, false, false, false, false] rfl rfl (any_of HT_.out (by kernel_rfl)) (fun _ _ _ h => h) (Or.inr ⟨by rfl, rfl⟩) ?_ ?_
              rotate_left
              ·simp only [Act.put, sa, sz, ss, i64_w, i32_w]
               rfl
              refine pure_ (i := 13) (N := some 136) (v := undef) (a' := ?_) #[true, true, true, true, true, true, true, true, true, true, true, true, true, true, false, false, false, false, false, false, false, false, false, false, false, false, false, false, false, false] rfl rfl (any_of HT_.out (by kernel_rfl)) (fun _ _ _ h => h) (Or.inr ⟨by rfl, rfl⟩) ?_ ?_
              rotate_left
              ·simp only [Act.put, sa, sz, ss, i64_w, i32_w]
               rfl
              refine pure_ (i := 14) (N := some 137) (v := undef) (a' := ?_) #[true, true, true, true, true, true, true, true, true, true, true, true, true, true, true, false, false, false, false, false, false, false, false, false, false, false, false, false, false, false] rfl rfl (any_of HT_.out (by kernel_rfl)) (fun _ _ _ h => h) (Or.inr ⟨by rfl, rfl⟩) ?_ ?_
              rotate_left
              ·simp only [Act.put, sa, sz, ss, i64_w, i32_w]
               rfl
              refine pure_ (i := 15) (N := some 138) (v := ?_) (a' := ?_) #[true, true, true, true, true, true, true, true, true, true, true, true, true, true, true, true, false, false, false, false, false, false, false, false, false, false, false, false, false, false] rfl rfl (any_of HT_.out (by kernel_rfl)) (fun _ _ _ h => h) (Or.inl ⟨by rfl, ?_⟩) ?_ ?_
              rotate_left
              ·intro w'
               go_simp
               with_reducible rfl
              rotate_left
              ·simp only [Act.put, sa, sz, ss, i64_w, i32_w]
               rfl
              refine pure_ (i := 16) (N := some 139) (v := ?_) (a' := ?_) #[true, true, true, true, true, true, true, true, true, true, true, true, true, true, true, true, true, false, false, false, false, false, false, false, false, false, false, false, false, false] rfl rfl (any_of HT_.out (by kernel_rfl)) (fun _ _ _ h => h) (Or.inl ⟨by rfl, ?_⟩) ?_ ?_
              rotate_left
              ·intro w'
               go_simp
               with_reducible rfl
              rotate_left
              ·simp only [Act.put, sa, sz, ss, i64_w, i32_w]
               rfl
              refine pure_ (i := 17) (N := some 140) (v := undef) (a' := ?_) #[true, true, true, true, true, true, true, true, true, true, true, true, true, true, true, true, true, true, false, false, false, false, false, false, false, false, false, false, false, false] rfl rfl (any_of HT_.out (by kernel_rfl)) (fun _ _ _ h => h) (Or.inr ⟨by rfl, rfl⟩) ?_ ?_
              rotate_left
              ·simp only [Act.put, sa, sz, ss, i64_w, i32_w]
               rfl
              refine pure_ (i := 18) (N := some 141) (v := undef) (a' := ?_) #[true, true, true, true, true, true, true, true, true, true, true, true, true, true, true, true, true, true, true, false, false, false, false, false, false, false, false, false, false, false] rfl rfl (any_of HT_.out (by kernel_rfl)) (fun _ _ _ h => h) (Or.inr ⟨by rfl, rfl⟩) ?_ ?_
              rotate_left
              ·simp only [Act.put, sa, sz, ss, i64_w, i32_w]
               rfl
              refine pure_ (i := 19) (N := some 142) (v := undef) (a' := ?_) #[true, true, true, true, true, true, true, true, true, true, true, true, true, true, true, true, true, true, true, true, false, false, false, false, false, false, false, false, false, false] rfl rfl (any_of HT_.out (by kernel_rfl)) (fun _ _ _ h => h) (Or.inr ⟨by rfl, rfl⟩) ?_ ?_
              rotate_left
              ·simp only [Act.put, sa, sz, ss, i64_w, i32_w]
               rfl
              refine pure_ (i := 20) (N := some 143) (v := undef) (a' := ?_) #[true, true, true, true, true, true, true, true, true, true, true, true, true, true, true, true, true, true, true, true, true, false, false, false, false, false, false, false, false, false] rfl rfl (any_of HT_.out (by kernel_rfl)) (fun _ _ _ h => h) (Or.inr ⟨by rfl, rfl⟩) ?_ ?_
              rotate_left
              ·simp only [Act.put, sa, sz, ss, i64_w, i32_w]
               rfl
              refine pure_ (i := 21) (N := some 144) (v := undef) (a' := ?_) #[true, true, true, true, true, true, true, true, true, true, true, true, true, true, true, true, true, true, true, true, true, true, false, false, false, false, false, false, false, false] rfl rfl (any_of HT_.out (by kernel_rfl)) (fun _ _ _ h => h) (Or.inr ⟨by rfl, rfl⟩) ?_ ?_
              rotate_left
              ·simp only [Act.put, sa, sz, ss, i64_w, i32_w]
               rfl
              refine pure_ (i := 22) (N := some 145) (v := undef) (a' := ?_) #[true, true, true, true, true, true, true, true, true, true, true, true, true, true, true, true, true, true, true, true, true, true, true, false, false, false, false, false, false, false] rfl rfl (any_of HT_.out (by kernel_rfl)) (fun _ _ _ h => h) (Or.inr ⟨by rfl, rfl⟩) ?_ ?_
              rotate_left
              ·simp only [Act.put, sa, sz, ss, i64_w, i32_w]
               rfl
              refine pure_ (i := 23) (N := some 146) (v := undef) (a' := ?_) #[true, true, true, true, true, true, true, true, true, true, true, true, true, true, true, true, true, true, true, true, true, true, true, true, false, false, false, false, false, false] rfl rfl (any_of HT_.out (by kernel_rfl)) (fun _ _ _ h => h) (Or.inr ⟨by rfl, rfl⟩) ?_ ?_
              rotate_left
              ·simp only [Act.put, sa, sz, ss, i64_w, i32_w]
               rfl
              refine pure_ (i := 24) (N := some 147) (v := undef) (a' := ?_) #[true, true, true, true, true, true, true, true, true, true, true, true, true, true, true, true, true, true, true, true, true, true, true, true, true, false, false, false, false, false] rfl rfl (any_of HT_.out (by kernel_rfl)) (fun _ _ _ h => h) (Or.inr ⟨by rfl, rfl⟩) ?_ ?_
              rotate_left
              ·simp only [Act.put, sa, sz, ss, i64_w, i32_w]
               rfl
              refine pure_ (i := 25) (N := some 148) (v := undef) (a' := ?_) #[true, true, true, true, true, true, true, true, true, true, true, true, true, true, true, true, true, true, true, true, true, true, true, true, true, true, false, false, false, false] rfl rfl (any_of HT_.out (by kernel_rfl)) (fun _ _ _ h => h) (Or.inr ⟨by rfl, rfl⟩) ?_ ?_
              rotate_left
              ·simp only [Act.put, sa, sz, ss, i64_w, i32_w]
               rfl
              refine pure_ (i := 26) (N := some 149) (v := undef) (a' := ?_) #[true, true, true, true, true, true, true, true, true, true, true, true, true, true, true, true, true, true, true, true, true, true, true, true, true, true, true, false, false, false] rfl rfl (any_of HT_.out (by kernel_rfl)) (fun _ _ _ h => h) (Or.inr ⟨by rfl, rfl⟩) ?_ ?_
              rotate_left
              ·simp only [Act.put, sa, sz, ss, i64_w, i32_w]
               rfl
              refine pure_ (i := 27) (N := some 150) (v := undef) (a' := ?_) #[true, true, true, true, true, true, true, true, true, true, true, true, true, true, true, true, true, true, true, true, true, true, true, true, true, true, true, true, false, false] rfl rfl (any_of HT_.out (by kernel_rfl)) (fun _ _ _ h => h) (Or.inr ⟨by rfl, rfl⟩) ?_ ?_
              rotate_left
              ·simp only [Act.put, sa, sz, ss, i64_w, i32_w]
               rfl
              refine pure_ (i := 28) (N := some 151) (v := undef) (a' := ?_) #[true, true, true, true, true, true, true, true, true, true, true, true, true, true, true, true, true, true, true, true, true, true, true, true, true, true, true, true, true, false] rfl rfl (any_of HT_.out (by kernel_rfl)) (fun _ _ _ h => h) (Or.inr ⟨by rfl, rfl⟩) ?_ ?_
              rotate_left
              ·simp only [Act.put, sa, sz, ss, i64_w, i32_w]
               rfl
              refine pure_ (i := 29) (N := some 152) (v := ?_) (a' := ?_) #[true, true, true, true, true, true, true, true, true, true, true, true, true, true, true, true, true, true, true, true, true, true, true, true, true, true, true, true, true, true] rfl rfl (any_of HT_.out (by kernel_rfl)) (fun _ _ _ h => h) (Or.inl ⟨by rfl, ?_⟩) ?_ ?_
              rotate_left
              ·intro w'
               go_simp
               with_reducible rfl
              rotate_left
              ·simp only [Act.put, sa, sz, ss, i64_w, i32_w]
               rfl
              refine done_ (done_of HT_.out (by kernel_rfl)) ?_
              try go_wp2
              go_meet
              case rel => exact ⟨_, (true), (by first | rfl | (simp; done) | (simp [*]; done) | (simp [i64_w]; done) | (simp [*, i64_w]; done)), H', ⟨by have := HJ5.out; have := HJ23.out; have := HJ105.out; first | omega | exact Nat.le_refl _⟩, ⟨by exact HO_911000.out⟩, ⟨by exact HO_920000.out⟩, ⟨by exact HO946.out⟩, ⟨by exact HO951.out⟩, ⟨by exact HO956.out⟩, ⟨by exact BK910.out⟩, ⟨by exact BK919.out⟩, ⟨by exact BK948.out⟩, ⟨by exact BK953.out⟩, ⟨by exact BK958.out⟩, ⟨by repeat (first | exact HB.out | refine sb ?_ GE910 | refine sb ?_ GE919 | refine sb ?_ GE948 | refine sb ?_ GE953 | refine sb ?_ GE958)⟩⟩
           ·rw [if_neg c141] at H
            have c141b0 : (t952 == 0) = false := beq_eq_false_iff_ne.mpr c141
            have c141b1 : (t952 != 0) = true := bne_iff_ne.mpr c141
            as_aux_lemma =>
             have H' := Aside0.mk H
             clear H
             try go_wp2
             have n0_ : Aside0 (Kd.V (Kd.int .u32) 79 (w133.setCell ⟨gb958, 0, none⟩ (.slice Ao134 t954.length co134)) w.heap.size (fun k_ => k_ ≠ gb910 ∧ k_ ≠ gb919 ∧ k_ ≠ gb948 ∧ k_ ≠ gb953 ∧ k_ ≠ gb958) (.slice Ao9 t905.length co9) t905) := ⟨by exact Kd.V_mono (Kd.V_far (p := ⟨gb958, 0, none⟩) (Kd.V_mono HO_911000.out (fun k_ hk => (⟨hk, hk.2⟩ : _ ∧ k_ ≠ gb958))) (fun _ hk => hk.2) (.slice Ao134 t954.length co134)) (fun _ hk => ⟨hk.1.1.1.1.1, ⟨hk.1.1.1.1.2, ⟨hk.1.1.1.2, ⟨hk.1.1.2, hk.1.2⟩⟩⟩⟩)⟩
             have n1_ : Aside0 (Kd.V (Kd.int .u32) 79 (w133.setCell ⟨gb958, 0, none⟩ (.slice Ao134 t954.length co134)) w.heap.size (fun k_ => k_ ≠ gb910 ∧ k_ ≠ gb919 ∧ k_ ≠ gb948 ∧ k_ ≠ gb953 ∧ k_ ≠ gb958) (.slice Ao13 t914.length co13) t914) := ⟨by exact Kd.V_mono (Kd.V_far (p := ⟨gb958, 0, none⟩) (Kd.V_mono HO_920000.out (fun k_ hk => (⟨hk, hk.2⟩ : _ ∧ k_ ≠ gb958))) (fun _ hk => hk.2) (.slice Ao134 t954.length co134)) (fun _ hk => ⟨hk.1.1.1.1.1, ⟨hk.1.1.1.1.2, ⟨hk.1.1.1.2, ⟨hk.1.1.2, hk.1.2⟩⟩⟩⟩)⟩
             have n2_ : Aside0 (Kd.V (Kd.int .u32) 79 (w133.setCell ⟨gb958, 0, none⟩ (.slice Ao134 t954.length co134)) w.heap.size (fun k_ => k_ ≠ gb910 ∧ k_ ≠ gb919 ∧ k_ ≠ gb948 ∧ k_ ≠ gb953 ∧ k_ ≠ gb958) (.slice Ao121 t944.length co121) t944) := ⟨by exact Kd.V_mono (Kd.V_far (p := ⟨gb958, 0, none⟩) (Kd.V_mono HO946.out (fun k_ hk => (⟨hk, hk.2⟩ : _ ∧ k_ ≠ gb958))) (fun _ hk => hk.2) (.slice Ao134 t954.length co134)) (fun _ hk => ⟨hk.1.1.1.1.1, ⟨hk.1.1.1.1.2, ⟨hk.1.1.1.2, ⟨hk.1.1.2, hk.1.2⟩⟩⟩⟩)⟩
             have n3_ : Aside0 (Kd.V (Kd.int .u32) 79 (w133.setCell ⟨gb958, 0, none⟩ (.slice Ao134 t954.length co134)) w.heap.size (fun k_ => k_ ≠ gb910 ∧ k_ ≠ gb919 ∧ k_ ≠ gb948 ∧ k_ ≠ gb953 ∧ k_ ≠ gb958) (.slice Ao127 t949.length co127) t949) := ⟨by exact Kd.V_mono (Kd.V_far (p := ⟨gb958, 0, none⟩) (Kd.V_mono HO951.out (fun k_ hk => (⟨hk, hk.2⟩ : _ ∧ k_ ≠ gb958))) (fun _ hk => hk.2) (.slice Ao134 t954.length co134)) (fun _ hk => ⟨hk.1.1.1.1, ⟨hk.1.1.1.2.1, ⟨hk.1.1.1.2.2, ⟨hk.1.1.2, hk.1.2⟩⟩⟩⟩)⟩
             have n4_ : Aside0 (Kd.V (Kd.int .u32) 79 (w133.setCell ⟨gb958, 0, none⟩ (.slice Ao134 t954.length co134)) w.heap.size (fun k_ => k_ ≠ gb910 ∧ k_ ≠ gb919 ∧ k_ ≠ gb948 ∧ k_ ≠ gb953 ∧ k_ ≠ gb958) (.slice Ao134 t954.length co134) t954) := ⟨by exact Kd.V_mono (Kd.V_far (p := ⟨gb958, 0, none⟩) (Kd.V_mono HO956.out (fun k_ hk => (⟨hk, hk.2⟩ : _ ∧ k_ ≠ gb958))) (fun _ hk => hk.2) (.slice Ao134 t954.length co134)) (fun _ hk => ⟨hk.1.1.1, ⟨hk.1.1.2.1, ⟨hk.1.1.2.2.1, ⟨hk.1.1.2.2.2, hk.1.2⟩⟩⟩⟩)⟩
             have n5_ : Aside0 ((w133.setCell ⟨gb958, 0, none⟩ (.slice Ao134 t954.length co134)).heap[gb910]? = some (.cells #[.slice Ao9 t905.length co9] 26 (0, 0))) := ⟨by refine blk_far ?_ NB910_958.out _; exact BK910.out⟩
             have n6_ : Aside0 ((w133.setCell ⟨gb958, 0, none⟩ (.slice Ao134 t954.length co134)).heap[gb919]? = some (.cells #[.slice Ao13 t914.length co13] 26 (0, 0))) := ⟨by refine blk_far ?_ NB919_958.out _; exact BK919.out⟩
             have n7_ : Aside0 ((w133.setCell ⟨gb958, 0, none⟩ (.slice Ao134 t954.length co134)).heap[gb948]? = some (.cells #[.slice Ao121 t944.length co121] 26 (0, 0))) := ⟨by refine blk_far ?_ NB948_958.out _; exact BK948.out⟩
             have n8_ : Aside0 ((w133.setCell ⟨gb958, 0, none⟩ (.slice Ao134 t954.length co134)).heap[gb953]? = some (.cells #[.slice Ao127 t949.length co127] 26 (0, 0))) := ⟨by refine blk_far ?_ NB953_958.out _; exact BK953.out⟩
             have n9_ : Aside0 ((w133.setCell ⟨gb958, 0, none⟩ (.slice Ao134 t954.length co134)).heap[gb958]? = some (.cells #[.slice Ao134 t954.length co134] 26 (0, 0))) := ⟨by refine blk_put (cs := #[.slice none 0 0]) ?_ 0 _ rfl; exact BK958.out⟩
             have n10_ : Aside0 (Below w.heap.size w (w133.setCell ⟨gb958, 0, none⟩ (.slice Ao134 t954.length co134))) := ⟨by repeat (first | exact HB.out | refine sb ?_ GE910 | refine sb ?_ GE919 | refine sb ?_ GE948 | refine sb ?_ GE953 | refine sb ?_ GE958)⟩
             (try clear HO_911000)
             (try clear HO_920000)
             (try clear HO946)
             (try clear HO951)
             (try clear HO956)
             (try clear BK910)
             (try clear BK919)
             (try clear BK948)
             (try clear BK953)
             (try clear BK958)
             (try clear HB)
             generalize (w133.setCell ⟨gb958, 0, none⟩ (.slice Ao134 t954.length co134)) = w164 at n0_ n1_ n2_ n3_ n4_ n5_ n6_ n7_ n8_ n9_ n10_ ⊢
             have HO_911000 := n0_
             have HO_920000 := n1_
             have HO946 := n2_
             have HO951 := n3_
             have HO956 := n4_
             have BK910 := n5_
             have BK919 := n6_
             have BK948 := n7_
             have BK953 := n8_
             have BK958 := n9_
             have HB := n10_
             clear n0_ n1_ n2_ n3_ n4_ n5_ n6_ n7_ n8_ n9_ n10_
             replace HO_911000 := Aside0.mk (Kd.V_drew HO_911000.out)
             replace HO_920000 := Aside0.mk (Kd.V_drew HO_920000.out)
             replace HO946 := Aside0.mk (Kd.V_drew HO946.out)
             replace HO951 := Aside0.mk (Kd.V_drew HO951.out)
             replace HO956 := Aside0.mk (Kd.V_drew HO956.out)
             replace BK910 := Aside0.mk (blk_drew BK910.out)
             replace BK919 := Aside0.mk (blk_drew BK919.out)
             replace BK948 := Aside0.mk (blk_drew BK948.out)
             replace BK953 := Aside0.mk (blk_drew BK953.out)
             replace BK958 := Aside0.mk (blk_drew BK958.out)
             replace HB := Aside0.mk (below_drew1 HB.out)
             refine start_ (n := 30) (S := fun w' => True) (ds := []) #[false, false, false, false, false, false, false, false, false, false, false, false, false, false, false, false, false, false, false, false, false, false, false, false, false, false, false, false, false, false] (by kernel_rfl) rfl rfl trivial (fun hHeld => ?_); refine with_tabW heraldlaw04_NatDivides.tab16 heraldlaw04_NatDivides.bits16 (fun HT_ HW_ => ?_)
             generalize w164.drew = w165 at HO_911000 HO_920000 HO946 HO951 HO956 BK910 BK919 BK948 BK953 BK958 HB hHeld ⊢
             refine pure_ (i := 0) (N := some 123) (v := ?_) (a' := ?_) #[true, false, false, false, false, false, false, false, false, false, false, false, false, false, false, false, false, false, false, false, false, false, false, false, false, false, false, false, false, false] rfl rfl (any_of HT_.out (by kernel_rfl)) (fun _ _ _ h => h) (Or.inl ⟨by rfl, ?_⟩) ?_ ?_
             rotate_left
             ·intro w'
              go_simp
              with_reducible rfl
             rotate_left
             ·simp only [Act.put, sa, sz, ss, i64_w, i32_w]
              rfl
             refine pure_ (i := 1) (N := some 124) (v := ?_) (a' := ?_) #[true, true, false, false, false, false, false, false, false, false, false, false, false, false, false, false, false, false, false, false, false, false, false, false, false, false, false, false, false, false] rfl rfl (any_of HT_.out (by kernel_rfl)) (fun _ _ _ h => h) (Or.inl ⟨by rfl, ?_⟩) ?_ ?_
             rotate_left
             ·intro w'
              go_simp
              with_reducible rfl
             rotate_left
             ·simp only [Act.put, sa, sz, ss, i64_w, i32_w]
              rfl
             refine pure_ (i := 2) (N := some 125) (v := ?_) (a' := ?_) #[true, true, true, false, false, false, false, false, false, false, false, false, false, false, false, false, false, false, false, false, false, false, false, false, false, false, false, false, false, false] rfl rfl (any_of HT_.out (by kernel_rfl)) (fun _ _ _ h => h) (Or.inl ⟨by rfl, ?_⟩) ?_ ?_
             rotate_left
             ·intro w'
              go_simp
              with_reducible rfl
             rotate_left
             ·simp only [Act.put, sa, sz, ss, i64_w, i32_w]
              rfl
             refine pure_ (i := 3) (N := some 126) (v := ?_) (a' := ?_) #[true, true, true, true, false, false, false, false, false, false, false, false, false, false, false, false, false, false, false, false, false, false, false, false, false, false, false, false, false, false] rfl rfl (any_of HT_.out (by kernel_rfl)) (fun _ _ _ h => h) (Or.inl ⟨by rfl, ?_⟩) ?_ ?_
             rotate_left
             ·intro w'
              go_simp
              with_reducible rfl
             rotate_left
             ·simp only [Act.put, sa, sz, ss, i64_w, i32_w]
              rfl
             refine pure_ (i := 4) (N := some 127) (v := ?_) (a' := ?_) #[true, true, true, true, true, false, false, false, false, false, false, false, false, false, false, false, false, false, false, false, false, false, false, false, false, false, false, false, false, false] rfl rfl (any_of HT_.out (by kernel_rfl)) (fun _ _ _ h => h) (Or.inl ⟨by rfl, ?_⟩) ?_ ?_
             rotate_left
             ·intro w'
              go_simp
              with_reducible rfl
             rotate_left
             ·simp only [Act.put, sa, sz, ss, i64_w, i32_w]
              rfl
             refine pure_ (i := 5) (N := some 128) (v := ?_) (a' := ?_) #[true, true, true, true, true, true, false, false, false, false, false, false, false, false, false, false, false, false, false, false, false, false, false, false, false, false, false, false, false, false] rfl rfl (any_of HT_.out (by kernel_rfl)) (fun _ _ _ h => h) (Or.inl ⟨by rfl, ?_⟩) ?_ ?_
             rotate_left
             ·intro w'
              go_simp
              with_reducible rfl
             rotate_left
             ·simp only [Act.put, sa, sz, ss, i64_w, i32_w]
              rfl
             refine pure_ (i := 6) (N := some 129) (v := ?_) (a' := ?_) #[true, true, true, true, true, true, true, false, false, false, false, false, false, false, false, false, false, false, false, false, false, false, false, false, false, false, false, false, false, false] rfl rfl (any_of HT_.out (by kernel_rfl)) (fun _ _ _ h => h) (Or.inl ⟨by rfl, ?_⟩) ?_ ?_
             rotate_left
             ·intro w'
              go_simp
              with_reducible rfl
             rotate_left
             ·simp only [Act.put, sa, sz, ss, i64_w, i32_w]
              rfl
             refine pure_ (i := 7) (N := some 130) (v := undef) (a' := ?_) #[true, true, true, true, true, true, true, true, false, false, false, false, false, false, false, false, false, false, false, false, false, false, false, false, false, false, false, false, false, false] rfl rfl (any_of HT_.out (by kernel_rfl)) (fun _ _ _ h => h) (Or.inr ⟨by rfl, rfl⟩) ?_ ?_
             rotate_left
             ·simp only [Act.put, sa, sz, ss, i64_w, i32_w]
              rfl
             refine pure_ (i := 8) (N := some 131) (v := undef) (a' := ?_) #[true, true, true, true, true, true, true, true, true, false, false, false, false, false, false, false, false, false, false, false, false, false, false, false, false, false, false, false, false, false] rfl rfl (any_of HT_.out (by kernel_rfl)) (fun _ _ _ h => h) (Or.inr ⟨by rfl, rfl⟩) ?_ ?_
             rotate_left
             ·simp only [Act.put, sa, sz, ss, i64_w, i32_w]
              rfl
             refine pure_ (i := 9) (N := some 132) (v := ?_) (a' := ?_) #[true, true, true, true, true, true, true, true, true, true, false, false, false, false, false, false, false, false, false, false, false, false, false, false, false, false, false, false, false, false] rfl rfl (any_of HT_.out (by kernel_rfl)) (fun _ _ _ h => h) (Or.inl ⟨by rfl, ?_⟩) ?_ ?_
             rotate_left
             ·intro w'
              go_simp
              with_reducible rfl
             rotate_left
             ·simp only [Act.put, sa, sz, ss, i64_w, i32_w]
              rfl
             refine pure_ (i := 10) (N := some 133) (v := ?_) (a' := ?_) #[true, true, true, true, true, true, true, true, true, true, true, false, false, false, false, false, false, false, false, false, false, false, false, false, false, false, false, false, false, false] rfl rfl (any_of HT_.out (by kernel_rfl)) (fun _ _ _ h => h) (Or.inl ⟨by rfl, ?_⟩) ?_ ?_
             rotate_left
             ·intro w'
              go_simp
              with_reducible rfl
             rotate_left
             ·simp only [Act.put, sa, sz, ss, i64_w, i32_w]
              rfl
             refine pure_ (i := 11) (N := some 134) (v := undef) (a' := ?_) #[true, true, true, true, true, true, true, true, true, true, true, true, false, false, false, false, false, false, false, false, false, false, false, false, false, false, false, false, false, false] rfl rfl (any_of HT_.out (by kernel_rfl)) (fun _ _ _ h => h) (Or.inr ⟨by rfl, rfl⟩) ?_ ?_
             rotate_left
             ·simp only [Act.put, sa, sz, ss, i64_w, i32_w]
              rfl
             refine pure_ (i := 12) (N := some 135) (v := undef) (a' := ?_) #[true, true, true, true, true, true, true, true, true, true, true, true, true, false, false, false, false, false, false, false, false, false, false, false, false, false, false, false, false, false] rfl rfl (any_of HT_.out (by kernel_rfl)) (fun _ _ _ h => h) (Or.inr ⟨by rfl, rfl⟩) ?_ ?_
             rotate_left
             ·simp only [Act.put, sa, sz, ss, i64_w, i32_w]
              rfl
             refine pure_ (i := 13) (N := some 136) (v := undef) (a' := ?_) #[true, true, true, true, true, true, true, true, true, true, true, true, true, true, false, false, false, false, false, false, false, false, false, false, false, false, false, false, false, false] rfl rfl (any_of HT_.out (by kernel_rfl)) (fun _ _ _ h => h) (Or.inr ⟨by rfl, rfl⟩) ?_ ?_
             rotate_left
             ·simp only [Act.put, sa, sz, ss, i64_w, i32_w]
              rfl
             refine pure_ (i := 14) (N := some 137) (v := undef) (a' := ?_) #[true, true, true, true, true, true, true, true, true, true, true, true, true, true, true, false, false, false, false, false, false, false, false, false, false, false, false, false, false, false] rfl rfl (any_of HT_.out (by kernel_rfl)) (fun _ _ _ h => h) (Or.inr ⟨by rfl, rfl⟩) ?_ ?_
             rotate_left
             ·simp only [Act.put, sa, sz, ss, i64_w, i32_w]
              rfl
             refine pure_ (i := 15) (N := some 138) (v := ?_) (a' := ?_) #[true, true, true, true, true, true, true, true, true, true, true, true, true, true, true, true, false, false, false, false, false, false, false, false, false, false, false, false, false, false] rfl rfl (any_of HT_.out (by kernel_rfl)) (fun _ _ _ h => h) (Or.inl ⟨by rfl, ?_⟩) ?_ ?_
             rotate_left
             ·intro w'
              go_simp
              with_reducible rfl
             rotate_left
             ·simp only [Act.put, sa, sz, ss, i64_w, i32_w]
              rfl
             refine pure_ (i := 16) (N := some 139) (v := ?_) (a' := ?_) #[true, true, true, true, true, true, true, true, true, true, true, true, true, true, true, true, true, false, false, false, false, false, false, false, false, false, false, false, false, false] rfl rfl (any_of HT_.out (by kernel_rfl)) (fun _ _ _ h => h) (Or.inl ⟨by rfl, ?_⟩) ?_ ?_
             rotate_left
             ·intro w'
              go_simp
              with_reducible rfl
             rotate_left
             ·simp only [Act.put, sa, sz, ss, i64_w, i32_w]
              rfl
             refine pure_ (i := 17) (N := some 140) (v := undef) (a' := ?_) #[true, true, true, true, true, true, true, true, true, true, true, true, true, true, true, true, true, true, false, false, false, false, false, false, false, false, false, false, false, false] rfl rfl (any_of HT_.out (by kernel_rfl)) (fun _ _ _ h => h) (Or.inr ⟨by rfl, rfl⟩) ?_ ?_
             rotate_left
             ·simp only [Act.put, sa, sz, ss, i64_w, i32_w]
              rfl
             refine pure_ (i := 18) (N := some 141) (v := undef) (a' := ?_) #[true, true, true, true, true, true, true, true, true, true, true, true, true, true, true, true, true, true, true, false, false, false, false, false, false, false, false, false, false, false] rfl rfl (any_of HT_.out (by kernel_rfl)) (fun _ _ _ h => h) (Or.inr ⟨by rfl, rfl⟩) ?_ ?_
             rotate_left
             ·simp only [Act.put, sa, sz, ss, i64_w, i32_w]
              rfl
             refine pure_ (i := 19) (N := some 142) (v := undef) (a' := ?_) #[true, true, true, true, true, true, true, true, true, true, true, true, true, true, true, true, true, true, true, true, false, false, false, false, false, false, false, false, false, false] rfl rfl (any_of HT_.out (by kernel_rfl)) (fun _ _ _ h => h) (Or.inr ⟨by rfl, rfl⟩) ?_ ?_
             rotate_left
             ·simp only [Act.put, sa, sz, ss, i64_w, i32_w]
              rfl
             refine pure_ (i := 20) (N := some 143) (v := undef) (a' := ?_) #[true, true, true, true, true, true, true, true, true, true, true, true, true, true, true, true, true, true, true, true, true, false, false, false, false, false, false, false, false, false] rfl rfl (any_of HT_.out (by kernel_rfl)) (fun _ _ _ h => h) (Or.inr ⟨by rfl, rfl⟩) ?_ ?_
             rotate_left
             ·simp only [Act.put, sa, sz, ss, i64_w, i32_w]
              rfl
             refine pure_ (i := 21) (N := some 144) (v := undef) (a' := ?_) #[true, true, true, true, true, true, true, true, true, true, true, true, true, true, true, true, true, true, true, true, true, true, false, false, false, false, false, false, false, false] rfl rfl (any_of HT_.out (by kernel_rfl)) (fun _ _ _ h => h) (Or.inr ⟨by rfl, rfl⟩) ?_ ?_
             rotate_left
             ·simp only [Act.put, sa, sz, ss, i64_w, i32_w]
              rfl
             refine pure_ (i := 22) (N := some 145) (v := undef) (a' := ?_) #[true, true, true, true, true, true, true, true, true, true, true, true, true, true, true, true, true, true, true, true, true, true, true, false, false, false, false, false, false, false] rfl rfl (any_of HT_.out (by kernel_rfl)) (fun _ _ _ h => h) (Or.inr ⟨by rfl, rfl⟩) ?_ ?_
             rotate_left
             ·simp only [Act.put, sa, sz, ss, i64_w, i32_w]
              rfl
             refine pure_ (i := 23) (N := some 146) (v := undef) (a' := ?_) #[true, true, true, true, true, true, true, true, true, true, true, true, true, true, true, true, true, true, true, true, true, true, true, true, false, false, false, false, false, false] rfl rfl (any_of HT_.out (by kernel_rfl)) (fun _ _ _ h => h) (Or.inr ⟨by rfl, rfl⟩) ?_ ?_
             rotate_left
             ·simp only [Act.put, sa, sz, ss, i64_w, i32_w]
              rfl
             refine pure_ (i := 24) (N := some 147) (v := undef) (a' := ?_) #[true, true, true, true, true, true, true, true, true, true, true, true, true, true, true, true, true, true, true, true, true, true, true, true, true, false, false, false, false, false] rfl rfl (any_of HT_.out (by kernel_rfl)) (fun _ _ _ h => h) (Or.inr ⟨by rfl, rfl⟩) ?_ ?_
             rotate_left
             ·simp only [Act.put, sa, sz, ss, i64_w, i32_w]
              rfl
             refine pure_ (i := 25) (N := some 148) (v := undef) (a' := ?_) #[true, true, true, true, true, true, true, true, true, true, true, true, true, true, true, true, true, true, true, true, true, true, true, true, true, true, false, false, false, false] rfl rfl (any_of HT_.out (by kernel_rfl)) (fun _ _ _ h => h) (Or.inr ⟨by rfl, rfl⟩) ?_ ?_
             rotate_left
             ·simp only [Act.put, sa, sz, ss, i64_w, i32_w]
              rfl
             refine pure_ (i := 26) (N := some 149) (v := undef) (a' := ?_) #[true, true, true, true, true, true, true, true, true, true, true, true, true, true, true, true, true, true, true, true, true, true, true, true, true, true, true, false, false, false] rfl rfl (any_of HT_.out (by kernel_rfl)) (fun _ _ _ h => h) (Or.inr ⟨by rfl, rfl⟩) ?_ ?_
             rotate_left
             ·simp only [Act.put, sa, sz, ss, i64_w, i32_w]
              rfl
             refine pure_ (i := 27) (N := some 150) (v := undef) (a' := ?_) #[true, true, true, true, true, true, true, true, true, true, true, true, true, true, true, true, true, true, true, true, true, true, true, true, true, true, true, true, false, false] rfl rfl (any_of HT_.out (by kernel_rfl)) (fun _ _ _ h => h) (Or.inr ⟨by rfl, rfl⟩) ?_ ?_
             rotate_left
             ·simp only [Act.put, sa, sz, ss, i64_w, i32_w]
              rfl
             refine pure_ (i := 28) (N := some 151) (v := undef) (a' := ?_) #[true, true, true, true, true, true, true, true, true, true, true, true, true, true, true, true, true, true, true, true, true, true, true, true, true, true, true, true, true, false] rfl rfl (any_of HT_.out (by kernel_rfl)) (fun _ _ _ h => h) (Or.inr ⟨by rfl, rfl⟩) ?_ ?_
             rotate_left
             ·simp only [Act.put, sa, sz, ss, i64_w, i32_w]
              rfl
             refine pure_ (i := 29) (N := some 152) (v := ?_) (a' := ?_) #[true, true, true, true, true, true, true, true, true, true, true, true, true, true, true, true, true, true, true, true, true, true, true, true, true, true, true, true, true, true] rfl rfl (any_of HT_.out (by kernel_rfl)) (fun _ _ _ h => h) (Or.inl ⟨by rfl, ?_⟩) ?_ ?_
             rotate_left
             ·intro w'
              go_simp
              with_reducible rfl
             rotate_left
             ·simp only [Act.put, sa, sz, ss, i64_w, i32_w]
              rfl
             refine done_ (done_of HT_.out (by kernel_rfl)) ?_
             try go_wp2
             go_meet
             case rel => exact ⟨_, (true), (by first | rfl | (simp; done) | (simp [*]; done) | (simp [i64_w]; done) | (simp [*, i64_w]; done)), H', ⟨by have := HJ5.out; have := HJ23.out; have := HJ105.out; first | omega | exact Nat.le_refl _⟩, ⟨by exact HO_911000.out⟩, ⟨by exact HO_920000.out⟩, ⟨by exact HO946.out⟩, ⟨by exact HO951.out⟩, ⟨by exact HO956.out⟩, ⟨by exact BK910.out⟩, ⟨by exact BK919.out⟩, ⟨by exact BK948.out⟩, ⟨by exact BK953.out⟩, ⟨by exact BK958.out⟩, ⟨by repeat (first | exact HB.out | refine sb ?_ GE910 | refine sb ?_ GE919 | refine sb ?_ GE948 | refine sb ?_ GE953 | refine sb ?_ GE958)⟩⟩
          ·rw [if_neg c140] at H
           have c140b0 : (t947 == 0) = false := beq_eq_false_iff_ne.mpr c140
           have c140b1 : (t947 != 0) = true := bne_iff_ne.mpr c140
           (first | rw [c140b0] | (simp only [i64_w, i32_w]; rw [c140b0]) | skip)
           as_aux_lemma =>
            have H' := Aside0.mk H
            clear H
            try go_wp2
            have n0_ : Aside0 (Kd.V (Kd.int .u32) 79 (w133.setCell ⟨gb958, 0, none⟩ (.slice Ao134 t954.length co134)) w.heap.size (fun k_ => k_ ≠ gb910 ∧ k_ ≠ gb919 ∧ k_ ≠ gb948 ∧ k_ ≠ gb953 ∧ k_ ≠ gb958) (.slice Ao9 t905.length co9) t905) := ⟨by exact Kd.V_mono (Kd.V_far (p := ⟨gb958, 0, none⟩) (Kd.V_mono HO_911000.out (fun k_ hk => (⟨hk, hk.2⟩ : _ ∧ k_ ≠ gb958))) (fun _ hk => hk.2) (.slice Ao134 t954.length co134)) (fun _ hk => ⟨hk.1.1.1.1.1, ⟨hk.1.1.1.1.2, ⟨hk.1.1.1.2, ⟨hk.1.1.2, hk.1.2⟩⟩⟩⟩)⟩
            have n1_ : Aside0 (Kd.V (Kd.int .u32) 79 (w133.setCell ⟨gb958, 0, none⟩ (.slice Ao134 t954.length co134)) w.heap.size (fun k_ => k_ ≠ gb910 ∧ k_ ≠ gb919 ∧ k_ ≠ gb948 ∧ k_ ≠ gb953 ∧ k_ ≠ gb958) (.slice Ao13 t914.length co13) t914) := ⟨by exact Kd.V_mono (Kd.V_far (p := ⟨gb958, 0, none⟩) (Kd.V_mono HO_920000.out (fun k_ hk => (⟨hk, hk.2⟩ : _ ∧ k_ ≠ gb958))) (fun _ hk => hk.2) (.slice Ao134 t954.length co134)) (fun _ hk => ⟨hk.1.1.1.1.1, ⟨hk.1.1.1.1.2, ⟨hk.1.1.1.2, ⟨hk.1.1.2, hk.1.2⟩⟩⟩⟩)⟩
            have n2_ : Aside0 (Kd.V (Kd.int .u32) 79 (w133.setCell ⟨gb958, 0, none⟩ (.slice Ao134 t954.length co134)) w.heap.size (fun k_ => k_ ≠ gb910 ∧ k_ ≠ gb919 ∧ k_ ≠ gb948 ∧ k_ ≠ gb953 ∧ k_ ≠ gb958) (.slice Ao121 t944.length co121) t944) := ⟨by exact Kd.V_mono (Kd.V_far (p := ⟨gb958, 0, none⟩) (Kd.V_mono HO946.out (fun k_ hk => (⟨hk, hk.2⟩ : _ ∧ k_ ≠ gb958))) (fun _ hk => hk.2) (.slice Ao134 t954.length co134)) (fun _ hk => ⟨hk.1.1.1.1.1, ⟨hk.1.1.1.1.2, ⟨hk.1.1.1.2, ⟨hk.1.1.2, hk.1.2⟩⟩⟩⟩)⟩
            have n3_ : Aside0 (Kd.V (Kd.int .u32) 79 (w133.setCell ⟨gb958, 0, none⟩ (.slice Ao134 t954.length co134)) w.heap.size (fun k_ => k_ ≠ gb910 ∧ k_ ≠ gb919 ∧ k_ ≠ gb948 ∧ k_ ≠ gb953 ∧ k_ ≠ gb958) (.slice Ao127 t949.length co127) t949) := ⟨by exact Kd.V_mono (Kd.V_far (p := ⟨gb958, 0, none⟩) (Kd.V_mono HO951.out (fun k_ hk => (⟨hk, hk.2⟩ : _ ∧ k_ ≠ gb958))) (fun _ hk => hk.2) (.slice Ao134 t954.length co134)) (fun _ hk => ⟨hk.1.1.1.1, ⟨hk.1.1.1.2.1, ⟨hk.1.1.1.2.2, ⟨hk.1.1.2, hk.1.2⟩⟩⟩⟩)⟩
            have n4_ : Aside0 (Kd.V (Kd.int .u32) 79 (w133.setCell ⟨gb958, 0, none⟩ (.slice Ao134 t954.length co134)) w.heap.size (fun k_ => k_ ≠ gb910 ∧ k_ ≠ gb919 ∧ k_ ≠ gb948 ∧ k_ ≠ gb953 ∧ k_ ≠ gb958) (.slice Ao134 t954.length co134) t954) := ⟨by exact Kd.V_mono (Kd.V_far (p := ⟨gb958, 0, none⟩) (Kd.V_mono HO956.out (fun k_ hk => (⟨hk, hk.2⟩ : _ ∧ k_ ≠ gb958))) (fun _ hk => hk.2) (.slice Ao134 t954.length co134)) (fun _ hk => ⟨hk.1.1.1, ⟨hk.1.1.2.1, ⟨hk.1.1.2.2.1, ⟨hk.1.1.2.2.2, hk.1.2⟩⟩⟩⟩)⟩
            have n5_ : Aside0 ((w133.setCell ⟨gb958, 0, none⟩ (.slice Ao134 t954.length co134)).heap[gb910]? = some (.cells #[.slice Ao9 t905.length co9] 26 (0, 0))) := ⟨by refine blk_far ?_ NB910_958.out _; exact BK910.out⟩
            have n6_ : Aside0 ((w133.setCell ⟨gb958, 0, none⟩ (.slice Ao134 t954.length co134)).heap[gb919]? = some (.cells #[.slice Ao13 t914.length co13] 26 (0, 0))) := ⟨by refine blk_far ?_ NB919_958.out _; exact BK919.out⟩
            have n7_ : Aside0 ((w133.setCell ⟨gb958, 0, none⟩ (.slice Ao134 t954.length co134)).heap[gb948]? = some (.cells #[.slice Ao121 t944.length co121] 26 (0, 0))) := ⟨by refine blk_far ?_ NB948_958.out _; exact BK948.out⟩
            have n8_ : Aside0 ((w133.setCell ⟨gb958, 0, none⟩ (.slice Ao134 t954.length co134)).heap[gb953]? = some (.cells #[.slice Ao127 t949.length co127] 26 (0, 0))) := ⟨by refine blk_far ?_ NB953_958.out _; exact BK953.out⟩
            have n9_ : Aside0 ((w133.setCell ⟨gb958, 0, none⟩ (.slice Ao134 t954.length co134)).heap[gb958]? = some (.cells #[.slice Ao134 t954.length co134] 26 (0, 0))) := ⟨by refine blk_put (cs := #[.slice none 0 0]) ?_ 0 _ rfl; exact BK958.out⟩
            have n10_ : Aside0 (Below w.heap.size w (w133.setCell ⟨gb958, 0, none⟩ (.slice Ao134 t954.length co134))) := ⟨by repeat (first | exact HB.out | refine sb ?_ GE910 | refine sb ?_ GE919 | refine sb ?_ GE948 | refine sb ?_ GE953 | refine sb ?_ GE958)⟩
            (try clear HO_911000)
            (try clear HO_920000)
            (try clear HO946)
            (try clear HO951)
            (try clear HO956)
            (try clear BK910)
            (try clear BK919)
            (try clear BK948)
            (try clear BK953)
            (try clear BK958)
            (try clear HB)
            generalize (w133.setCell ⟨gb958, 0, none⟩ (.slice Ao134 t954.length co134)) = w166 at n0_ n1_ n2_ n3_ n4_ n5_ n6_ n7_ n8_ n9_ n10_ ⊢
            have HO_911000 := n0_
            have HO_920000 := n1_
            have HO946 := n2_
            have HO951 := n3_
            have HO956 := n4_
            have BK910 := n5_
            have BK919 := n6_
            have BK948 := n7_
            have BK953 := n8_
            have BK958 := n9_
            have HB := n10_
            clear n0_ n1_ n2_ n3_ n4_ n5_ n6_ n7_ n8_ n9_ n10_
            replace HO_911000 := Aside0.mk (Kd.V_drew HO_911000.out)
            replace HO_920000 := Aside0.mk (Kd.V_drew HO_920000.out)
            replace HO946 := Aside0.mk (Kd.V_drew HO946.out)
            replace HO951 := Aside0.mk (Kd.V_drew HO951.out)
            replace HO956 := Aside0.mk (Kd.V_drew HO956.out)
            replace BK910 := Aside0.mk (blk_drew BK910.out)
            replace BK919 := Aside0.mk (blk_drew BK919.out)
            replace BK948 := Aside0.mk (blk_drew BK948.out)
            replace BK953 := Aside0.mk (blk_drew BK953.out)
            replace BK958 := Aside0.mk (blk_drew BK958.out)
            replace HB := Aside0.mk (below_drew1 HB.out)
            refine start_ (n := 30) (S := fun w' => True) (ds := []) #[false, false, false, false, false, false, false, false, false, false, false, false, false, false, false, false, false, false, false, false, false, false, false, false, false, false, false, false, false, false] (by kernel_rfl) rfl rfl trivial (fun hHeld => ?_); refine with_tabW heraldlaw04_NatDivides.tab16 heraldlaw04_NatDivides.bits16 (fun HT_ HW_ => ?_)
            generalize w166.drew = w167 at HO_911000 HO_920000 HO946 HO951 HO956 BK910 BK919 BK948 BK953 BK958 HB hHeld ⊢
            refine pure_ (i := 0) (N := some 123) (v := ?_) (a' := ?_) #[true, false, false, false, false, false, false, false, false, false, false, false, false, false, false, false, false, false, false, false, false, false, false, false, false, false, false, false, false, false] rfl rfl (any_of HT_.out (by kernel_rfl)) (fun _ _ _ h => h) (Or.inl ⟨by rfl, ?_⟩) ?_ ?_
            rotate_left
            ·intro w'
             go_simp
             with_reducible rfl
            rotate_left
            ·simp only [Act.put, sa, sz, ss, i64_w, i32_w]
             rfl
            refine pure_ (i := 1) (N := some 124) (v := ?_) (a' := ?_) #[true, true, false, false, false, false, false, false, false, false, false, false, false, false, false, false, false, false, false, false, false, false, false, false, false, false, false, false, false, false] rfl rfl (any_of HT_.out (by kernel_rfl)) (fun _ _ _ h => h) (Or.inl ⟨by rfl, ?_⟩) ?_ ?_
            rotate_left
            ·intro w'
             go_simp
             with_reducible rfl
            rotate_left
            ·simp only [Act.put, sa, sz, ss, i64_w, i32_w]
             rfl
            refine pure_ (i := 2) (N := some 125) (v := ?_) (a' := ?_) #[true, true, true, false, false, false, false, false, false, false, false, false, false, false, false, false, false, false, false, false, false, false, false, false, false, false, false, false, false, false] rfl rfl (any_of HT_.out (by kernel_rfl)) (fun _ _ _ h => h) (Or.inl ⟨by rfl, ?_⟩) ?_ ?_
            rotate_left
            ·intro w'
             go_simp
             with_reducible rfl
            rotate_left
            ·simp only [Act.put, sa, sz, ss, i64_w, i32_w]
             rfl
            refine pure_ (i := 3) (N := some 126) (v := undef) (a' := ?_) #[true, true, true, true, false, false, false, false, false, false, false, false, false, false, false, false, false, false, false, false, false, false, false, false, false, false, false, false, false, false] rfl rfl (any_of HT_.out (by kernel_rfl)) (fun _ _ _ h => h) (Or.inr ⟨by rfl, rfl⟩) ?_ ?_
            rotate_left
            ·simp only [Act.put, sa, sz, ss, i64_w, i32_w]
             rfl
            refine pure_ (i := 4) (N := some 127) (v := undef) (a' := ?_) #[true, true, true, true, true, false, false, false, false, false, false, false, false, false, false, false, false, false, false, false, false, false, false, false, false, false, false, false, false, false] rfl rfl (any_of HT_.out (by kernel_rfl)) (fun _ _ _ h => h) (Or.inr ⟨by rfl, rfl⟩) ?_ ?_
            rotate_left
            ·simp only [Act.put, sa, sz, ss, i64_w, i32_w]
             rfl
            refine pure_ (i := 5) (N := some 128) (v := ?_) (a' := ?_) #[true, true, true, true, true, true, false, false, false, false, false, false, false, false, false, false, false, false, false, false, false, false, false, false, false, false, false, false, false, false] rfl rfl (any_of HT_.out (by kernel_rfl)) (fun _ _ _ h => h) (Or.inl ⟨by rfl, ?_⟩) ?_ ?_
            rotate_left
            ·intro w'
             go_simp
             with_reducible rfl
            rotate_left
            ·simp only [Act.put, sa, sz, ss, i64_w, i32_w]
             rfl
            refine pure_ (i := 6) (N := some 129) (v := ?_) (a' := ?_) #[true, true, true, true, true, true, true, false, false, false, false, false, false, false, false, false, false, false, false, false, false, false, false, false, false, false, false, false, false, false] rfl rfl (any_of HT_.out (by kernel_rfl)) (fun _ _ _ h => h) (Or.inl ⟨by rfl, ?_⟩) ?_ ?_
            rotate_left
            ·intro w'
             go_simp
             with_reducible rfl
            rotate_left
            ·simp only [Act.put, sa, sz, ss, i64_w, i32_w]
             rfl
            refine pure_ (i := 7) (N := some 130) (v := undef) (a' := ?_) #[true, true, true, true, true, true, true, true, false, false, false, false, false, false, false, false, false, false, false, false, false, false, false, false, false, false, false, false, false, false] rfl rfl (any_of HT_.out (by kernel_rfl)) (fun _ _ _ h => h) (Or.inr ⟨by rfl, rfl⟩) ?_ ?_
            rotate_left
            ·simp only [Act.put, sa, sz, ss, i64_w, i32_w]
             rfl
            refine pure_ (i := 8) (N := some 131) (v := undef) (a' := ?_) #[true, true, true, true, true, true, true, true, true, false, false, false, false, false, false, false, false, false, false, false, false, false, false, false, false, false, false, false, false, false] rfl rfl (any_of HT_.out (by kernel_rfl)) (fun _ _ _ h => h) (Or.inr ⟨by rfl, rfl⟩) ?_ ?_
            rotate_left
            ·simp only [Act.put, sa, sz, ss, i64_w, i32_w]
             rfl
            refine pure_ (i := 9) (N := some 132) (v := ?_) (a' := ?_) #[true, true, true, true, true, true, true, true, true, true, false, false, false, false, false, false, false, false, false, false, false, false, false, false, false, false, false, false, false, false] rfl rfl (any_of HT_.out (by kernel_rfl)) (fun _ _ _ h => h) (Or.inl ⟨by rfl, ?_⟩) ?_ ?_
            rotate_left
            ·intro w'
             go_simp
             with_reducible rfl
            rotate_left
            ·simp only [Act.put, sa, sz, ss, i64_w, i32_w]
             rfl
            refine pure_ (i := 10) (N := some 133) (v := ?_) (a' := ?_) #[true, true, true, true, true, true, true, true, true, true, true, false, false, false, false, false, false, false, false, false, false, false, false, false, false, false, false, false, false, false] rfl rfl (any_of HT_.out (by kernel_rfl)) (fun _ _ _ h => h) (Or.inl ⟨by rfl, ?_⟩) ?_ ?_
            rotate_left
            ·intro w'
             go_simp
             with_reducible rfl
            rotate_left
            ·simp only [Act.put, sa, sz, ss, i64_w, i32_w]
             rfl
            refine pure_ (i := 11) (N := some 134) (v := undef) (a' := ?_) #[true, true, true, true, true, true, true, true, true, true, true, true, false, false, false, false, false, false, false, false, false, false, false, false, false, false, false, false, false, false] rfl rfl (any_of HT_.out (by kernel_rfl)) (fun _ _ _ h => h) (Or.inr ⟨by rfl, rfl⟩) ?_ ?_
            rotate_left
            ·simp only [Act.put, sa, sz, ss, i64_w, i32_w]
             rfl
            refine pure_ (i := 12) (N := some 135) (v := undef) (a' := ?_) #[true, true, true, true, true, true, true, true, true, true, true, true, true, false, false, false, false, false, false, false, false, false, false, false, false, false, false, false, false, false] rfl rfl (any_of HT_.out (by kernel_rfl)) (fun _ _ _ h => h) (Or.inr ⟨by rfl, rfl⟩) ?_ ?_
            rotate_left
            ·simp only [Act.put, sa, sz, ss, i64_w, i32_w]
             rfl
            refine pure_ (i := 13) (N := some 136) (v := undef) (a' := ?_) #[true, true, true, true, true, true, true, true, true, true, true, true, true, true, false, false, false, false, false, false, false, false, false, false, false, false, false, false, false, false] rfl rfl (any_of HT_.out (by kernel_rfl)) (fun _ _ _ h => h) (Or.inr ⟨by rfl, rfl⟩) ?_ ?_
            rotate_left
            ·simp only [Act.put, sa, sz, ss, i64_w, i32_w]
             rfl
            refine pure_ (i := 14) (N := some 137) (v := undef) (a' := ?_) #[true, true, true, true, true, true, true, true, true, true, true, true, true, true, true, false, false, false, false, false, false, false, false, false, false, false, false, false, false, false] rfl rfl (any_of HT_.out (by kernel_rfl)) (fun _ _ _ h => h) (Or.inr ⟨by rfl, rfl⟩) ?_ ?_
            rotate_left
            ·simp only [Act.put, sa, sz, ss, i64_w, i32_w]
             rfl
            refine pure_ (i := 15) (N := some 138) (v := ?_) (a' := ?_) #[true, true, true, true, true, true, true, true, true, true, true, true, true, true, true, true, false, false, false, false, false, false, false, false, false, false, false, false, false, false] rfl rfl (any_of HT_.out (by kernel_rfl)) (fun _ _ _ h => h) (Or.inl ⟨by rfl, ?_⟩) ?_ ?_
            rotate_left
            ·intro w'
             go_simp
             with_reducible rfl
            rotate_left
            ·simp only [Act.put, sa, sz, ss, i64_w, i32_w]
             rfl
            refine pure_ (i := 16) (N := some 139) (v := ?_) (a' := ?_) #[true, true, true, true, true, true, true, true, true, true, true, true, true, true, true, true, true, false, false, false, false, false, false, false, false, false, false, false, false, false] rfl rfl (any_of HT_.out (by kernel_rfl)) (fun _ _ _ h => h) (Or.inl ⟨by rfl, ?_⟩) ?_ ?_
            rotate_left
            ·intro w'
             go_simp
             with_reducible rfl
            rotate_left
            ·simp only [Act.put, sa, sz, ss, i64_w, i32_w]
             rfl
            refine pure_ (i := 17) (N := some 140) (v := undef) (a' := ?_) #[true, true, true, true, true, true, true, true, true, true, true, true, true, true, true, true, true, true, false, false, false, false, false, false, false, false, false, false, false, false] rfl rfl (any_of HT_.out (by kernel_rfl)) (fun _ _ _ h => h) (Or.inr ⟨by rfl, rfl⟩) ?_ ?_
            rotate_left
            ·simp only [Act.put, sa, sz, ss, i64_w, i32_w]
             rfl
            refine pure_ (i := 18) (N := some 141) (v := undef) (a' := ?_) #[true, true, true, true, true, true, true, true, true, true, true, true, true, true, true, true, true, true, true, false, false, false, false, false, false, false, false, false, false, false] rfl rfl (any_of HT_.out (by kernel_rfl)) (fun _ _ _ h => h) (Or.inr ⟨by rfl, rfl⟩) ?_ ?_
            rotate_left
            ·simp only [Act.put, sa, sz, ss, i64_w, i32_w]
             rfl
            refine pure_ (i := 19) (N := some 142) (v := undef) (a' := ?_) #[true, true, true, true, true, true, true, true, true, true, true, true, true, true, true, true, true, true, true, true, false, false, false, false, false, false, false, false, false, false] rfl rfl (any_of HT_.out (by kernel_rfl)) (fun _ _ _ h => h) (Or.inr ⟨by rfl, rfl⟩) ?_ ?_
            rotate_left
            ·simp only [Act.put, sa, sz, ss, i64_w, i32_w]
             rfl
            refine pure_ (i := 20) (N := some 143) (v := undef) (a' := ?_) #[true, true, true, true, true, true, true, true, true, true, true, true, true, true, true, true, true, true, true, true, true, false, false, false, false, false, false, false, false, false] rfl rfl (any_of HT_.out (by kernel_rfl)) (fun _ _ _ h => h) (Or.inr ⟨by rfl, rfl⟩) ?_ ?_
            rotate_left
            ·simp only [Act.put, sa, sz, ss, i64_w, i32_w]
             rfl
            refine pure_ (i := 21) (N := some 144) (v := undef) (a' := ?_) #[true, true, true, true, true, true, true, true, true, true, true, true, true, true, true, true, true, true, true, true, true, true, false, false, false, false, false, false, false, false] rfl rfl (any_of HT_.out (by kernel_rfl)) (fun _ _ _ h => h) (Or.inr ⟨by rfl, rfl⟩) ?_ ?_
            rotate_left
            ·simp only [Act.put, sa, sz, ss, i64_w, i32_w]
             rfl
            refine pure_ (i := 22) (N := some 145) (v := undef) (a' := ?_) #[true, true, true, true, true, true, true, true, true, true, true, true, true, true, true, true, true, true, true, true, true, true, true, false, false, false, false, false, false, false] rfl rfl (any_of HT_.out (by kernel_rfl)) (fun _ _ _ h => h) (Or.inr ⟨by rfl, rfl⟩) ?_ ?_
            rotate_left
            ·simp only [Act.put, sa, sz, ss, i64_w, i32_w]
             rfl
            refine pure_ (i := 23) (N := some 146) (v := undef) (a' := ?_) #[true, true, true, true, true, true, true, true, true, true, true, true, true, true, true, true, true, true, true, true, true, true, true, true, false, false, false, false, false, false] rfl rfl (any_of HT_.out (by kernel_rfl)) (fun _ _ _ h => h) (Or.inr ⟨by rfl, rfl⟩) ?_ ?_
            rotate_left
            ·simp only [Act.put, sa, sz, ss, i64_w, i32_w]
             rfl
            refine pure_ (i := 24) (N := some 147) (v := undef) (a' := ?_) #[true, true, true, true, true, true, true, true, true, true, true, true, true, true, true, true, true, true, true, true, true, true, true, true, true, false, false, false, false, false] rfl rfl (any_of HT_.out (by kernel_rfl)) (fun _ _ _ h => h) (Or.inr ⟨by rfl, rfl⟩) ?_ ?_
            rotate_left
            ·simp only [Act.put, sa, sz, ss, i64_w, i32_w]
             rfl
            refine pure_ (i := 25) (N := some 148) (v := undef) (a' := ?_) #[true, true, true, true, true, true, true, true, true, true, true, true, true, true, true, true, true, true, true, true, true, true, true, true, true, true, false, false, false, false] rfl rfl (any_of HT_.out (by kernel_rfl)) (fun _ _ _ h => h) (Or.inr ⟨by rfl, rfl⟩) ?_ ?_
            rotate_left
            ·simp only [Act.put, sa, sz, ss, i64_w, i32_w]
             rfl
            refine pure_ (i := 26) (N := some 149) (v := undef) (a' := ?_) #[true, true, true, true, true, true, true, true, true, true, true, true, true, true, true, true, true, true, true, true, true, true, true, true, true, true, true, false, false, false] rfl rfl (any_of HT_.out (by kernel_rfl)) (fun _ _ _ h => h) (Or.inr ⟨by rfl, rfl⟩) ?_ ?_
            rotate_left
            ·simp only [Act.put, sa, sz, ss, i64_w, i32_w]
             rfl
            refine pure_ (i := 27) (N := some 150) (v := undef) (a' := ?_) #[true, true, true, true, true, true, true, true, true, true, true, true, true, true, true, true, true, true, true, true, true, true, true, true, true, true, true, true, false, false] rfl rfl (any_of HT_.out (by kernel_rfl)) (fun _ _ _ h => h) (Or.inr ⟨by rfl, rfl⟩) ?_ ?_
            rotate_left
            ·simp only [Act.put, sa, sz, ss, i64_w, i32_w]
             rfl
            refine pure_ (i := 28) (N := some 151) (v := undef) (a' := ?_) #[true, true, true, true, true, true, true, true, true, true, true, true, true, true, true, true, true, true, true, true, true, true, true, true, true, true, true, true, true, false] rfl rfl (any_of HT_.out (by kernel_rfl)) (fun _ _ _ h => h) (Or.inr ⟨by rfl, rfl⟩) ?_ ?_
            rotate_left
            ·simp only [Act.put, sa, sz, ss, i64_w, i32_w]
             rfl
            refine pure_ (i := 29) (N := some 152) (v := ?_) (a' := ?_) #[true, true, true, true, true, true, true, true, true, true, true, true, true, true, true, true, true, true, true, true, true, true, true, true, true, true, true, true, true, true] rfl rfl (any_of HT_.out (by kernel_rfl)) (fun _ _ _ h => h) (Or.inl ⟨by rfl, ?_⟩) ?_ ?_
            rotate_left
            ·intro w'
             go_simp
             with_reducible rfl
            rotate_left
            ·simp only [Act.put, sa, sz, ss, i64_w, i32_w]
             rfl
            refine done_ (done_of HT_.out (by kernel_rfl)) ?_
            try go_wp2
            go_meet
            case rel => exact ⟨_, (true), (by first | rfl | (simp; done) | (simp [*]; done) | (simp [i64_w]; done) | (simp [*, i64_w]; done)), H', ⟨by have := HJ5.out; have := HJ23.out; have := HJ105.out; first | omega | exact Nat.le_refl _⟩, ⟨by exact HO_911000.out⟩, ⟨by exact HO_920000.out⟩, ⟨by exact HO946.out⟩, ⟨by exact HO951.out⟩, ⟨by exact HO956.out⟩, ⟨by exact BK910.out⟩, ⟨by exact BK919.out⟩, ⟨by exact BK948.out⟩, ⟨by exact BK953.out⟩, ⟨by exact BK958.out⟩, ⟨by repeat (first | exact HB.out | refine sb ?_ GE910 | refine sb ?_ GE919 | refine sb ?_ GE948 | refine sb ?_ GE953 | refine sb ?_ GE958)⟩⟩
         case rest =>
          clear HC116
          try clear c1
          try clear p2
          try clear c14
          try clear c140
          try clear c140b0
          try clear c140b1
          try clear c141
          try clear c141b0
          try clear c141b1
          obtain ⟨kq, x152_115, rfl, HA, HJ115, HO_911000, HO_920000, HO_949000, HO_954000, HO_959000, BK910, BK919, BK948, BK953, BK958, HB⟩ := hcut
          cases kq with
          | zero => exact absurd HA.out (by simp [heraldlaw04_NatDivides.j4])
          | succ kj115 =>
           have H := HA.out
           clear HA
           simp only [heraldlaw04_NatDivides.j4] at H
           by_cases c168 : x152_115 = true
           ·subst c168
            have H1 : (some false) = some r := by rw [if_pos rfl] at H; exact H
            clear H
            have H := H1
            clear H1
            as_aux_lemma =>
             obtain rfl := Option.some.inj H
             go_wp2
             go_ret
             exact ⟨by first | rfl | (simp [errW_none, errW_some] <;> rfl) | (simp [*, errW_none, errW_some] <;> rfl), by repeat (first | exact HB.out | refine sb ?_ GE910 | refine sb ?_ GE919 | refine sb ?_ GE948 | refine sb ?_ GE953 | refine sb ?_ GE958)⟩
           ·replace c168 := Bool.eq_false_iff.mpr c168
            subst c168
            have H1 : (if a2 ≥ 65536 then (some true) else ((nat_Nat_Power.f kj115 t954 a2).bind fun bt963 => ((nat_Nat_Mul.f kj115 t905 bt963.1).bind fun bt968 => (if bt963.2 = 0 then (if bt968.2 = 0 then ((nat_Nat_Compare.f kj115 bt968.1 t944).bind fun t973 => (some (t973 == 0))) else (some false)) else (some false))))) = some r := by rw [if_neg (show ¬ (false = true) by decide)] at H; exact H
            clear H
            have H := H1
            clear H1
            by_cases c169 : a2 ≥ 65536
            ·rw [if_pos c169] at H
             have c169b0 : decide (65536 ≤ a2) = true := decide_eq_true c169
             clear c169
             as_aux_lemma =>
              obtain rfl := Option.some.inj H
              go_wp2
              go_ret
              exact ⟨by first | rfl | (simp [errW_none, errW_some] <;> rfl) | (simp [*, errW_none, errW_some] <;> rfl), by repeat (first | exact HB.out | refine sb ?_ GE910 | refine sb ?_ GE919 | refine sb ?_ GE948 | refine sb ?_ GE953 | refine sb ?_ GE958)⟩
            ·rw [if_neg c169] at H
             have c169b0 : decide (65536 ≤ a2) = false := decide_eq_false c169
             clear c169
             replace H := Option.bind_eq_some_iff.mp H
             obtain ⟨⟨t963, t966⟩, A1700, H⟩ := H
             replace H : ((nat_Nat_Mul.f kj115 t905 t963).bind fun bt968 => (if t966 = 0 then (if bt968.2 = 0 then ((nat_Nat_Compare.f kj115 bt968.1 t944).bind fun t973 => (some (t973 == 0))) else (some false)) else (some false))) = some r := H
             have A170 := Aside0.mk A1700
             clear A1700
             replace H := Option.bind_eq_some_iff.mp H
             obtain ⟨⟨t968, t971⟩, A1710, H⟩ := H
             replace H : (if t966 = 0 then (if t971 = 0 then ((nat_Nat_Compare.f kj115 t968 t944).bind fun t973 => (some (t973 == 0))) else (some false)) else (some false)) = some r := H
             have A171 := Aside0.mk A1710
             clear A1710
             by_cases c172 : t966 = 0
             ·rw [if_pos c172] at H
              have c172b0 : (t966 == 0) = true := beq_iff_eq.mpr c172
              have c172b1 : (t966 != 0) = false := bne_eq_false_iff_eq.mpr c172
              clear c172
              by_cases c173 : t971 = 0
              ·rw [if_pos c173] at H
               have c173b0 : (t971 == 0) = true := beq_iff_eq.mpr c173
               have c173b1 : (t971 != 0) = false := bne_eq_false_iff_eq.mpr c173
               clear c173
               replace H := Option.bind_eq_some_iff.mp H
               obtain ⟨t973, A1740, H⟩ := H
               replace H : (some (t973 == 0)) = some r := H
               have A174 := Aside0.mk A1740
               clear A1740
               as_aux_lemma =>
                obtain rfl := Option.some.inj H
                have hnb175 := NB958_910.out
                have hnc175 := NB910_958.out
                have hnb176 := NB958_919.out
                have hnc176 := NB919_958.out
                have hnb177 := NB958_948.out
                have hnc177 := NB948_958.out
                have hnb178 := NB958_953.out
                have hnc178 := NB953_958.out
                have hcz179_0 : wc.cell? ⟨gb958, 0, none⟩ = some (.slice Ao134 t954.length co134) := (blk_cell BK958.out 0).trans rfl
                have hfz179_0 := blk_frozen BK958.out 0
                go_wp2_with (first | ((with_reducible refine gate_callee (f := 38) rfl ?_); refine goesL_ (some 158) rfl rfl Tryd.func38 (by kernel_rfl) rfl #[.agg #[.slice Ao134 t954.length co134], .int .i64 a2] rfl (by (try simp only [List.map_toArray, List.map_cons, List.map_nil]); first | done | rfl | (simp only [List.length_drop, List.length_take]; rfl)) ?_; (with_reducible refine (nat_Nat_Power.calls kj115 (fun k_ => (k_ ≠ gb910 ∧ (k_ ≠ gb919 ∧ (k_ ≠ gb948 ∧ (k_ ≠ gb953 ∧ k_ ≠ gb958))))) _ _ t954 a2 t963 t966 _ ?side1 A170.out).mono ?_); (case side1 => exact HO_959000.out); rintro e w180 ⟨v964, rfl, ho0, hb⟩; refine ⟨_, rfl, ?_⟩; have HO965 := Aside0.mk (Kd.V_lower (Kd.V_mono (ok' := fun k_ => k_ ≠ gb910 ∧ k_ ≠ gb919 ∧ k_ ≠ gb948 ∧ k_ ≠ gb953 ∧ k_ ≠ gb958) ho0 (fun k_ hk_ => ⟨Or.elim hk_ (fun hs_ => hs_.1) (fun hn_ => (Kd.freshB (g := gb910) (o := .cells #[.slice Ao9 t905.length co9] 26 (0, 0)) BK910.out k_ hn_)), Or.elim hk_ (fun hs_ => hs_.2.1) (fun hn_ => (Kd.freshB (g := gb919) (o := .cells #[.slice Ao13 t914.length co13] 26 (0, 0)) BK919.out k_ hn_)), Or.elim hk_ (fun hs_ => hs_.2.2.1) (fun hn_ => (Kd.freshB (g := gb948) (o := .cells #[.slice Ao121 t944.length co121] 26 (0, 0)) BK948.out k_ hn_)), Or.elim hk_ (fun hs_ => hs_.2.2.2.1) (fun hn_ => (Kd.freshB (g := gb953) (o := .cells #[.slice Ao127 t949.length co127] 26 (0, 0)) BK953.out k_ hn_)), Or.elim hk_ (fun hs_ => hs_.2.2.2.2) (fun hn_ => (Kd.freshB (g := gb958) (o := .cells #[.slice Ao134 t954.length co134] 26 (0, 0)) BK958.out k_ hn_))⟩)) (below_size (by repeat (first | exact HB.out | refine sb ?_ GE910 | refine sb ?_ GE919 | refine sb ?_ GE948 | refine sb ?_ GE953 | refine sb ?_ GE958)))); replace HO_911000 := vb HO_911000 hb; replace HO_920000 := vb HO_920000 hb; replace HO_949000 := vb HO_949000 hb; replace HO_954000 := vb HO_954000 hb; replace HO_959000 := vb HO_959000 hb; replace BK910 := bb BK910 hb; replace BK919 := bb BK919 hb; replace BK948 := bb BK948 hb; replace BK953 := bb BK953 hb; replace BK958 := bb BK958 hb; replace HB := Aside0.mk (below_step (by repeat (first | exact HB.out | refine sb ?_ GE910 | refine sb ?_ GE919 | refine sb ?_ GE948 | refine sb ?_ GE953 | refine sb ?_ GE958)) hb); (try clear hb); (try clear hk); (try clear hi); (try clear ho0)) | ((with_reducible refine gate_dst (N := 28) rfl ?_); refine box_event ?hg (N := 28) ?hd (cs := #[.slice none 0 0]) (t := 26) ?hr ?_; (case hd => rfl); (case hg => rfl); (case hr => first | (go_simp; done) | (go_simp; rfl)); intro gb967 hg w181 hbox hb; have BK967 := Aside0.mk (hbox); have GW967 := Aside0.mk ((by rw [hg]; exact (below_size (by repeat (first | exact HB.out | refine sb ?_ GE910 | refine sb ?_ GE919 | refine sb ?_ GE948 | refine sb ?_ GE953 | refine sb ?_ GE958))) : w.heap.size ≤ gb967)); have GE967 := Aside0.mk ((by rw [hg]; exact (below_size (by repeat (first | exact HB.out | refine sb ?_ GE910 | refine sb ?_ GE919 | refine sb ?_ GE948 | refine sb ?_ GE953 | refine sb ?_ GE958))) : w.heap.size ≤ gb967)); have NB910_967 := nl BK910 hg; have NB967_910 := ng BK910 hg; have NB919_967 := nl BK919 hg; have NB967_919 := ng BK919 hg; have NB948_967 := nl BK948 hg; have NB967_948 := ng BK948 hg; have NB953_967 := nl BK953 hg; have NB967_953 := ng BK953 hg; have NB958_967 := nl BK958 hg; have NB967_958 := ng BK958 hg; replace HO_911000 := ve HO_911000 gb967 hg hb; replace HO_920000 := ve HO_920000 gb967 hg hb; replace HO_949000 := ve HO_949000 gb967 hg hb; replace HO_954000 := ve HO_954000 gb967 hg hb; replace HO_959000 := ve HO_959000 gb967 hg hb; replace HO965 := ve HO965 gb967 hg hb; replace BK910 := bb BK910 hb; replace BK919 := bb BK919 hb; replace BK948 := bb BK948 hb; replace BK953 := bb BK953 hb; replace BK958 := bb BK958 hb; replace HB := Aside0.mk (below_step (by repeat (first | exact HB.out | refine sb ?_ GE910 | refine sb ?_ GE919 | refine sb ?_ GE948 | refine sb ?_ GE953 | refine sb ?_ GE958)) hb); clear hb hbox hg; obtain ⟨Ao182, co182, eo182⟩ := Kd.V_slice HO965.out; subst eo182; have hnb183 := NB967_910.out; have hnc183 := NB910_967.out; have hnb184 := NB967_919.out; have hnc184 := NB919_967.out; have hnb185 := NB967_948.out; have hnc185 := NB948_967.out; have hnb186 := NB967_953.out; have hnc186 := NB953_967.out; have hnb187 := NB967_958.out; have hnc187 := NB958_967.out; have hcz188_0 : w181.cell? ⟨gb967, 0, none⟩ = some (.slice none 0 0) := (blk_cell BK967.out 0).trans rfl; have hfz188_0 := blk_frozen BK967.out 0; have hnb189 := NB910_919.out; have hnc189 := NB919_910.out; have hnb190 := NB910_948.out; have hnc190 := NB948_910.out; have hnb191 := NB910_953.out; have hnc191 := NB953_910.out; have hcz192_0 : w181.cell? ⟨gb910, 0, none⟩ = some (.slice Ao9 t905.length co9) := (blk_cell BK910.out 0).trans rfl; have hfz192_0 := blk_frozen BK910.out 0) | ((with_reducible refine gate_callee (f := 44) rfl ?_); refine goesL_ (some 164) rfl rfl Tryd.func44 (by kernel_rfl) rfl #[.agg #[.slice Ao9 t905.length co9], .agg #[.slice Ao182 t963.length co182]] rfl (by (try simp only [List.map_toArray, List.map_cons, List.map_nil]); first | done | rfl | (simp only [List.length_drop, List.length_take]; rfl)) ?_; (with_reducible refine (nat_Nat_Mul.calls kj115 _ _ t905 _ _ t963 t968 t971 _ ?side1 ?side2 ?side3 ?side4 A171.out).mono ?_); (case side1 => refine (Kd.V_reads' (e := 79) (base := w.heap.size) (ok := fun k_ => ((k_ ≠ gb910 ∧ (k_ ≠ gb919 ∧ (k_ ≠ gb948 ∧ (k_ ≠ gb953 ∧ k_ ≠ gb958)))) ∧ k_ ≠ gb967)) (n := t905.length) (c := co9) ?_).2.2; exact (by exact (Kd.V_mono (Kd.V_far (p := ⟨gb967, 0, none⟩) (Kd.V_mono HO_911000.out (fun k_ hk => (⟨hk, hk.2⟩ : _ ∧ k_ ≠ gb967))) (fun _ hk => hk.2) (.slice Ao182 t963.length co182)) (fun _ h_ => h_.1)))); (case side2 => exact (Kd.V_reads' HO_911000.out).2.1); (case side3 => refine (Kd.V_reads' (e := 79) (base := w.heap.size) (ok := fun k_ => ((k_ ≠ gb910 ∧ (k_ ≠ gb919 ∧ (k_ ≠ gb948 ∧ (k_ ≠ gb953 ∧ k_ ≠ gb958)))) ∧ k_ ≠ gb967)) (n := t963.length) (c := co182) ?_).2.2; exact (by exact (Kd.V_mono (Kd.V_far (p := ⟨gb967, 0, none⟩) (Kd.V_mono HO965.out (fun k_ hk => (⟨hk, hk.2⟩ : _ ∧ k_ ≠ gb967))) (fun _ hk => hk.2) (.slice Ao182 t963.length co182)) (fun _ h_ => h_.1)))); (case side4 => exact (Kd.V_reads' HO965.out).2.1); rintro e w193 ⟨v969, rfl, ho0, hb⟩; refine ⟨_, rfl, ?_⟩; have HO970 := Aside0.mk (Kd.V_lower (Kd.V_mono (ok' := fun k_ => k_ ≠ gb910 ∧ k_ ≠ gb919 ∧ k_ ≠ gb948 ∧ k_ ≠ gb953 ∧ k_ ≠ gb958 ∧ k_ ≠ gb967) ho0 (fun k_ hk_ => ⟨(Kd.freshB (g := gb910) (o := .cells #[.slice Ao9 t905.length co9] 26 (0, 0)) (by refine blk_far ?_ NB910_967.out _; exact BK910.out) k_ hk_), (Kd.freshB (g := gb919) (o := .cells #[.slice Ao13 t914.length co13] 26 (0, 0)) (by refine blk_far ?_ NB919_967.out _; exact BK919.out) k_ hk_), (Kd.freshB (g := gb948) (o := .cells #[.slice Ao121 t944.length co121] 26 (0, 0)) (by refine blk_far ?_ NB948_967.out _; exact BK948.out) k_ hk_), (Kd.freshB (g := gb953) (o := .cells #[.slice Ao127 t949.length co127] 26 (0, 0)) (by refine blk_far ?_ NB953_967.out _; exact BK953.out) k_ hk_), (Kd.freshB (g := gb958) (o := .cells #[.slice Ao134 t954.length co134] 26 (0, 0)) (by refine blk_far ?_ NB958_967.out _; exact BK958.out) k_ hk_), (Kd.freshB (g := gb967) (o := .cells #[.slice Ao182 t963.length co182] 26 (0, 0)) (by refine blk_put (cs := #[.slice none 0 0]) ?_ 0 _ rfl; exact BK967.out) k_ hk_)⟩)) (below_size (by repeat (first | exact HB.out | refine sb ?_ GE910 | refine sb ?_ GE919 | refine sb ?_ GE948 | refine sb ?_ GE953 | refine sb ?_ GE958 | refine sb ?_ GE967)))); replace HO_911000 := vf HO_911000 (fun k_ hk => hk.2) hb; replace HO_920000 := vf HO_920000 (fun k_ hk => hk.2) hb; replace HO_949000 := vf HO_949000 (fun k_ hk => hk.2) hb; replace HO_954000 := vf HO_954000 (fun k_ hk => hk.2) hb; replace HO_959000 := vf HO_959000 (fun k_ hk => hk.2) hb; replace HO965 := vf HO965 (fun k_ hk => hk.2) hb; replace BK910 := bf BK910 NB910_967 hb; replace BK919 := bf BK919 NB919_967 hb; replace BK948 := bf BK948 NB948_967 hb; replace BK953 := bf BK953 NB953_967 hb; replace BK958 := bf BK958 NB958_967 hb; replace BK967 := Aside0.mk (blk_below (g := gb967) (o := .cells #[.slice Ao182 t963.length co182] 26 (0, 0)) (by refine blk_put (cs := #[.slice none 0 0]) ?_ 0 _ rfl; exact BK967.out) hb); replace HB := Aside0.mk (below_step (by repeat (first | exact HB.out | refine sb ?_ GE910 | refine sb ?_ GE919 | refine sb ?_ GE948 | refine sb ?_ GE953 | refine sb ?_ GE958 | refine sb ?_ GE967)) hb); (try clear hb); (try clear hk); (try clear hi); (try clear ho0)) | ((with_reducible refine gate_dst (N := 29) rfl ?_); refine box_event ?hg (N := 29) ?hd (cs := #[.slice none 0 0]) (t := 26) ?hr ?_; (case hd => rfl); (case hg => rfl); (case hr => first | (go_simp; done) | (go_simp; rfl)); intro gb972 hg w194 hbox hb; have BK972 := Aside0.mk (hbox); have GW972 := Aside0.mk ((by rw [hg]; exact (below_size (by repeat (first | exact HB.out | refine sb ?_ GE910 | refine sb ?_ GE919 | refine sb ?_ GE948 | refine sb ?_ GE953 | refine sb ?_ GE958 | refine sb ?_ GE967))) : w.heap.size ≤ gb972)); have GE972 := Aside0.mk ((by rw [hg]; exact (below_size (by repeat (first | exact HB.out | refine sb ?_ GE910 | refine sb ?_ GE919 | refine sb ?_ GE948 | refine sb ?_ GE953 | refine sb ?_ GE958 | refine sb ?_ GE967))) : w.heap.size ≤ gb972)); have NB910_972 := nl BK910 hg; have NB972_910 := ng BK910 hg; have NB919_972 := nl BK919 hg; have NB972_919 := ng BK919 hg; have NB948_972 := nl BK948 hg; have NB972_948 := ng BK948 hg; have NB953_972 := nl BK953 hg; have NB972_953 := ng BK953 hg; have NB958_972 := nl BK958 hg; have NB972_958 := ng BK958 hg; have NB967_972 := nl BK967 hg; have NB972_967 := ng BK967 hg; replace HO_911000 := ve HO_911000 gb972 hg hb; replace HO_920000 := ve HO_920000 gb972 hg hb; replace HO_949000 := ve HO_949000 gb972 hg hb; replace HO_954000 := ve HO_954000 gb972 hg hb; replace HO_959000 := ve HO_959000 gb972 hg hb; replace HO965 := ve HO965 gb972 hg hb; replace HO970 := ve HO970 gb972 hg hb; replace BK910 := bb BK910 hb; replace BK919 := bb BK919 hb; replace BK948 := bb BK948 hb; replace BK953 := bb BK953 hb; replace BK958 := bb BK958 hb; replace BK967 := bb BK967 hb; replace HB := Aside0.mk (below_step (by repeat (first | exact HB.out | refine sb ?_ GE910 | refine sb ?_ GE919 | refine sb ?_ GE948 | refine sb ?_ GE953 | refine sb ?_ GE958 | refine sb ?_ GE967)) hb); clear hb hbox hg; obtain ⟨Ao195, co195, eo195⟩ := Kd.V_slice HO970.out; subst eo195; have hnb196 := NB972_910.out; have hnc196 := NB910_972.out; have hnb197 := NB972_919.out; have hnc197 := NB919_972.out; have hnb198 := NB972_948.out; have hnc198 := NB948_972.out; have hnb199 := NB972_953.out; have hnc199 := NB953_972.out; have hnb200 := NB972_958.out; have hnc200 := NB958_972.out; have hnb201 := NB972_967.out; have hnc201 := NB967_972.out; have hcz202_0 : w194.cell? ⟨gb972, 0, none⟩ = some (.slice none 0 0) := (blk_cell BK972.out 0).trans rfl; have hfz202_0 := blk_frozen BK972.out 0; have hnb203 := NB948_919.out; have hnc203 := NB919_948.out; have hnb204 := NB948_953.out; have hnc204 := NB953_948.out; have hcz205_0 : w194.cell? ⟨gb948, 0, none⟩ = some (.slice Ao121 t944.length co121) := (blk_cell BK948.out 0).trans rfl; have hfz205_0 := blk_frozen BK948.out 0) | (go_at_call 29; (with_reducible refine (nat_Nat_Compare.calls kj115 _ _ t968 _ _ t944 t973 _ ?side1 ?side2 ?side3 ?side4 A174.out).mono ?_); (case side1 => refine (Kd.V_reads' (e := 79) (base := w.heap.size) (ok := fun k_ => ((k_ ≠ gb910 ∧ (k_ ≠ gb919 ∧ (k_ ≠ gb948 ∧ (k_ ≠ gb953 ∧ (k_ ≠ gb958 ∧ k_ ≠ gb967))))) ∧ k_ ≠ gb972)) (n := t968.length) (c := co195) ?_).2.2; exact (by exact (Kd.V_mono (Kd.V_far (p := ⟨gb972, 0, none⟩) (Kd.V_mono HO970.out (fun k_ hk => (⟨hk, hk.2⟩ : _ ∧ k_ ≠ gb972))) (fun _ hk => hk.2) (.slice Ao195 t968.length co195)) (fun _ h_ => h_.1)))); (case side2 => exact (Kd.V_reads' HO970.out).2.1); (case side3 => refine (Kd.V_reads' (e := 79) (base := w.heap.size) (ok := fun k_ => (((k_ ≠ gb910 ∧ (k_ ≠ gb919 ∧ (k_ ≠ gb948 ∧ (k_ ≠ gb953 ∧ k_ ≠ gb958)))) ∧ k_ ≠ gb967) ∧ k_ ≠ gb972)) (n := t944.length) (c := co121) ?_).2.2; exact (by exact (Kd.V_mono (Kd.V_far (p := ⟨gb972, 0, none⟩) (Kd.V_mono HO_949000.out (fun k_ hk => (⟨hk, hk.2⟩ : _ ∧ k_ ≠ gb972))) (fun _ hk => hk.2) (.slice Ao195 t968.length co195)) (fun _ h_ => h_.1)))); (case side4 => exact (Kd.V_reads' HO_949000.out).2.1); rintro e w206 ⟨rfl, hb⟩; replace HO_911000 := vf HO_911000 (fun k_ hk => hk.2) hb; replace HO_920000 := vf HO_920000 (fun k_ hk => hk.2) hb; replace HO_949000 := vf HO_949000 (fun k_ hk => hk.2) hb; replace HO_954000 := vf HO_954000 (fun k_ hk => hk.2) hb; replace HO_959000 := vf HO_959000 (fun k_ hk => hk.2) hb; replace HO965 := vf HO965 (fun k_ hk => hk.2) hb; replace HO970 := vf HO970 (fun k_ hk => hk.2) hb; replace BK910 := bf BK910 NB910_972 hb; replace BK919 := bf BK919 NB919_972 hb; replace BK948 := bf BK948 NB948_972 hb; replace BK953 := bf BK953 NB953_972 hb; replace BK958 := bf BK958 NB958_972 hb; replace BK967 := bf BK967 NB967_972 hb; replace BK972 := Aside0.mk (blk_below (g := gb972) (o := .cells #[.slice Ao195 t968.length co195] 26 (0, 0)) (by refine blk_put (cs := #[.slice none 0 0]) ?_ 0 _ rfl; exact BK972.out) hb); replace HB := Aside0.mk (below_step (by repeat (first | exact HB.out | refine sb ?_ GE910 | refine sb ?_ GE919 | refine sb ?_ GE948 | refine sb ?_ GE953 | refine sb ?_ GE958 | refine sb ?_ GE967 | refine sb ?_ GE972)) hb); (try clear hb); (try clear hb2); (try clear hk); (try clear hi)))
                go_ret
                exact ⟨by first | rfl | (simp [errW_none, errW_some] <;> rfl) | (simp [*, errW_none, errW_some] <;> rfl), by repeat (first | exact HB.out | refine sb ?_ GE910 | refine sb ?_ GE919 | refine sb ?_ GE948 | refine sb ?_ GE953 | refine sb ?_ GE958 | refine sb ?_ GE967 | refine sb ?_ GE972)⟩
              ·rw [if_neg c173] at H
               have c173b0 : (t971 == 0) = false := beq_eq_false_iff_ne.mpr c173
               have c173b1 : (t971 != 0) = true := bne_iff_ne.mpr c173
               as_aux_lemma =>
                obtain rfl := Option.some.inj H
                have hnb207 := NB958_910.out
                have hnc207 := NB910_958.out
                have hnb208 := NB958_919.out
                have hnc208 := NB919_958.out
                have hnb209 := NB958_948.out
                have hnc209 := NB948_958.out
                have hnb210 := NB958_953.out
                have hnc210 := NB953_958.out
                have hcz211_0 : wc.cell? ⟨gb958, 0, none⟩ = some (.slice Ao134 t954.length co134) := (blk_cell BK958.out 0).trans rfl
                have hfz211_0 := blk_frozen BK958.out 0
                go_wp2_with (first | ((with_reducible refine gate_callee (f := 38) rfl ?_); refine goesL_ (some 158) rfl rfl Tryd.func38 (by kernel_rfl) rfl #[.agg #[.slice Ao134 t954.length co134], .int .i64 a2] rfl (by (try simp only [List.map_toArray, List.map_cons, List.map_nil]); first | done | rfl | (simp only [List.length_drop, List.length_take]; rfl)) ?_; (with_reducible refine (nat_Nat_Power.calls kj115 (fun k_ => (k_ ≠ gb910 ∧ (k_ ≠ gb919 ∧ (k_ ≠ gb948 ∧ (k_ ≠ gb953 ∧ k_ ≠ gb958))))) _ _ t954 a2 t963 t966 _ ?side1 A170.out).mono ?_); (case side1 => exact HO_959000.out); rintro e w212 ⟨v964, rfl, ho0, hb⟩; refine ⟨_, rfl, ?_⟩; have HO965 := Aside0.mk (Kd.V_lower (Kd.V_mono (ok' := fun k_ => k_ ≠ gb910 ∧ k_ ≠ gb919 ∧ k_ ≠ gb948 ∧ k_ ≠ gb953 ∧ k_ ≠ gb958) ho0 (fun k_ hk_ => ⟨Or.elim hk_ (fun hs_ => hs_.1) (fun hn_ => (Kd.freshB (g := gb910) (o := .cells #[.slice Ao9 t905.length co9] 26 (0, 0)) BK910.out k_ hn_)), Or.elim hk_ (fun hs_ => hs_.2.1) (fun hn_ => (Kd.freshB (g := gb919) (o := .cells #[.slice Ao13 t914.length co13] 26 (0, 0)) BK919.out k_ hn_)), Or.elim hk_ (fun hs_ => hs_.2.2.1) (fun hn_ => (Kd.freshB (g := gb948) (o := .cells #[.slice Ao121 t944.length co121] 26 (0, 0)) BK948.out k_ hn_)), Or.elim hk_ (fun hs_ => hs_.2.2.2.1) (fun hn_ => (Kd.freshB (g := gb953) (o := .cells #[.slice Ao127 t949.length co127] 26 (0, 0)) BK953.out k_ hn_)), Or.elim hk_ (fun hs_ => hs_.2.2.2.2) (fun hn_ => (Kd.freshB (g := gb958) (o := .cells #[.slice Ao134 t954.length co134] 26 (0, 0)) BK958.out k_ hn_))⟩)) (below_size (by repeat (first | exact HB.out | refine sb ?_ GE910 | refine sb ?_ GE919 | refine sb ?_ GE948 | refine sb ?_ GE953 | refine sb ?_ GE958)))); replace HO_911000 := vb HO_911000 hb; replace HO_920000 := vb HO_920000 hb; replace HO_949000 := vb HO_949000 hb; replace HO_954000 := vb HO_954000 hb; replace HO_959000 := vb HO_959000 hb; replace BK910 := bb BK910 hb; replace BK919 := bb BK919 hb; replace BK948 := bb BK948 hb; replace BK953 := bb BK953 hb; replace BK958 := bb BK958 hb; replace HB := Aside0.mk (below_step (by repeat (first | exact HB.out | refine sb ?_ GE910 | refine sb ?_ GE919 | refine sb ?_ GE948 | refine sb ?_ GE953 | refine sb ?_ GE958)) hb); (try clear hb); (try clear hk); (try clear hi); (try clear ho0)) | ((with_reducible refine gate_dst (N := 28) rfl ?_); refine box_event ?hg (N := 28) ?hd (cs := #[.slice none 0 0]) (t := 26) ?hr ?_; (case hd => rfl); (case hg => rfl); (case hr => first | (go_simp; done) | (go_simp; rfl)); intro gb967 hg w213 hbox hb; have BK967 := Aside0.mk (hbox); have GW967 := Aside0.mk ((by rw [hg]; exact (below_size (by repeat (first | exact HB.out | refine sb ?_ GE910 | refine sb ?_ GE919 | refine sb ?_ GE948 | refine sb ?_ GE953 | refine sb ?_ GE958))) : w.heap.size ≤ gb967)); have GE967 := Aside0.mk ((by rw [hg]; exact (below_size (by repeat (first | exact HB.out | refine sb ?_ GE910 | refine sb ?_ GE919 | refine sb ?_ GE948 | refine sb ?_ GE953 | refine sb ?_ GE958))) : w.heap.size ≤ gb967)); have NB910_967 := nl BK910 hg; have NB967_910 := ng BK910 hg; have NB919_967 := nl BK919 hg; have NB967_919 := ng BK919 hg; have NB948_967 := nl BK948 hg; have NB967_948 := ng BK948 hg; have NB953_967 := nl BK953 hg; have NB967_953 := ng BK953 hg; have NB958_967 := nl BK958 hg; have NB967_958 := ng BK958 hg; replace HO_911000 := ve HO_911000 gb967 hg hb; replace HO_920000 := ve HO_920000 gb967 hg hb; replace HO_949000 := ve HO_949000 gb967 hg hb; replace HO_954000 := ve HO_954000 gb967 hg hb; replace HO_959000 := ve HO_959000 gb967 hg hb; replace HO965 := ve HO965 gb967 hg hb; replace BK910 := bb BK910 hb; replace BK919 := bb BK919 hb; replace BK948 := bb BK948 hb; replace BK953 := bb BK953 hb; replace BK958 := bb BK958 hb; replace HB := Aside0.mk (below_step (by repeat (first | exact HB.out | refine sb ?_ GE910 | refine sb ?_ GE919 | refine sb ?_ GE948 | refine sb ?_ GE953 | refine sb ?_ GE958)) hb); clear hb hbox hg; obtain ⟨Ao214, co214, eo214⟩ := Kd.V_slice HO965.out; subst eo214; have hnb215 := NB967_910.out; have hnc215 := NB910_967.out; have hnb216 := NB967_919.out; have hnc216 := NB919_967.out; have hnb217 := NB967_948.out; have hnc217 := NB948_967.out; have hnb218 := NB967_953.out; have hnc218 := NB953_967.out; have hnb219 := NB967_958.out; have hnc219 := NB958_967.out; have hcz220_0 : w213.cell? ⟨gb967, 0, none⟩ = some (.slice none 0 0) := (blk_cell BK967.out 0).trans rfl; have hfz220_0 := blk_frozen BK967.out 0; have hnb221 := NB910_919.out; have hnc221 := NB919_910.out; have hnb222 := NB910_948.out; have hnc222 := NB948_910.out; have hnb223 := NB910_953.out; have hnc223 := NB953_910.out; have hcz224_0 : w213.cell? ⟨gb910, 0, none⟩ = some (.slice Ao9 t905.length co9) := (blk_cell BK910.out 0).trans rfl; have hfz224_0 := blk_frozen BK910.out 0) | ((with_reducible refine gate_callee (f := 44) rfl ?_); refine goesL_ (some 164) rfl rfl Tryd.func44 (by kernel_rfl) rfl #[.agg #[.slice Ao9 t905.length co9], .agg #[.slice Ao214 t963.length co214]] rfl (by (try simp only [List.map_toArray, List.map_cons, List.map_nil]); first | done | rfl | (simp only [List.length_drop, List.length_take]; rfl)) ?_; (with_reducible refine (nat_Nat_Mul.calls kj115 _ _ t905 _ _ t963 t968 t971 _ ?side1 ?side2 ?side3 ?side4 A171.out).mono ?_); (case side1 => refine (Kd.V_reads' (e := 79) (base := w.heap.size) (ok := fun k_ => ((k_ ≠ gb910 ∧ (k_ ≠ gb919 ∧ (k_ ≠ gb948 ∧ (k_ ≠ gb953 ∧ k_ ≠ gb958)))) ∧ k_ ≠ gb967)) (n := t905.length) (c := co9) ?_).2.2; exact (by exact (Kd.V_mono (Kd.V_far (p := ⟨gb967, 0, none⟩) (Kd.V_mono HO_911000.out (fun k_ hk => (⟨hk, hk.2⟩ : _ ∧ k_ ≠ gb967))) (fun _ hk => hk.2) (.slice Ao214 t963.length co214)) (fun _ h_ => h_.1)))); (case side2 => exact (Kd.V_reads' HO_911000.out).2.1); (case side3 => refine (Kd.V_reads' (e := 79) (base := w.heap.size) (ok := fun k_ => ((k_ ≠ gb910 ∧ (k_ ≠ gb919 ∧ (k_ ≠ gb948 ∧ (k_ ≠ gb953 ∧ k_ ≠ gb958)))) ∧ k_ ≠ gb967)) (n := t963.length) (c := co214) ?_).2.2; exact (by exact (Kd.V_mono (Kd.V_far (p := ⟨gb967, 0, none⟩) (Kd.V_mono HO965.out (fun k_ hk => (⟨hk, hk.2⟩ : _ ∧ k_ ≠ gb967))) (fun _ hk => hk.2) (.slice Ao214 t963.length co214)) (fun _ h_ => h_.1)))); (case side4 => exact (Kd.V_reads' HO965.out).2.1); rintro e w225 ⟨v969, rfl, ho0, hb⟩; refine ⟨_, rfl, ?_⟩; have HO970 := Aside0.mk (Kd.V_lower (Kd.V_mono (ok' := fun k_ => k_ ≠ gb910 ∧ k_ ≠ gb919 ∧ k_ ≠ gb948 ∧ k_ ≠ gb953 ∧ k_ ≠ gb958 ∧ k_ ≠ gb967) ho0 (fun k_ hk_ => ⟨(Kd.freshB (g := gb910) (o := .cells #[.slice Ao9 t905.length co9] 26 (0, 0)) (by refine blk_far ?_ NB910_967.out _; exact BK910.out) k_ hk_), (Kd.freshB (g := gb919) (o := .cells #[.slice Ao13 t914.length co13] 26 (0, 0)) (by refine blk_far ?_ NB919_967.out _; exact BK919.out) k_ hk_), (Kd.freshB (g := gb948) (o := .cells #[.slice Ao121 t944.length co121] 26 (0, 0)) (by refine blk_far ?_ NB948_967.out _; exact BK948.out) k_ hk_), (Kd.freshB (g := gb953) (o := .cells #[.slice Ao127 t949.length co127] 26 (0, 0)) (by refine blk_far ?_ NB953_967.out _; exact BK953.out) k_ hk_), (Kd.freshB (g := gb958) (o := .cells #[.slice Ao134 t954.length co134] 26 (0, 0)) (by refine blk_far ?_ NB958_967.out _; exact BK958.out) k_ hk_), (Kd.freshB (g := gb967) (o := .cells #[.slice Ao214 t963.length co214] 26 (0, 0)) (by refine blk_put (cs := #[.slice none 0 0]) ?_ 0 _ rfl; exact BK967.out) k_ hk_)⟩)) (below_size (by repeat (first | exact HB.out | refine sb ?_ GE910 | refine sb ?_ GE919 | refine sb ?_ GE948 | refine sb ?_ GE953 | refine sb ?_ GE958 | refine sb ?_ GE967)))); replace HO_911000 := vf HO_911000 (fun k_ hk => hk.2) hb; replace HO_920000 := vf HO_920000 (fun k_ hk => hk.2) hb; replace HO_949000 := vf HO_949000 (fun k_ hk => hk.2) hb; replace HO_954000 := vf HO_954000 (fun k_ hk => hk.2) hb; replace HO_959000 := vf HO_959000 (fun k_ hk => hk.2) hb; replace HO965 := vf HO965 (fun k_ hk => hk.2) hb; replace BK910 := bf BK910 NB910_967 hb; replace BK919 := bf BK919 NB919_967 hb; replace BK948 := bf BK948 NB948_967 hb; replace BK953 := bf BK953 NB953_967 hb; replace BK958 := bf BK958 NB958_967 hb; replace BK967 := Aside0.mk (blk_below (g := gb967) (o := .cells #[.slice Ao214 t963.length co214] 26 (0, 0)) (by refine blk_put (cs := #[.slice none 0 0]) ?_ 0 _ rfl; exact BK967.out) hb); replace HB := Aside0.mk (below_step (by repeat (first | exact HB.out | refine sb ?_ GE910 | refine sb ?_ GE919 | refine sb ?_ GE948 | refine sb ?_ GE953 | refine sb ?_ GE958 | refine sb ?_ GE967)) hb); (try clear hb); (try clear hk); (try clear hi); (try clear ho0)) | ((with_reducible refine gate_dst (N := 29) rfl ?_); refine box_event ?hg (N := 29) ?hd (cs := #[.slice none 0 0]) (t := 26) ?hr ?_; (case hd => rfl); (case hg => rfl); (case hr => first | (go_simp; done) | (go_simp; rfl)); intro gb972 hg w226 hbox hb; have BK972 := Aside0.mk (hbox); have GW972 := Aside0.mk ((by rw [hg]; exact (below_size (by repeat (first | exact HB.out | refine sb ?_ GE910 | refine sb ?_ GE919 | refine sb ?_ GE948 | refine sb ?_ GE953 | refine sb ?_ GE958 | refine sb ?_ GE967))) : w.heap.size ≤ gb972)); have GE972 := Aside0.mk ((by rw [hg]; exact (below_size (by repeat (first | exact HB.out | refine sb ?_ GE910 | refine sb ?_ GE919 | refine sb ?_ GE948 | refine sb ?_ GE953 | refine sb ?_ GE958 | refine sb ?_ GE967))) : w.heap.size ≤ gb972)); have NB910_972 := nl BK910 hg; have NB972_910 := ng BK910 hg; have NB919_972 := nl BK919 hg; have NB972_919 := ng BK919 hg; have NB948_972 := nl BK948 hg; have NB972_948 := ng BK948 hg; have NB953_972 := nl BK953 hg; have NB972_953 := ng BK953 hg; have NB958_972 := nl BK958 hg; have NB972_958 := ng BK958 hg; have NB967_972 := nl BK967 hg; have NB972_967 := ng BK967 hg; replace HO_911000 := ve HO_911000 gb972 hg hb; replace HO_920000 := ve HO_920000 gb972 hg hb; replace HO_949000 := ve HO_949000 gb972 hg hb; replace HO_954000 := ve HO_954000 gb972 hg hb; replace HO_959000 := ve HO_959000 gb972 hg hb; replace HO965 := ve HO965 gb972 hg hb; replace HO970 := ve HO970 gb972 hg hb; replace BK910 := bb BK910 hb; replace BK919 := bb BK919 hb; replace BK948 := bb BK948 hb; replace BK953 := bb BK953 hb; replace BK958 := bb BK958 hb; replace BK967 := bb BK967 hb; replace HB := Aside0.mk (below_step (by repeat (first | exact HB.out | refine sb ?_ GE910 | refine sb ?_ GE919 | refine sb ?_ GE948 | refine sb ?_ GE953 | refine sb ?_ GE958 | refine sb ?_ GE967)) hb); clear hb hbox hg; obtain ⟨Ao227, co227, eo227⟩ := Kd.V_slice HO970.out; subst eo227; have hnb228 := NB972_910.out; have hnc228 := NB910_972.out; have hnb229 := NB972_919.out; have hnc229 := NB919_972.out; have hnb230 := NB972_948.out; have hnc230 := NB948_972.out; have hnb231 := NB972_953.out; have hnc231 := NB953_972.out; have hnb232 := NB972_958.out; have hnc232 := NB958_972.out; have hnb233 := NB972_967.out; have hnc233 := NB967_972.out; have hcz234_0 : w226.cell? ⟨gb972, 0, none⟩ = some (.slice none 0 0) := (blk_cell BK972.out 0).trans rfl; have hfz234_0 := blk_frozen BK972.out 0))
                go_ret
                exact ⟨by first | rfl | (simp [errW_none, errW_some] <;> rfl) | (simp [*, errW_none, errW_some] <;> rfl), by repeat (first | exact HB.out | refine sb ?_ GE910 | refine sb ?_ GE919 | refine sb ?_ GE948 | refine sb ?_ GE953 | refine sb ?_ GE958 | refine sb ?_ GE967 | refine sb ?_ GE972)⟩
             ·rw [if_neg c172] at H
              have c172b0 : (t966 == 0) = false := beq_eq_false_iff_ne.mpr c172
              have c172b1 : (t966 != 0) = true := bne_iff_ne.mpr c172
              as_aux_lemma =>
               obtain rfl := Option.some.inj H
               have hnb235 := NB958_910.out
               have hnc235 := NB910_958.out
               have hnb236 := NB958_919.out
               have hnc236 := NB919_958.out
               have hnb237 := NB958_948.out
               have hnc237 := NB948_958.out
               have hnb238 := NB958_953.out
               have hnc238 := NB953_958.out
               have hcz239_0 : wc.cell? ⟨gb958, 0, none⟩ = some (.slice Ao134 t954.length co134) := (blk_cell BK958.out 0).trans rfl
               have hfz239_0 := blk_frozen BK958.out 0
               go_wp2_with (first | ((with_reducible refine gate_callee (f := 38) rfl ?_); refine goesL_ (some 158) rfl rfl Tryd.func38 (by kernel_rfl) rfl #[.agg #[.slice Ao134 t954.length co134], .int .i64 a2] rfl (by (try simp only [List.map_toArray, List.map_cons, List.map_nil]); first | done | rfl | (simp only [List.length_drop, List.length_take]; rfl)) ?_; (with_reducible refine (nat_Nat_Power.calls kj115 (fun k_ => (k_ ≠ gb910 ∧ (k_ ≠ gb919 ∧ (k_ ≠ gb948 ∧ (k_ ≠ gb953 ∧ k_ ≠ gb958))))) _ _ t954 a2 t963 t966 _ ?side1 A170.out).mono ?_); (case side1 => exact HO_959000.out); rintro e w240 ⟨v964, rfl, ho0, hb⟩; refine ⟨_, rfl, ?_⟩; have HO965 := Aside0.mk (Kd.V_lower (Kd.V_mono (ok' := fun k_ => k_ ≠ gb910 ∧ k_ ≠ gb919 ∧ k_ ≠ gb948 ∧ k_ ≠ gb953 ∧ k_ ≠ gb958) ho0 (fun k_ hk_ => ⟨Or.elim hk_ (fun hs_ => hs_.1) (fun hn_ => (Kd.freshB (g := gb910) (o := .cells #[.slice Ao9 t905.length co9] 26 (0, 0)) BK910.out k_ hn_)), Or.elim hk_ (fun hs_ => hs_.2.1) (fun hn_ => (Kd.freshB (g := gb919) (o := .cells #[.slice Ao13 t914.length co13] 26 (0, 0)) BK919.out k_ hn_)), Or.elim hk_ (fun hs_ => hs_.2.2.1) (fun hn_ => (Kd.freshB (g := gb948) (o := .cells #[.slice Ao121 t944.length co121] 26 (0, 0)) BK948.out k_ hn_)), Or.elim hk_ (fun hs_ => hs_.2.2.2.1) (fun hn_ => (Kd.freshB (g := gb953) (o := .cells #[.slice Ao127 t949.length co127] 26 (0, 0)) BK953.out k_ hn_)), Or.elim hk_ (fun hs_ => hs_.2.2.2.2) (fun hn_ => (Kd.freshB (g := gb958) (o := .cells #[.slice Ao134 t954.length co134] 26 (0, 0)) BK958.out k_ hn_))⟩)) (below_size (by repeat (first | exact HB.out | refine sb ?_ GE910 | refine sb ?_ GE919 | refine sb ?_ GE948 | refine sb ?_ GE953 | refine sb ?_ GE958)))); replace HO_911000 := vb HO_911000 hb; replace HO_920000 := vb HO_920000 hb; replace HO_949000 := vb HO_949000 hb; replace HO_954000 := vb HO_954000 hb; replace HO_959000 := vb HO_959000 hb; replace BK910 := bb BK910 hb; replace BK919 := bb BK919 hb; replace BK948 := bb BK948 hb; replace BK953 := bb BK953 hb; replace BK958 := bb BK958 hb; replace HB := Aside0.mk (below_step (by repeat (first | exact HB.out | refine sb ?_ GE910 | refine sb ?_ GE919 | refine sb ?_ GE948 | refine sb ?_ GE953 | refine sb ?_ GE958)) hb); (try clear hb); (try clear hk); (try clear hi); (try clear ho0)) | ((with_reducible refine gate_dst (N := 28) rfl ?_); refine box_event ?hg (N := 28) ?hd (cs := #[.slice none 0 0]) (t := 26) ?hr ?_; (case hd => rfl); (case hg => rfl); (case hr => first | (go_simp; done) | (go_simp; rfl)); intro gb967 hg w241 hbox hb; have BK967 := Aside0.mk (hbox); have GW967 := Aside0.mk ((by rw [hg]; exact (below_size (by repeat (first | exact HB.out | refine sb ?_ GE910 | refine sb ?_ GE919 | refine sb ?_ GE948 | refine sb ?_ GE953 | refine sb ?_ GE958))) : w.heap.size ≤ gb967)); have GE967 := Aside0.mk ((by rw [hg]; exact (below_size (by repeat (first | exact HB.out | refine sb ?_ GE910 | refine sb ?_ GE919 | refine sb ?_ GE948 | refine sb ?_ GE953 | refine sb ?_ GE958))) : w.heap.size ≤ gb967)); have NB910_967 := nl BK910 hg; have NB967_910 := ng BK910 hg; have NB919_967 := nl BK919 hg; have NB967_919 := ng BK919 hg; have NB948_967 := nl BK948 hg; have NB967_948 := ng BK948 hg; have NB953_967 := nl BK953 hg; have NB967_953 := ng BK953 hg; have NB958_967 := nl BK958 hg; have NB967_958 := ng BK958 hg; replace HO_911000 := ve HO_911000 gb967 hg hb; replace HO_920000 := ve HO_920000 gb967 hg hb; replace HO_949000 := ve HO_949000 gb967 hg hb; replace HO_954000 := ve HO_954000 gb967 hg hb; replace HO_959000 := ve HO_959000 gb967 hg hb; replace HO965 := ve HO965 gb967 hg hb; replace BK910 := bb BK910 hb; replace BK919 := bb BK919 hb; replace BK948 := bb BK948 hb; replace BK953 := bb BK953 hb; replace BK958 := bb BK958 hb; replace HB := Aside0.mk (below_step (by repeat (first | exact HB.out | refine sb ?_ GE910 | refine sb ?_ GE919 | refine sb ?_ GE948 | refine sb ?_ GE953 | refine sb ?_ GE958)) hb); clear hb hbox hg; obtain ⟨Ao242, co242, eo242⟩ := Kd.V_slice HO965.out; subst eo242; have hnb243 := NB967_910.out; have hnc243 := NB910_967.out; have hnb244 := NB967_919.out; have hnc244 := NB919_967.out; have hnb245 := NB967_948.out; have hnc245 := NB948_967.out; have hnb246 := NB967_953.out; have hnc246 := NB953_967.out; have hnb247 := NB967_958.out; have hnc247 := NB958_967.out; have hcz248_0 : w241.cell? ⟨gb967, 0, none⟩ = some (.slice none 0 0) := (blk_cell BK967.out 0).trans rfl; have hfz248_0 := blk_frozen BK967.out 0; have hnb249 := NB910_919.out; have hnc249 := NB919_910.out; have hnb250 := NB910_948.out; have hnc250 := NB948_910.out; have hnb251 := NB910_953.out; have hnc251 := NB953_910.out; have hcz252_0 : w241.cell? ⟨gb910, 0, none⟩ = some (.slice Ao9 t905.length co9) := (blk_cell BK910.out 0).trans rfl; have hfz252_0 := blk_frozen BK910.out 0) | ((with_reducible refine gate_callee (f := 44) rfl ?_); refine goesL_ (some 164) rfl rfl Tryd.func44 (by kernel_rfl) rfl #[.agg #[.slice Ao9 t905.length co9], .agg #[.slice Ao242 t963.length co242]] rfl (by (try simp only [List.map_toArray, List.map_cons, List.map_nil]); first | done | rfl | (simp only [List.length_drop, List.length_take]; rfl)) ?_; (with_reducible refine (nat_Nat_Mul.calls kj115 _ _ t905 _ _ t963 t968 t971 _ ?side1 ?side2 ?side3 ?side4 A171.out).mono ?_); (case side1 => refine (Kd.V_reads' (e := 79) (base := w.heap.size) (ok := fun k_ => ((k_ ≠ gb910 ∧ (k_ ≠ gb919 ∧ (k_ ≠ gb948 ∧ (k_ ≠ gb953 ∧ k_ ≠ gb958)))) ∧ k_ ≠ gb967)) (n := t905.length) (c := co9) ?_).2.2; exact (by exact (Kd.V_mono (Kd.V_far (p := ⟨gb967, 0, none⟩) (Kd.V_mono HO_911000.out (fun k_ hk => (⟨hk, hk.2⟩ : _ ∧ k_ ≠ gb967))) (fun _ hk => hk.2) (.slice Ao242 t963.length co242)) (fun _ h_ => h_.1)))); (case side2 => exact (Kd.V_reads' HO_911000.out).2.1); (case side3 => refine (Kd.V_reads' (e := 79) (base := w.heap.size) (ok := fun k_ => ((k_ ≠ gb910 ∧ (k_ ≠ gb919 ∧ (k_ ≠ gb948 ∧ (k_ ≠ gb953 ∧ k_ ≠ gb958)))) ∧ k_ ≠ gb967)) (n := t963.length) (c := co242) ?_).2.2; exact (by exact (Kd.V_mono (Kd.V_far (p := ⟨gb967, 0, none⟩) (Kd.V_mono HO965.out (fun k_ hk => (⟨hk, hk.2⟩ : _ ∧ k_ ≠ gb967))) (fun _ hk => hk.2) (.slice Ao242 t963.length co242)) (fun _ h_ => h_.1)))); (case side4 => exact (Kd.V_reads' HO965.out).2.1); rintro e w253 ⟨v969, rfl, ho0, hb⟩; refine ⟨_, rfl, ?_⟩; have HO970 := Aside0.mk (Kd.V_lower (Kd.V_mono (ok' := fun k_ => k_ ≠ gb910 ∧ k_ ≠ gb919 ∧ k_ ≠ gb948 ∧ k_ ≠ gb953 ∧ k_ ≠ gb958 ∧ k_ ≠ gb967) ho0 (fun k_ hk_ => ⟨(Kd.freshB (g := gb910) (o := .cells #[.slice Ao9 t905.length co9] 26 (0, 0)) (by refine blk_far ?_ NB910_967.out _; exact BK910.out) k_ hk_), (Kd.freshB (g := gb919) (o := .cells #[.slice Ao13 t914.length co13] 26 (0, 0)) (by refine blk_far ?_ NB919_967.out _; exact BK919.out) k_ hk_), (Kd.freshB (g := gb948) (o := .cells #[.slice Ao121 t944.length co121] 26 (0, 0)) (by refine blk_far ?_ NB948_967.out _; exact BK948.out) k_ hk_), (Kd.freshB (g := gb953) (o := .cells #[.slice Ao127 t949.length co127] 26 (0, 0)) (by refine blk_far ?_ NB953_967.out _; exact BK953.out) k_ hk_), (Kd.freshB (g := gb958) (o := .cells #[.slice Ao134 t954.length co134] 26 (0, 0)) (by refine blk_far ?_ NB958_967.out _; exact BK958.out) k_ hk_), (Kd.freshB (g := gb967) (o := .cells #[.slice Ao242 t963.length co242] 26 (0, 0)) (by refine blk_put (cs := #[.slice none 0 0]) ?_ 0 _ rfl; exact BK967.out) k_ hk_)⟩)) (below_size (by repeat (first | exact HB.out | refine sb ?_ GE910 | refine sb ?_ GE919 | refine sb ?_ GE948 | refine sb ?_ GE953 | refine sb ?_ GE958 | refine sb ?_ GE967)))); replace HO_911000 := vf HO_911000 (fun k_ hk => hk.2) hb; replace HO_920000 := vf HO_920000 (fun k_ hk => hk.2) hb; replace HO_949000 := vf HO_949000 (fun k_ hk => hk.2) hb; replace HO_954000 := vf HO_954000 (fun k_ hk => hk.2) hb; replace HO_959000 := vf HO_959000 (fun k_ hk => hk.2) hb; replace HO965 := vf HO965 (fun k_ hk => hk.2) hb; replace BK910 := bf BK910 NB910_967 hb; replace BK919 := bf BK919 NB919_967 hb; replace BK948 := bf BK948 NB948_967 hb; replace BK953 := bf BK953 NB953_967 hb; replace BK958 := bf BK958 NB958_967 hb; replace BK967 := Aside0.mk (blk_below (g := gb967) (o := .cells #[.slice Ao242 t963.length co242] 26 (0, 0)) (by refine blk_put (cs := #[.slice none 0 0]) ?_ 0 _ rfl; exact BK967.out) hb); replace HB := Aside0.mk (below_step (by repeat (first | exact HB.out | refine sb ?_ GE910 | refine sb ?_ GE919 | refine sb ?_ GE948 | refine sb ?_ GE953 | refine sb ?_ GE958 | refine sb ?_ GE967)) hb); (try clear hb); (try clear hk); (try clear hi); (try clear ho0)) | ((with_reducible refine gate_dst (N := 29) rfl ?_); refine box_event ?hg (N := 29) ?hd (cs := #[.slice none 0 0]) (t := 26) ?hr ?_; (case hd => rfl); (case hg => rfl); (case hr => first | (go_simp; done) | (go_simp; rfl)); intro gb972 hg w254 hbox hb; have BK972 := Aside0.mk (hbox); have GW972 := Aside0.mk ((by rw [hg]; exact (below_size (by repeat (first | exact HB.out | refine sb ?_ GE910 | refine sb ?_ GE919 | refine sb ?_ GE948 | refine sb ?_ GE953 | refine sb ?_ GE958 | refine sb ?_ GE967))) : w.heap.size ≤ gb972)); have GE972 := Aside0.mk ((by rw [hg]; exact (below_size (by repeat (first | exact HB.out | refine sb ?_ GE910 | refine sb ?_ GE919 | refine sb ?_ GE948 | refine sb ?_ GE953 | refine sb ?_ GE958 | refine sb ?_ GE967))) : w.heap.size ≤ gb972)); have NB910_972 := nl BK910 hg; have NB972_910 := ng BK910 hg; have NB919_972 := nl BK919 hg; have NB972_919 := ng BK919 hg; have NB948_972 := nl BK948 hg; have NB972_948 := ng BK948 hg; have NB953_972 := nl BK953 hg; have NB972_953 := ng BK953 hg; have NB958_972 := nl BK958 hg; have NB972_958 := ng BK958 hg; have NB967_972 := nl BK967 hg; have NB972_967 := ng BK967 hg; replace HO_911000 := ve HO_911000 gb972 hg hb; replace HO_920000 := ve HO_920000 gb972 hg hb; replace HO_949000 := ve HO_949000 gb972 hg hb; replace HO_954000 := ve HO_954000 gb972 hg hb; replace HO_959000 := ve HO_959000 gb972 hg hb; replace HO965 := ve HO965 gb972 hg hb; replace HO970 := ve HO970 gb972 hg hb; replace BK910 := bb BK910 hb; replace BK919 := bb BK919 hb; replace BK948 := bb BK948 hb; replace BK953 := bb BK953 hb; replace BK958 := bb BK958 hb; replace BK967 := bb BK967 hb; replace HB := Aside0.mk (below_step (by repeat (first | exact HB.out | refine sb ?_ GE910 | refine sb ?_ GE919 | refine sb ?_ GE948 | refine sb ?_ GE953 | refine sb ?_ GE958 | refine sb ?_ GE967)) hb); clear hb hbox hg; obtain ⟨Ao255, co255, eo255⟩ := Kd.V_slice HO970.out; subst eo255; have hnb256 := NB972_910.out; have hnc256 := NB910_972.out; have hnb257 := NB972_919.out; have hnc257 := NB919_972.out; have hnb258 := NB972_948.out; have hnc258 := NB948_972.out; have hnb259 := NB972_953.out; have hnc259 := NB953_972.out; have hnb260 := NB972_958.out; have hnc260 := NB958_972.out; have hnb261 := NB972_967.out; have hnc261 := NB967_972.out; have hcz262_0 : w254.cell? ⟨gb972, 0, none⟩ = some (.slice none 0 0) := (blk_cell BK972.out 0).trans rfl; have hfz262_0 := blk_frozen BK972.out 0))
               go_ret
               exact ⟨by first | rfl | (simp [errW_none, errW_some] <;> rfl) | (simp [*, errW_none, errW_some] <;> rfl), by repeat (first | exact HB.out | refine sb ?_ GE910 | refine sb ?_ GE919 | refine sb ?_ GE948 | refine sb ?_ GE953 | refine sb ?_ GE958 | refine sb ?_ GE967 | refine sb ?_ GE972)⟩
end Go.Proofs.YtgcngbmkgjphpaaDoor.PAll
end
