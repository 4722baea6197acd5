/- Texts of this session and printed texts, merged, what is not needed left out: PAllx20, PAllx24, HIndexB, PAllx4, HConv, PAllx5, HLen32, PAllx7. -/
import Derived.Test.YteecekhfpfnepaaDoorTdD0
import Derived.Test.YteecekhfpfnepaaDoorTdD1
import Derived.Lib.Bytealg
section
namespace Go.Proofs.YteecekhfpfnepaaDoor.PAll
open Go.RowKit Go.Proofs.YteecekhfpfnepaaDoorW.PrintWords Go.Proofs.YteecekhfpfnepaaDoorW.PrintLast Go.Proofs.YteecekhfpfnepaaDoorW.PrintMore
attribute [local go_sem] max2_int min2_int max_two min_two max_three min_three max_four min_four   -- for this text's walks alone
set_option linter.unusedVariables false
set_option linter.unusedSimpArgs false
mutual
def single_Text.j0 : Nat → ByteArray → Int → Bool → Int → Int → Option (ByteArray)
  | 0, _, _, _, _, _ => none
  | k + 1, x4, x348000, x348001, x348002, x348003 => if x348000 = 2 then (some (⟨#[110, 111, 110, 101]⟩ : ByteArray)) else (if x348000 = 1 then (if x4.size + 8 ≤ 9223372036854775807 then (some (x4 ++ (⟨#[105, 110, 102, 105, 110, 105, 116, 101]⟩ : ByteArray))) else (none)) else ((single_long_times.f k (([1] : List Int)) ((x348002) % 4294967296)).bind fun t351 => (single_Text.l0 k x4 t351 x348003 0 x348000 x348001 x348002 x348003)))
def single_Text.l0 : Nat → ByteArray → List Int → Int → Int → Int → Bool → Int → Int → Option (ByteArray)
  | 0, _, _, _, _, _, _, _, _ => none
  | k + 1, x4, x5, x28, x29, x348000, x348001, x348002, x348003 => if x29 < x28 then ((single_long_times.f k x5 2).bind fun t354 => (single_Text.l0 k x4 t354 x28 (wrap64 (x29 + 1)) x348000 x348001 x348002 x348003)) else (if x348003 ≥ 0 then ((single_long_digits.f k x5).bind fun t357 => (if x4.size + t357.size ≤ 9223372036854775807 then (some (x4 ++ t357)) else (none))) else (single_Text.l1 k x4 x5 (wrap64 (-x348003)) (wrap64 (-x348003)) 0))
def single_Text.l1 : Nat → ByteArray → List Int → Int → Int → Int → Option (ByteArray)
  | 0, _, _, _, _, _ => none
  | k + 1, x4, x5, x6, x44, x45 => if x45 < x44 then ((single_long_times.f k x5 5).bind fun t358 => (single_Text.l1 k x4 t358 x6 x44 (wrap64 (x45 + 1)))) else ((single_long_digits.f k x5).bind fun t361 => (if (t361.size : Int) ≤ x6 then ((strings_Repeat.f (⟨#[48]⟩ : ByteArray) (wrap64 ((wrap64 (x6 + 1)) - (t361.size : Int)))).bind fun t362 => (if t362.size + t361.size ≤ 9223372036854775807 then (if 0 ≤ (wrap64 (((t362 ++ t361).size : Int) - x6)) then (if (wrap64 (((t362 ++ t361).size : Int) - x6)) ≤ ((t362 ++ t361).size : Int) then ((strings_TrimRight.f k ((t362 ++ t361).extract ((wrap64 (((t362 ++ t361).size : Int) - x6)) : Int).toNat (t362 ++ t361).size) (⟨#[48]⟩ : ByteArray)).bind fun t363 => (if t363.toList = ([] : List UInt8) then (if x4.size + ((t362 ++ t361).extract 0 ((wrap64 (((t362 ++ t361).size : Int) - x6)) : Int).toNat).size ≤ 9223372036854775807 then (some (x4 ++ ((t362 ++ t361).extract 0 ((wrap64 (((t362 ++ t361).size : Int) - x6)) : Int).toNat))) else (none)) else (if 1 + t363.size ≤ 9223372036854775807 then (if ((t362 ++ t361).extract 0 ((wrap64 (((t362 ++ t361).size : Int) - x6)) : Int).toNat).size + ((⟨#[46]⟩ : ByteArray) ++ t363).size ≤ 9223372036854775807 then (if x4.size + (((t362 ++ t361).extract 0 ((wrap64 (((t362 ++ t361).size : Int) - x6)) : Int).toNat) ++ ((⟨#[46]⟩ : ByteArray) ++ t363)).size ≤ 9223372036854775807 then (some (x4 ++ (((t362 ++ t361).extract 0 ((wrap64 (((t362 ++ t361).size : Int) - x6)) : Int).toNat) ++ ((⟨#[46]⟩ : ByteArray) ++ t363)))) else (none)) else (none)) else (none)))) else (none)) else (none)) else (none))) else (if 0 ≤ (wrap64 ((t361.size : Int) - x6)) then (if (wrap64 ((t361.size : Int) - x6)) ≤ (t361.size : Int) then ((strings_TrimRight.f k (t361.extract ((wrap64 ((t361.size : Int) - x6)) : Int).toNat t361.size) (⟨#[48]⟩ : ByteArray)).bind fun t364 => (if t364.toList = ([] : List UInt8) then (if x4.size + (t361.extract 0 ((wrap64 ((t361.size : Int) - x6)) : Int).toNat).size ≤ 9223372036854775807 then (some (x4 ++ (t361.extract 0 ((wrap64 ((t361.size : Int) - x6)) : Int).toNat))) else (none)) else (if 1 + t364.size ≤ 9223372036854775807 then (if (t361.extract 0 ((wrap64 ((t361.size : Int) - x6)) : Int).toNat).size + ((⟨#[46]⟩ : ByteArray) ++ t364).size ≤ 9223372036854775807 then (if x4.size + ((t361.extract 0 ((wrap64 ((t361.size : Int) - x6)) : Int).toNat) ++ ((⟨#[46]⟩ : ByteArray) ++ t364)).size ≤ 9223372036854775807 then (some (x4 ++ ((t361.extract 0 ((wrap64 ((t361.size : Int) - x6)) : Int).toNat) ++ ((⟨#[46]⟩ : ByteArray) ++ t364)))) else (none)) else (none)) else (none)))) else (none)) else (none))))
end
def single_Text.f (k : Nat) (a0 : Int) : Option (ByteArray) := (single_Parts.f a0).bind fun bt343 => (if bt343.2.1 = true then (single_Text.j0 k (⟨#[45]⟩ : ByteArray) bt343.1 bt343.2.1 bt343.2.2.1 bt343.2.2.2) else (single_Text.j0 k (⟨#[]⟩ : ByteArray) bt343.1 bt343.2.1 bt343.2.2.1 bt343.2.2.2))
set_option maxHeartbeats 8000000 in
set_option maxRecDepth 100000 in
theorem single_Text.calls (k : Nat) (a0 : Int) (r : ByteArray) (w : World) (h : single_Text.f k a0 = some r) (hTab : Tab w) :
    Calls Tryd.prog 34 #[.int .u32 a0] w fun e w' => e = .returned (.string r) ∧ Below w.heap.size w w' := by
  have HTab := Aside0.mk hTab
  clear hTab
  have hu24 := Tryd.underlying24
  have HB := Aside0.mk (Below.refl w.heap.size w)
  have H : ((single_Parts.f a0).bind fun bt343 => (if bt343.2.1 = true then (single_Text.j0 k (⟨#[45]⟩ : ByteArray) bt343.1 bt343.2.1 bt343.2.2.1 bt343.2.2.2) else (single_Text.j0 k (⟨#[]⟩ : ByteArray) bt343.1 bt343.2.1 bt343.2.2.1 bt343.2.2.2))) = some r := h
  clear h
  replace H := Option.bind_eq_some_iff.mp H
  obtain ⟨⟨t343, t344, t345, t346⟩, A20, H⟩ := H
  replace H : (if t344 = true then (single_Text.j0 k (⟨#[45]⟩ : ByteArray) t343 t344 t345 t346) else (single_Text.j0 k (⟨#[]⟩ : ByteArray) t343 t344 t345 t346)) = some r := H
  have A2 := Aside0.mk A20
  clear A20
  have HC3 := Aside0.mk H
  clear H
  go_enter Tryd.func34, Tryd.ntmps34
  go_upto_if 13 with (first | (go_at_call 13; (with_reducible refine (single_Parts.calls a0 t343 t344 t345 t346 _ A2.out (by first | exact HTab.out | exact tab_below HTab.out (by repeat (first | (with_reducible first | exact HB.out | apply below_alloc | apply pw_below_drewN | apply below_drew1) | exact HB.out)))).mono ?_); rintro e w4 ⟨rfl, hb⟩; have n0_ := Aside0.mk (below_step (by repeat (first | (with_reducible first | exact HB.out | apply below_alloc | apply pw_below_drewN | apply below_drew1) | exact HB.out)) hb); clear HB; have HB := n0_; clear n0_; (try clear hb); (try clear hb2); (try clear hk); (try clear hi)) | ((with_reducible refine gate_dst (N := 3) rfl ?_); refine box_event ?hg (N := 3) ?hd (cs := #[.int .i64 0, .bool false, .int .i64 0, .int .i64 0]) (t := 24) ?hr ?_; (case hd => rfl); (case hg => rfl); (case hr => first | (go_simp; done) | (go_simp; rfl)); intro gb347 hg w5 hbox hb; have n0_ := Aside0.mk (below_step (by repeat (first | (with_reducible first | exact HB.out | apply below_alloc | apply pw_below_drewN | apply below_drew1) | exact HB.out)) hb); have n1_ := Aside0.mk (hbox); have n2_ := Aside0.mk ((by rw [hg]; exact (below_size (by repeat (first | (with_reducible first | exact HB.out | apply below_alloc | apply pw_below_drewN | apply below_drew1) | exact HB.out))) : w.heap.size ≤ gb347)); have n3_ := Aside0.mk ((by rw [hg]; exact (below_size (by repeat (first | (with_reducible first | exact HB.out | apply below_alloc | apply pw_below_drewN | apply below_drew1) | exact HB.out))) : w.heap.size ≤ gb347)); clear HB; have HB := n0_; have BK347 := n1_; have GW347 := n2_; have GE347 := n3_; clear n0_ n1_ n2_ n3_; clear hb hbox hg; have hcz6_0 : w5.cell? ⟨gb347, 0, none⟩ = some (.int .i64 0) := (blk_cell BK347.out 0).trans rfl; have hcz6_1 : w5.cell? ⟨gb347, 1, none⟩ = some (.bool false) := (blk_cell BK347.out 1).trans rfl; have hcz6_2 : w5.cell? ⟨gb347, 2, none⟩ = some (.int .i64 0) := (blk_cell BK347.out 2).trans rfl; have hcz6_3 : w5.cell? ⟨gb347, 3, none⟩ = some (.int .i64 0) := (blk_cell BK347.out 3).trans rfl; have hfz6_0 := blk_frozen BK347.out 0; have hfz6_1 := blk_frozen BK347.out 1; have hfz6_2 := blk_frozen BK347.out 2; have hfz6_3 := blk_frozen BK347.out 3))
  repeat (go_quiet (first | (go_at_call 13; (with_reducible refine (single_Parts.calls a0 t343 t344 t345 t346 _ A2.out (by first | exact HTab.out | exact tab_below HTab.out (by repeat (first | (with_reducible first | exact HB.out | apply below_alloc | apply pw_below_drewN | apply below_drew1) | exact HB.out)))).mono ?_); rintro e w4 ⟨rfl, hb⟩; have n0_ := Aside0.mk (below_step (by repeat (first | (with_reducible first | exact HB.out | apply below_alloc | apply pw_below_drewN | apply below_drew1) | exact HB.out)) hb); clear HB; have HB := n0_; clear n0_; (try clear hb); (try clear hb2); (try clear hk); (try clear hi)) | ((with_reducible refine gate_dst (N := 3) rfl ?_); refine box_event ?hg (N := 3) ?hd (cs := #[.int .i64 0, .bool false, .int .i64 0, .int .i64 0]) (t := 24) ?hr ?_; (case hd => rfl); (case hg => rfl); (case hr => first | (go_simp; done) | (go_simp; rfl)); intro gb347 hg w5 hbox hb; have n0_ := Aside0.mk (below_step (by repeat (first | (with_reducible first | exact HB.out | apply below_alloc | apply pw_below_drewN | apply below_drew1) | exact HB.out)) hb); have n1_ := Aside0.mk (hbox); have n2_ := Aside0.mk ((by rw [hg]; exact (below_size (by repeat (first | (with_reducible first | exact HB.out | apply below_alloc | apply pw_below_drewN | apply below_drew1) | exact HB.out))) : w.heap.size ≤ gb347)); have n3_ := Aside0.mk ((by rw [hg]; exact (below_size (by repeat (first | (with_reducible first | exact HB.out | apply below_alloc | apply pw_below_drewN | apply below_drew1) | exact HB.out))) : w.heap.size ≤ gb347)); clear HB; have HB := n0_; have BK347 := n1_; have GW347 := n2_; have GE347 := n3_; clear n0_ n1_ n2_ n3_; clear hb hbox hg; have hcz6_0 : w5.cell? ⟨gb347, 0, none⟩ = some (.int .i64 0) := (blk_cell BK347.out 0).trans rfl; have hcz6_1 : w5.cell? ⟨gb347, 1, none⟩ = some (.bool false) := (blk_cell BK347.out 1).trans rfl; have hcz6_2 : w5.cell? ⟨gb347, 2, none⟩ = some (.int .i64 0) := (blk_cell BK347.out 2).trans rfl; have hcz6_3 : w5.cell? ⟨gb347, 3, none⟩ = some (.int .i64 0) := (blk_cell BK347.out 3).trans rfl; have hfz6_0 := blk_frozen BK347.out 0; have hfz6_1 := blk_frozen BK347.out 1; have hfz6_2 := blk_frozen BK347.out 2; have hfz6_3 := blk_frozen BK347.out 3)); go_upto_if 13 with (first | (go_at_call 13; (with_reducible refine (single_Parts.calls a0 t343 t344 t345 t346 _ A2.out (by first | exact HTab.out | exact tab_below HTab.out (by repeat (first | (with_reducible first | exact HB.out | apply below_alloc | apply pw_below_drewN | apply below_drew1) | exact HB.out)))).mono ?_); rintro e w4 ⟨rfl, hb⟩; have n0_ := Aside0.mk (below_step (by repeat (first | (with_reducible first | exact HB.out | apply below_alloc | apply pw_below_drewN | apply below_drew1) | exact HB.out)) hb); clear HB; have HB := n0_; clear n0_; (try clear hb); (try clear hb2); (try clear hk); (try clear hi)) | ((with_reducible refine gate_dst (N := 3) rfl ?_); refine box_event ?hg (N := 3) ?hd (cs := #[.int .i64 0, .bool false, .int .i64 0, .int .i64 0]) (t := 24) ?hr ?_; (case hd => rfl); (case hg => rfl); (case hr => first | (go_simp; done) | (go_simp; rfl)); intro gb347 hg w5 hbox hb; have n0_ := Aside0.mk (below_step (by repeat (first | (with_reducible first | exact HB.out | apply below_alloc | apply pw_below_drewN | apply below_drew1) | exact HB.out)) hb); have n1_ := Aside0.mk (hbox); have n2_ := Aside0.mk ((by rw [hg]; exact (below_size (by repeat (first | (with_reducible first | exact HB.out | apply below_alloc | apply pw_below_drewN | apply below_drew1) | exact HB.out))) : w.heap.size ≤ gb347)); have n3_ := Aside0.mk ((by rw [hg]; exact (below_size (by repeat (first | (with_reducible first | exact HB.out | apply below_alloc | apply pw_below_drewN | apply below_drew1) | exact HB.out))) : w.heap.size ≤ gb347)); clear HB; have HB := n0_; have BK347 := n1_; have GW347 := n2_; have GE347 := n3_; clear n0_ n1_ n2_ n3_; clear hb hbox hg; have hcz6_0 : w5.cell? ⟨gb347, 0, none⟩ = some (.int .i64 0) := (blk_cell BK347.out 0).trans rfl; have hcz6_1 : w5.cell? ⟨gb347, 1, none⟩ = some (.bool false) := (blk_cell BK347.out 1).trans rfl; have hcz6_2 : w5.cell? ⟨gb347, 2, none⟩ = some (.int .i64 0) := (blk_cell BK347.out 2).trans rfl; have hcz6_3 : w5.cell? ⟨gb347, 3, none⟩ = some (.int .i64 0) := (blk_cell BK347.out 3).trans rfl; have hfz6_0 := blk_frozen BK347.out 0; have hfz6_1 := blk_frozen BK347.out 1; have hfz6_2 := blk_frozen BK347.out 2; have hfz6_3 := blk_frozen BK347.out 3)))
  (try simp only [Act.put, List.setIfInBounds_toArray, List.set_cons_zero, List.set_cons_succ])
  go_cut [4] (fun v4 wc => ∃ (kq : Nat) (x4_2 : ByteArray), v4 = .string x4_2 ∧ Aside0 (single_Text.j0 kq x4_2 t343 t344 t345 t346 = some r) ∧ Aside0 (kq ≤ k) ∧ Aside0 (wc.heap[gb347]? = some (.cells #[.int .i64 t343, .bool t344, .int .i64 t345, .int .i64 t346] 24 (0, 0))) ∧ Aside0 (Below w.heap.size w wc))
  case first =>
    have H := HC3.out
    clear HC3
    by_cases c7 : t344 = true
    · subst c7
      have H1 : (single_Text.j0 k (⟨#[45]⟩ : ByteArray) t343 true t345 t346) = some r := by rw [if_pos rfl] at H; exact H
      clear H
      have H := H1
      clear H1
      have H' := Aside0.mk H
      clear H
      go_wp2
      repeat (go_quiet (fail); try go_wp2)
      go_meet
      case rel => exact ⟨_, ((⟨#[45]⟩ : ByteArray)), (by first | rfl | (simp; done) | (simp [*]; done) | (simp [i64_w]; done) | (simp [*, i64_w]; done)), H', ⟨by first | omega | exact Nat.le_refl _⟩, ⟨by (with_reducible repeat (first | refine blk_drewN ?_ _ | refine blk_drew ?_ | refine blk_alloc ?_ _)); refine blk_put (cs := #[.int .i64 t343, .bool true, .int .i64 t345, .int .i64 0]) ?_ 3 _ rfl; (with_reducible repeat (first | refine blk_drewN ?_ _ | refine blk_drew ?_ | refine blk_alloc ?_ _)); refine blk_put (cs := #[.int .i64 t343, .bool true, .int .i64 0, .int .i64 0]) ?_ 2 _ rfl; (with_reducible repeat (first | refine blk_drewN ?_ _ | refine blk_drew ?_ | refine blk_alloc ?_ _)); refine blk_put (cs := #[.int .i64 t343, .bool false, .int .i64 0, .int .i64 0]) ?_ 1 _ rfl; (with_reducible repeat (first | refine blk_drewN ?_ _ | refine blk_drew ?_ | refine blk_alloc ?_ _)); refine blk_put (cs := #[.int .i64 0, .bool false, .int .i64 0, .int .i64 0]) ?_ 0 _ rfl; (with_reducible repeat (first | refine blk_drewN ?_ _ | refine blk_drew ?_ | refine blk_alloc ?_ _)); exact BK347.out⟩, ⟨by repeat (first | (with_reducible first | exact HB.out | apply below_alloc | apply pw_below_drewN | apply below_drew1 | refine below_set ?_ GE347.out) | exact HB.out)⟩⟩
    · replace c7 := Bool.eq_false_iff.mpr c7
      subst c7
      have H1 : (single_Text.j0 k (⟨#[]⟩ : ByteArray) t343 false t345 t346) = some r := by rw [if_neg (show ¬ (false = true) by decide)] at H; exact H
      clear H
      have H := H1
      clear H1
      have H' := Aside0.mk H
      clear H
      go_wp2
      repeat (go_quiet (fail); try go_wp2)
      go_meet
      case rel => exact ⟨_, ((⟨#[]⟩ : ByteArray)), (by first | rfl | (simp; done) | (simp [*]; done) | (simp [i64_w]; done) | (simp [*, i64_w]; done)), H', ⟨by first | omega | exact Nat.le_refl _⟩, ⟨by (with_reducible repeat (first | refine blk_drewN ?_ _ | refine blk_drew ?_ | refine blk_alloc ?_ _)); refine blk_put (cs := #[.int .i64 t343, .bool false, .int .i64 t345, .int .i64 0]) ?_ 3 _ rfl; (with_reducible repeat (first | refine blk_drewN ?_ _ | refine blk_drew ?_ | refine blk_alloc ?_ _)); refine blk_put (cs := #[.int .i64 t343, .bool false, .int .i64 0, .int .i64 0]) ?_ 2 _ rfl; (with_reducible repeat (first | refine blk_drewN ?_ _ | refine blk_drew ?_ | refine blk_alloc ?_ _)); refine blk_put (cs := #[.int .i64 t343, .bool false, .int .i64 0, .int .i64 0]) ?_ 1 _ rfl; (with_reducible repeat (first | refine blk_drewN ?_ _ | refine blk_drew ?_ | refine blk_alloc ?_ _)); refine blk_put (cs := #[.int .i64 0, .bool false, .int .i64 0, .int .i64 0]) ?_ 0 _ rfl; (with_reducible repeat (first | refine blk_drewN ?_ _ | refine blk_drew ?_ | refine blk_alloc ?_ _)); exact BK347.out⟩, ⟨by repeat (first | (with_reducible first | exact HB.out | apply below_alloc | apply pw_below_drewN | apply below_drew1 | refine below_set ?_ GE347.out) | exact HB.out)⟩⟩
  case rest =>
    clear HC3
    try clear p2
    try clear c3
    try clear c7
    try clear hcz6_0
    try clear hcz6_1
    try clear hcz6_2
    try clear hcz6_3
    try clear hfz6_0
    try clear hfz6_1
    try clear hfz6_2
    try clear hfz6_3
    obtain ⟨kq, x4_2, rfl, HA, HJ2, BK347, HB⟩ := hcut
    cases kq with
    | zero => exact absurd HA.out (by simp [single_Text.j0])
    | succ kj2 =>
      have H := HA.out
      clear HA
      simp only [single_Text.j0] at H
      by_cases c8 : t343 = 2
      · rw [if_pos c8] at H
        have c8b0 : (t343 == 2) = true := beq_iff_eq.mpr c8
        have c8b1 : (t343 != 2) = false := bne_eq_false_iff_eq.mpr c8
        clear c8
        obtain rfl := Option.some.inj H
        have hcz9_0 : wc.cell? ⟨gb347, 0, none⟩ = some (.int .i64 t343) := (blk_cell BK347.out 0).trans rfl
        have hcz9_1 : wc.cell? ⟨gb347, 1, none⟩ = some (.bool t344) := (blk_cell BK347.out 1).trans rfl
        have hcz9_2 : wc.cell? ⟨gb347, 2, none⟩ = some (.int .i64 t345) := (blk_cell BK347.out 2).trans rfl
        have hcz9_3 : wc.cell? ⟨gb347, 3, none⟩ = some (.int .i64 t346) := (blk_cell BK347.out 3).trans rfl
        have hfz9_0 := blk_frozen BK347.out 0
        have hfz9_1 := blk_frozen BK347.out 1
        have hfz9_2 := blk_frozen BK347.out 2
        have hfz9_3 := blk_frozen BK347.out 3
        go_wp2
        repeat (go_quiet (fail); try go_wp2)
        go_ret
        exact ⟨by first | rfl | (simp [errW_none, errW_some] <;> rfl) | (simp [*, errW_none, errW_some] <;> rfl), by repeat (first | (with_reducible first | exact HB.out | apply below_alloc | apply pw_below_drewN | apply below_drew1 | refine below_set ?_ GE347.out) | exact HB.out)⟩
      · rw [if_neg c8] at H
        have c8b0 : (t343 == 2) = false := beq_eq_false_iff_ne.mpr c8
        have c8b1 : (t343 != 2) = true := bne_iff_ne.mpr c8
        by_cases c10 : t343 = 1
        · rw [if_pos c10] at H
          have c10b0 : (t343 == 1) = true := beq_iff_eq.mpr c10
          have c10b1 : (t343 != 1) = false := bne_eq_false_iff_eq.mpr c10
          clear c10
          by_cases c11 : x4_2.size + 8 ≤ 9223372036854775807
          · rw [if_pos c11] at H
            have c11b0 := eq_true c11
            have c11b1 : decide (x4_2.size + 8 ≤ 9223372036854775807) = true := decide_eq_true c11
            try have c11b2 : (9223372036854775807 < x4_2.size + 8) = False := eq_false (Nat.not_lt.2 c11)
            obtain rfl := Option.some.inj H
            have hcz12_0 : wc.cell? ⟨gb347, 0, none⟩ = some (.int .i64 t343) := (blk_cell BK347.out 0).trans rfl
            have hcz12_1 : wc.cell? ⟨gb347, 1, none⟩ = some (.bool t344) := (blk_cell BK347.out 1).trans rfl
            have hcz12_2 : wc.cell? ⟨gb347, 2, none⟩ = some (.int .i64 t345) := (blk_cell BK347.out 2).trans rfl
            have hcz12_3 : wc.cell? ⟨gb347, 3, none⟩ = some (.int .i64 t346) := (blk_cell BK347.out 3).trans rfl
            have hfz12_0 := blk_frozen BK347.out 0
            have hfz12_1 := blk_frozen BK347.out 1
            have hfz12_2 := blk_frozen BK347.out 2
            have hfz12_3 := blk_frozen BK347.out 3
            go_wp2
            repeat (go_quiet (fail); try go_wp2)
            go_ret
            exact ⟨by first | rfl | (simp [errW_none, errW_some] <;> rfl) | (simp [*, errW_none, errW_some] <;> rfl), by repeat (first | (with_reducible first | exact HB.out | apply below_alloc | apply pw_below_drewN | apply below_drew1 | refine below_set ?_ GE347.out) | exact HB.out)⟩
          · rw [if_neg c11] at H
            exact absurd H (by simp)
        · rw [if_neg c10] at H
          have c10b0 : (t343 == 1) = false := beq_eq_false_iff_ne.mpr c10
          have c10b1 : (t343 != 1) = true := bne_iff_ne.mpr c10
          obtain ⟨y348, hy348⟩ : ∃ y_ : List Int, y_ = (([1] : List Int)) := ⟨_, rfl⟩
          replace H : ((single_long_times.f kj2 y348 ((t345) % 4294967296)).bind fun t351 => (single_Text.l0 kj2 x4_2 t351 t346 0 t343 t344 t345 t346)) = some r := by first | (rw [hy348]; with_reducible exact H) | (have H2_ := (Option.bind_some _ _).symm.trans H; rw [hy348]; with_reducible exact H2_) | (have H2_ := (Option.bind_some _ _).symm.trans H; with_reducible exact H2_) | with_reducible exact H | (rw [hy348]; exact H) | exact H
          have Ny348 := Aside0.mk hy348
          clear hy348
          replace H := Option.bind_eq_some_iff.mp H
          obtain ⟨t351, A130, H⟩ := H
          replace H : (single_Text.l0 kj2 x4_2 t351 t346 0 t343 t344 t345 t346) = some r := H
          have A13 := Aside0.mk A130
          clear A130
          have H' := Aside0.mk H
          clear H
          have hcz14_0 : wc.cell? ⟨gb347, 0, none⟩ = some (.int .i64 t343) := (blk_cell BK347.out 0).trans rfl
          have hcz14_1 : wc.cell? ⟨gb347, 1, none⟩ = some (.bool t344) := (blk_cell BK347.out 1).trans rfl
          have hcz14_2 : wc.cell? ⟨gb347, 2, none⟩ = some (.int .i64 t345) := (blk_cell BK347.out 2).trans rfl
          have hcz14_3 : wc.cell? ⟨gb347, 3, none⟩ = some (.int .i64 t346) := (blk_cell BK347.out 3).trans rfl
          have hfz14_0 := blk_frozen BK347.out 0
          have hfz14_1 := blk_frozen BK347.out 1
          have hfz14_2 := blk_frozen BK347.out 2
          have hfz14_3 := blk_frozen BK347.out 3
          go_wp2_with (first | ((with_reducible refine gate_dst (N := 22) rfl ?_); refine Kd.R_lit (Kd.int .u32) _ 22 ?hg (N := 22) ?hd (xs := ([1] : List Int)) (inner := [.int .u32 1]) (ok := fun _ => True) (okp := fun _ => True) ?hr ?hp (fun _ hk => hk) trivial (Below.refl _ _) (Nat.le_refl _) (by simp) ?_; (case hd => rfl); (case hg => rfl); (case hr => first | (go_simp; done) | (go_simp; rfl)); (case hp => exact (Reps.one (show Kd.M (Kd.int .u32) _ _ _ 1 [.int .u32 1] from rfl) (Reps.none _ _))); intro v349 w15 ho16 hb hg_ hnew_; clear hg_ hnew_; (first | rw [← Ny348.out] at ho16 | (simp only [Int.reduceToNat] at ho16; rw [← Ny348.out] at ho16)); have n0_ := Aside0.mk (Kd.R_lower ho16 (below_size (by repeat (first | (with_reducible first | exact HB.out | apply below_alloc | apply pw_below_drewN | apply below_drew1 | refine below_set ?_ GE347.out) | exact HB.out)))); have n1_ := Aside0.mk (blk_below (g := gb347) (o := .cells #[.int .i64 t343, .bool t344, .int .i64 t345, .int .i64 t346] 24 (0, 0)) (by (with_reducible repeat (first | refine blk_drewN ?_ _ | refine blk_drew ?_ | refine blk_alloc ?_ _)); exact BK347.out) hb); have n2_ := Aside0.mk (below_step (by repeat (first | (with_reducible first | exact HB.out | apply below_alloc | apply pw_below_drewN | apply below_drew1 | refine below_set ?_ GE347.out) | exact HB.out)) hb); clear BK347; clear HB; have HO350 := n0_; have BK347 := n1_; have HB := n2_; clear n0_ n1_ n2_; clear hb ho16; have hcz17_0 : w15.cell? ⟨gb347, 0, none⟩ = some (.int .i64 t343) := (blk_cell BK347.out 0).trans rfl; have hcz17_1 : w15.cell? ⟨gb347, 1, none⟩ = some (.bool t344) := (blk_cell BK347.out 1).trans rfl; have hcz17_2 : w15.cell? ⟨gb347, 2, none⟩ = some (.int .i64 t345) := (blk_cell BK347.out 2).trans rfl; have hcz17_3 : w15.cell? ⟨gb347, 3, none⟩ = some (.int .i64 t346) := (blk_cell BK347.out 3).trans rfl; have hfz17_0 := blk_frozen BK347.out 0; have hfz17_1 := blk_frozen BK347.out 1; have hfz17_2 := blk_frozen BK347.out 2; have hfz17_3 := blk_frozen BK347.out 3; obtain ⟨Ao18, co18, eo18⟩ := Kd.R_slice HO350.out; subst eo18) | (go_at_call 52; (with_reducible refine (single_long_times.calls kj2 _ _ y348 ((t345) % 4294967296) t351 _ ?side1 ?side2 A13.out).mono ?_); (case side1 => repeat (first | exact (Kd.R_reads' HO350.out).2.2 | (with_reducible refine Kd.C_alloc ?_ _) | (with_reducible refine Kd.C_drewN ?_ _) | (with_reducible refine Kd.C_drew ?_))); (case side2 => exact (Kd.R_reads' HO350.out).2.1); rintro e w19 ⟨v352, rfl, ho0, hb⟩; have n0_ := Aside0.mk (Kd.R_elder' (by (with_reducible repeat (first | apply Kd.R_alloc | apply Kd.R_drewN | apply Kd.R_drew)); exact HO350.out) (Kd.R_base ho0) hb); have n1_ := Aside0.mk (Kd.R_lower (Kd.R_new' ho0 (Kd.R_lt (by (with_reducible repeat (first | apply Kd.R_alloc | apply Kd.R_drewN | apply Kd.R_drew)); exact HO350.out))) (below_size (by repeat (first | (with_reducible first | exact HB.out | apply below_alloc | apply pw_below_drewN | apply below_drew1 | refine below_set ?_ GE347.out) | exact HB.out)))); have n2_ := Aside0.mk (blk_below (g := gb347) (o := .cells #[.int .i64 t343, .bool t344, .int .i64 t345, .int .i64 t346] 24 (0, 0)) (by (with_reducible repeat (first | refine blk_drewN ?_ _ | refine blk_drew ?_ | refine blk_alloc ?_ _)); exact BK347.out) hb); have n3_ := Aside0.mk (below_step (by repeat (first | (with_reducible first | exact HB.out | apply below_alloc | apply pw_below_drewN | apply below_drew1 | refine below_set ?_ GE347.out) | exact HB.out)) hb); clear HO350; clear BK347; clear HB; have HO350 := n0_; have HO353 := n1_; have BK347 := n2_; have HB := n3_; clear n0_ n1_ n2_ n3_; (try clear hb); (try clear hb2); (try clear hk); (try clear hi); (try clear ho0); have hcz20_0 : w19.cell? ⟨gb347, 0, none⟩ = some (.int .i64 t343) := (blk_cell BK347.out 0).trans rfl; have hcz20_1 : w19.cell? ⟨gb347, 1, none⟩ = some (.bool t344) := (blk_cell BK347.out 1).trans rfl; have hcz20_2 : w19.cell? ⟨gb347, 2, none⟩ = some (.int .i64 t345) := (blk_cell BK347.out 2).trans rfl; have hcz20_3 : w19.cell? ⟨gb347, 3, none⟩ = some (.int .i64 t346) := (blk_cell BK347.out 3).trans rfl; have hfz20_0 := blk_frozen BK347.out 0; have hfz20_1 := blk_frozen BK347.out 1; have hfz20_2 := blk_frozen BK347.out 2; have hfz20_3 := blk_frozen BK347.out 3))
          repeat (go_quiet (first | ((with_reducible refine gate_dst (N := 22) rfl ?_); refine Kd.R_lit (Kd.int .u32) _ 22 ?hg (N := 22) ?hd (xs := ([1] : List Int)) (inner := [.int .u32 1]) (ok := fun _ => True) (okp := fun _ => True) ?hr ?hp (fun _ hk => hk) trivial (Below.refl _ _) (Nat.le_refl _) (by simp) ?_; (case hd => rfl); (case hg => rfl); (case hr => first | (go_simp; done) | (go_simp; rfl)); (case hp => exact (Reps.one (show Kd.M (Kd.int .u32) _ _ _ 1 [.int .u32 1] from rfl) (Reps.none _ _))); intro v349 w15 ho16 hb hg_ hnew_; clear hg_ hnew_; (first | rw [← Ny348.out] at ho16 | (simp only [Int.reduceToNat] at ho16; rw [← Ny348.out] at ho16)); have n0_ := Aside0.mk (Kd.R_lower ho16 (below_size (by repeat (first | (with_reducible first | exact HB.out | apply below_alloc | apply pw_below_drewN | apply below_drew1 | refine below_set ?_ GE347.out) | exact HB.out)))); have n1_ := Aside0.mk (blk_below (g := gb347) (o := .cells #[.int .i64 t343, .bool t344, .int .i64 t345, .int .i64 t346] 24 (0, 0)) (by (with_reducible repeat (first | refine blk_drewN ?_ _ | refine blk_drew ?_ | refine blk_alloc ?_ _)); exact BK347.out) hb); have n2_ := Aside0.mk (below_step (by repeat (first | (with_reducible first | exact HB.out | apply below_alloc | apply pw_below_drewN | apply below_drew1 | refine below_set ?_ GE347.out) | exact HB.out)) hb); clear BK347; clear HB; have HO350 := n0_; have BK347 := n1_; have HB := n2_; clear n0_ n1_ n2_; clear hb ho16; have hcz17_0 : w15.cell? ⟨gb347, 0, none⟩ = some (.int .i64 t343) := (blk_cell BK347.out 0).trans rfl; have hcz17_1 : w15.cell? ⟨gb347, 1, none⟩ = some (.bool t344) := (blk_cell BK347.out 1).trans rfl; have hcz17_2 : w15.cell? ⟨gb347, 2, none⟩ = some (.int .i64 t345) := (blk_cell BK347.out 2).trans rfl; have hcz17_3 : w15.cell? ⟨gb347, 3, none⟩ = some (.int .i64 t346) := (blk_cell BK347.out 3).trans rfl; have hfz17_0 := blk_frozen BK347.out 0; have hfz17_1 := blk_frozen BK347.out 1; have hfz17_2 := blk_frozen BK347.out 2; have hfz17_3 := blk_frozen BK347.out 3; obtain ⟨Ao18, co18, eo18⟩ := Kd.R_slice HO350.out; subst eo18) | (go_at_call 52; (with_reducible refine (single_long_times.calls kj2 _ _ y348 ((t345) % 4294967296) t351 _ ?side1 ?side2 A13.out).mono ?_); (case side1 => repeat (first | exact (Kd.R_reads' HO350.out).2.2 | (with_reducible refine Kd.C_alloc ?_ _) | (with_reducible refine Kd.C_drewN ?_ _) | (with_reducible refine Kd.C_drew ?_))); (case side2 => exact (Kd.R_reads' HO350.out).2.1); rintro e w19 ⟨v352, rfl, ho0, hb⟩; have n0_ := Aside0.mk (Kd.R_elder' (by (with_reducible repeat (first | apply Kd.R_alloc | apply Kd.R_drewN | apply Kd.R_drew)); exact HO350.out) (Kd.R_base ho0) hb); have n1_ := Aside0.mk (Kd.R_lower (Kd.R_new' ho0 (Kd.R_lt (by (with_reducible repeat (first | apply Kd.R_alloc | apply Kd.R_drewN | apply Kd.R_drew)); exact HO350.out))) (below_size (by repeat (first | (with_reducible first | exact HB.out | apply below_alloc | apply pw_below_drewN | apply below_drew1 | refine below_set ?_ GE347.out) | exact HB.out)))); have n2_ := Aside0.mk (blk_below (g := gb347) (o := .cells #[.int .i64 t343, .bool t344, .int .i64 t345, .int .i64 t346] 24 (0, 0)) (by (with_reducible repeat (first | refine blk_drewN ?_ _ | refine blk_drew ?_ | refine blk_alloc ?_ _)); exact BK347.out) hb); have n3_ := Aside0.mk (below_step (by repeat (first | (with_reducible first | exact HB.out | apply below_alloc | apply pw_below_drewN | apply below_drew1 | refine below_set ?_ GE347.out) | exact HB.out)) hb); clear HO350; clear BK347; clear HB; have HO350 := n0_; have HO353 := n1_; have BK347 := n2_; have HB := n3_; clear n0_ n1_ n2_ n3_; (try clear hb); (try clear hb2); (try clear hk); (try clear hi); (try clear ho0); have hcz20_0 : w19.cell? ⟨gb347, 0, none⟩ = some (.int .i64 t343) := (blk_cell BK347.out 0).trans rfl; have hcz20_1 : w19.cell? ⟨gb347, 1, none⟩ = some (.bool t344) := (blk_cell BK347.out 1).trans rfl; have hcz20_2 : w19.cell? ⟨gb347, 2, none⟩ = some (.int .i64 t345) := (blk_cell BK347.out 2).trans rfl; have hcz20_3 : w19.cell? ⟨gb347, 3, none⟩ = some (.int .i64 t346) := (blk_cell BK347.out 3).trans rfl; have hfz20_0 := blk_frozen BK347.out 0; have hfz20_1 := blk_frozen BK347.out 1; have hfz20_2 := blk_frozen BK347.out 2; have hfz20_3 := blk_frozen BK347.out 3)); try go_wp2_with (first | ((with_reducible refine gate_dst (N := 22) rfl ?_); refine Kd.R_lit (Kd.int .u32) _ 22 ?hg (N := 22) ?hd (xs := ([1] : List Int)) (inner := [.int .u32 1]) (ok := fun _ => True) (okp := fun _ => True) ?hr ?hp (fun _ hk => hk) trivial (Below.refl _ _) (Nat.le_refl _) (by simp) ?_; (case hd => rfl); (case hg => rfl); (case hr => first | (go_simp; done) | (go_simp; rfl)); (case hp => exact (Reps.one (show Kd.M (Kd.int .u32) _ _ _ 1 [.int .u32 1] from rfl) (Reps.none _ _))); intro v349 w15 ho16 hb hg_ hnew_; clear hg_ hnew_; (first | rw [← Ny348.out] at ho16 | (simp only [Int.reduceToNat] at ho16; rw [← Ny348.out] at ho16)); have n0_ := Aside0.mk (Kd.R_lower ho16 (below_size (by repeat (first | (with_reducible first | exact HB.out | apply below_alloc | apply pw_below_drewN | apply below_drew1 | refine below_set ?_ GE347.out) | exact HB.out)))); have n1_ := Aside0.mk (blk_below (g := gb347) (o := .cells #[.int .i64 t343, .bool t344, .int .i64 t345, .int .i64 t346] 24 (0, 0)) (by (with_reducible repeat (first | refine blk_drewN ?_ _ | refine blk_drew ?_ | refine blk_alloc ?_ _)); exact BK347.out) hb); have n2_ := Aside0.mk (below_step (by repeat (first | (with_reducible first | exact HB.out | apply below_alloc | apply pw_below_drewN | apply below_drew1 | refine below_set ?_ GE347.out) | exact HB.out)) hb); clear BK347; clear HB; have HO350 := n0_; have BK347 := n1_; have HB := n2_; clear n0_ n1_ n2_; clear hb ho16; have hcz17_0 : w15.cell? ⟨gb347, 0, none⟩ = some (.int .i64 t343) := (blk_cell BK347.out 0).trans rfl; have hcz17_1 : w15.cell? ⟨gb347, 1, none⟩ = some (.bool t344) := (blk_cell BK347.out 1).trans rfl; have hcz17_2 : w15.cell? ⟨gb347, 2, none⟩ = some (.int .i64 t345) := (blk_cell BK347.out 2).trans rfl; have hcz17_3 : w15.cell? ⟨gb347, 3, none⟩ = some (.int .i64 t346) := (blk_cell BK347.out 3).trans rfl; have hfz17_0 := blk_frozen BK347.out 0; have hfz17_1 := blk_frozen BK347.out 1; have hfz17_2 := blk_frozen BK347.out 2; have hfz17_3 := blk_frozen BK347.out 3; obtain ⟨Ao18, co18, eo18⟩ := Kd.R_slice HO350.out; subst eo18) | (go_at_call 52; (with_reducible refine (single_long_times.calls kj2 _ _ y348 ((t345) % 4294967296) t351 _ ?side1 ?side2 A13.out).mono ?_); (case side1 => repeat (first | exact (Kd.R_reads' HO350.out).2.2 | (with_reducible refine Kd.C_alloc ?_ _) | (with_reducible refine Kd.C_drewN ?_ _) | (with_reducible refine Kd.C_drew ?_))); (case side2 => exact (Kd.R_reads' HO350.out).2.1); rintro e w19 ⟨v352, rfl, ho0, hb⟩; have n0_ := Aside0.mk (Kd.R_elder' (by (with_reducible repeat (first | apply Kd.R_alloc | apply Kd.R_drewN | apply Kd.R_drew)); exact HO350.out) (Kd.R_base ho0) hb); have n1_ := Aside0.mk (Kd.R_lower (Kd.R_new' ho0 (Kd.R_lt (by (with_reducible repeat (first | apply Kd.R_alloc | apply Kd.R_drewN | apply Kd.R_drew)); exact HO350.out))) (below_size (by repeat (first | (with_reducible first | exact HB.out | apply below_alloc | apply pw_below_drewN | apply below_drew1 | refine below_set ?_ GE347.out) | exact HB.out)))); have n2_ := Aside0.mk (blk_below (g := gb347) (o := .cells #[.int .i64 t343, .bool t344, .int .i64 t345, .int .i64 t346] 24 (0, 0)) (by (with_reducible repeat (first | refine blk_drewN ?_ _ | refine blk_drew ?_ | refine blk_alloc ?_ _)); exact BK347.out) hb); have n3_ := Aside0.mk (below_step (by repeat (first | (with_reducible first | exact HB.out | apply below_alloc | apply pw_below_drewN | apply below_drew1 | refine below_set ?_ GE347.out) | exact HB.out)) hb); clear HO350; clear BK347; clear HB; have HO350 := n0_; have HO353 := n1_; have BK347 := n2_; have HB := n3_; clear n0_ n1_ n2_ n3_; (try clear hb); (try clear hb2); (try clear hk); (try clear hi); (try clear ho0); have hcz20_0 : w19.cell? ⟨gb347, 0, none⟩ = some (.int .i64 t343) := (blk_cell BK347.out 0).trans rfl; have hcz20_1 : w19.cell? ⟨gb347, 1, none⟩ = some (.bool t344) := (blk_cell BK347.out 1).trans rfl; have hcz20_2 : w19.cell? ⟨gb347, 2, none⟩ = some (.int .i64 t345) := (blk_cell BK347.out 2).trans rfl; have hcz20_3 : w19.cell? ⟨gb347, 3, none⟩ = some (.int .i64 t346) := (blk_cell BK347.out 3).trans rfl; have hfz20_0 := blk_frozen BK347.out 0; have hfz20_1 := blk_frozen BK347.out 1; have hfz20_2 := blk_frozen BK347.out 2; have hfz20_3 := blk_frozen BK347.out 3)))
          go_loopg [5, 29] kj2 (fun kq v5 v29 w' => ∃ (x5_2 : List Int) (x29_2 : Int), v29 = .int .i64 x29_2 ∧ Aside0 (single_Text.l0 kq x4_2 x5_2 t346 x29_2 t343 t344 t345 t346 = some r) ∧ Aside0 (kq ≤ kj2) ∧ Aside0 (Kd.R (Kd.int .u32) 22 w' w.heap.size (fun _ => True) v5 x5_2) ∧ Aside0 (w'.heap[gb347]? = some (.cells #[.int .i64 t343, .bool t344, .int .i64 t345, .int .i64 t346] 24 (0, 0))) ∧ Aside0 (Below w.heap.size w w'))
          case atStart => exact ⟨(t351), (0), (by first | rfl | (simp; done) | (simp [*]; done) | (simp [i64_w]; done) | (simp [*, i64_w]; done)), H', ⟨Nat.le_refl _⟩, ⟨by (with_reducible repeat (first | apply Kd.R_alloc | apply Kd.R_drewN | apply Kd.R_drew)); exact Kd.R_mono HO353.out (fun _ hk => trivial)⟩, ⟨by (with_reducible repeat (first | refine blk_drewN ?_ _ | refine blk_drew ?_ | refine blk_alloc ?_ _)); exact BK347.out⟩, ⟨by repeat (first | (with_reducible first | exact HB.out | apply below_alloc | apply pw_below_drewN | apply below_drew1 | refine below_set ?_ GE347.out) | exact HB.out)⟩⟩
          case round =>
            clear H'
            try clear c1
            try clear p2
            try clear c3
            try clear c7
            try clear c8
            try clear c8b0
            try clear c8b1
            try clear c10
            try clear c10b0
            try clear c10b1
            try clear c11
            try clear c11b0
            try clear c11b1
            try clear c11b2
            try clear hcz12_0
            try clear hcz12_1
            try clear hcz12_2
            try clear hcz12_3
            try clear hcz14_0
            try clear hcz14_1
            try clear hcz14_2
            try clear hcz14_3
            try clear hcz17_0
            try clear hcz17_1
            try clear hcz17_2
            try clear hcz17_3
            try clear hcz20_0
            try clear hcz20_1
            try clear hcz20_2
            try clear hcz20_3
            try clear hcz6_0
            try clear hcz6_1
            try clear hcz6_2
            try clear hcz6_3
            try clear hcz9_0
            try clear hcz9_1
            try clear hcz9_2
            try clear hcz9_3
            try clear hfz12_0
            try clear hfz12_1
            try clear hfz12_2
            try clear hfz12_3
            try clear hfz14_0
            try clear hfz14_1
            try clear hfz14_2
            try clear hfz14_3
            try clear hfz17_0
            try clear hfz17_1
            try clear hfz17_2
            try clear hfz17_3
            try clear hfz20_0
            try clear hfz20_1
            try clear hfz20_2
            try clear hfz20_3
            try clear hfz6_0
            try clear hfz6_1
            try clear hfz6_2
            try clear hfz6_3
            try clear hfz9_0
            try clear hfz9_1
            try clear hfz9_2
            try clear hfz9_3
            try clear p2
            obtain ⟨x5_2, x29_2, rfl, HA, HK2, HO_5, BK347, HB⟩ := hrel
            cases gk with
            | zero => exact absurd HA.out (by simp [single_Text.l0])
            | succ k2 =>
              have H := HA.out
              clear HA
              simp only [single_Text.l0] at H
              by_cases c21 : x29_2 < t346
              · rw [if_pos c21] at H
                have c21b0 : decide (x29_2 < t346) = true := decide_eq_true c21
                clear c21
                replace H := Option.bind_eq_some_iff.mp H
                obtain ⟨t354, A220, H⟩ := H
                replace H : (single_Text.l0 k2 x4_2 t354 t346 (wrap64 (x29_2 + 1)) t343 t344 t345 t346) = some r := H
                have A22 := Aside0.mk A220
                clear A220
                have H' := Aside0.mk H
                clear H
                obtain ⟨Ao23, co23, eo23⟩ := Kd.R_slice HO_5.out
                subst eo23
                go_wp2_with (first | (go_at_call 52; (with_reducible refine (single_long_times.calls k2 _ _ x5_2 2 t354 _ ?side1 ?side2 A22.out).mono ?_); (case side1 => repeat (first | exact (Kd.R_reads' HO_5.out).2.2 | (with_reducible refine Kd.C_alloc ?_ _) | (with_reducible refine Kd.C_drewN ?_ _) | (with_reducible refine Kd.C_drew ?_))); (case side2 => exact (Kd.R_reads' HO_5.out).2.1); rintro e w24 ⟨v355, rfl, ho0, hb⟩; have n0_ := Aside0.mk (Kd.R_elder' (by (with_reducible repeat (first | apply Kd.R_alloc | apply Kd.R_drewN | apply Kd.R_drew)); exact HO_5.out) (Kd.R_base ho0) hb); have n1_ := Aside0.mk (Kd.R_lower (Kd.R_new' ho0 (Kd.R_lt (by (with_reducible repeat (first | apply Kd.R_alloc | apply Kd.R_drewN | apply Kd.R_drew)); exact HO_5.out))) (below_size (by repeat (first | (with_reducible first | exact HB.out | apply below_alloc | apply pw_below_drewN | apply below_drew1 | refine below_set ?_ GE347.out) | exact HB.out)))); have n2_ := Aside0.mk (blk_below (g := gb347) (o := .cells #[.int .i64 t343, .bool t344, .int .i64 t345, .int .i64 t346] 24 (0, 0)) (by (with_reducible repeat (first | refine blk_drewN ?_ _ | refine blk_drew ?_ | refine blk_alloc ?_ _)); exact BK347.out) hb); have n3_ := Aside0.mk (below_step (by repeat (first | (with_reducible first | exact HB.out | apply below_alloc | apply pw_below_drewN | apply below_drew1 | refine below_set ?_ GE347.out) | exact HB.out)) hb); clear HO_5; clear BK347; clear HB; have HO_5 := n0_; have HO356 := n1_; have BK347 := n2_; have HB := n3_; clear n0_ n1_ n2_ n3_; (try clear hb); (try clear hb2); (try clear hk); (try clear hi); (try clear ho0)))
                repeat (go_quiet (first | (go_at_call 52; (with_reducible refine (single_long_times.calls k2 _ _ x5_2 2 t354 _ ?side1 ?side2 A22.out).mono ?_); (case side1 => repeat (first | exact (Kd.R_reads' HO_5.out).2.2 | (with_reducible refine Kd.C_alloc ?_ _) | (with_reducible refine Kd.C_drewN ?_ _) | (with_reducible refine Kd.C_drew ?_))); (case side2 => exact (Kd.R_reads' HO_5.out).2.1); rintro e w24 ⟨v355, rfl, ho0, hb⟩; have n0_ := Aside0.mk (Kd.R_elder' (by (with_reducible repeat (first | apply Kd.R_alloc | apply Kd.R_drewN | apply Kd.R_drew)); exact HO_5.out) (Kd.R_base ho0) hb); have n1_ := Aside0.mk (Kd.R_lower (Kd.R_new' ho0 (Kd.R_lt (by (with_reducible repeat (first | apply Kd.R_alloc | apply Kd.R_drewN | apply Kd.R_drew)); exact HO_5.out))) (below_size (by repeat (first | (with_reducible first | exact HB.out | apply below_alloc | apply pw_below_drewN | apply below_drew1 | refine below_set ?_ GE347.out) | exact HB.out)))); have n2_ := Aside0.mk (blk_below (g := gb347) (o := .cells #[.int .i64 t343, .bool t344, .int .i64 t345, .int .i64 t346] 24 (0, 0)) (by (with_reducible repeat (first | refine blk_drewN ?_ _ | refine blk_drew ?_ | refine blk_alloc ?_ _)); exact BK347.out) hb); have n3_ := Aside0.mk (below_step (by repeat (first | (with_reducible first | exact HB.out | apply below_alloc | apply pw_below_drewN | apply below_drew1 | refine below_set ?_ GE347.out) | exact HB.out)) hb); clear HO_5; clear BK347; clear HB; have HO_5 := n0_; have HO356 := n1_; have BK347 := n2_; have HB := n3_; clear n0_ n1_ n2_ n3_; (try clear hb); (try clear hb2); (try clear hk); (try clear hi); (try clear ho0))); try go_wp2_with (first | (go_at_call 52; (with_reducible refine (single_long_times.calls k2 _ _ x5_2 2 t354 _ ?side1 ?side2 A22.out).mono ?_); (case side1 => repeat (first | exact (Kd.R_reads' HO_5.out).2.2 | (with_reducible refine Kd.C_alloc ?_ _) | (with_reducible refine Kd.C_drewN ?_ _) | (with_reducible refine Kd.C_drew ?_))); (case side2 => exact (Kd.R_reads' HO_5.out).2.1); rintro e w24 ⟨v355, rfl, ho0, hb⟩; have n0_ := Aside0.mk (Kd.R_elder' (by (with_reducible repeat (first | apply Kd.R_alloc | apply Kd.R_drewN | apply Kd.R_drew)); exact HO_5.out) (Kd.R_base ho0) hb); have n1_ := Aside0.mk (Kd.R_lower (Kd.R_new' ho0 (Kd.R_lt (by (with_reducible repeat (first | apply Kd.R_alloc | apply Kd.R_drewN | apply Kd.R_drew)); exact HO_5.out))) (below_size (by repeat (first | (with_reducible first | exact HB.out | apply below_alloc | apply pw_below_drewN | apply below_drew1 | refine below_set ?_ GE347.out) | exact HB.out)))); have n2_ := Aside0.mk (blk_below (g := gb347) (o := .cells #[.int .i64 t343, .bool t344, .int .i64 t345, .int .i64 t346] 24 (0, 0)) (by (with_reducible repeat (first | refine blk_drewN ?_ _ | refine blk_drew ?_ | refine blk_alloc ?_ _)); exact BK347.out) hb); have n3_ := Aside0.mk (below_step (by repeat (first | (with_reducible first | exact HB.out | apply below_alloc | apply pw_below_drewN | apply below_drew1 | refine below_set ?_ GE347.out) | exact HB.out)) hb); clear HO_5; clear BK347; clear HB; have HO_5 := n0_; have HO356 := n1_; have BK347 := n2_; have HB := n3_; clear n0_ n1_ n2_ n3_; (try clear hb); (try clear hb2); (try clear hk); (try clear hi); (try clear ho0))))
                go_roundg k2
                case measure => have := HJ2.out; have := HK2.out; omega
                case rel => exact ⟨(t354), (wrap64 (x29_2 + 1)), (by first | rfl | (simp; done) | (simp [*]; done) | (simp [i64_w]; done) | (simp [*, i64_w]; done)), H', ⟨by have := HJ2.out; have := HK2.out; omega⟩, ⟨by (with_reducible repeat (first | apply Kd.R_alloc | apply Kd.R_drewN | apply Kd.R_drew)); exact Kd.R_mono HO356.out (fun _ hk => trivial)⟩, ⟨by (with_reducible repeat (first | refine blk_drewN ?_ _ | refine blk_drew ?_ | refine blk_alloc ?_ _)); exact BK347.out⟩, ⟨by repeat (first | (with_reducible first | exact HB.out | apply below_alloc | apply pw_below_drewN | apply below_drew1 | refine below_set ?_ GE347.out) | exact HB.out)⟩⟩
              · rw [if_neg c21] at H
                have c21b0 : decide (x29_2 < t346) = false := decide_eq_false c21
                clear c21
                by_cases c25 : t346 ≥ 0
                · rw [if_pos c25] at H
                  have c25b0 : decide (0 ≤ t346) = true := decide_eq_true c25
                  clear c25
                  replace H := Option.bind_eq_some_iff.mp H
                  obtain ⟨t357, A260, H⟩ := H
                  replace H : (if x4_2.size + t357.size ≤ 9223372036854775807 then (some (x4_2 ++ t357)) else (none)) = some r := H
                  have A26 := Aside0.mk A260
                  clear A260
                  by_cases c27 : x4_2.size + t357.size ≤ 9223372036854775807
                  · rw [if_pos c27] at H
                    have c27b0 := eq_true c27
                    have c27b1 : decide (x4_2.size + t357.size ≤ 9223372036854775807) = true := decide_eq_true c27
                    try have c27b2 : (9223372036854775807 < x4_2.size + t357.size) = False := eq_false (Nat.not_lt.2 c27)
                    obtain rfl := Option.some.inj H
                    have hcz28_0 : wr.cell? ⟨gb347, 0, none⟩ = some (.int .i64 t343) := (blk_cell BK347.out 0).trans rfl
                    have hcz28_1 : wr.cell? ⟨gb347, 1, none⟩ = some (.bool t344) := (blk_cell BK347.out 1).trans rfl
                    have hcz28_2 : wr.cell? ⟨gb347, 2, none⟩ = some (.int .i64 t345) := (blk_cell BK347.out 2).trans rfl
                    have hcz28_3 : wr.cell? ⟨gb347, 3, none⟩ = some (.int .i64 t346) := (blk_cell BK347.out 3).trans rfl
                    have hfz28_0 := blk_frozen BK347.out 0
                    have hfz28_1 := blk_frozen BK347.out 1
                    have hfz28_2 := blk_frozen BK347.out 2
                    have hfz28_3 := blk_frozen BK347.out 3
                    obtain ⟨Ao29, co29, eo29⟩ := Kd.R_slice HO_5.out
                    subst eo29
                    go_wp2_with (first | (go_at_call 53; (with_reducible refine (single_long_digits.calls k2 _ _ x5_2 t357 _ ?side1 ?side2 A26.out).mono ?_); (case side1 => repeat (first | exact (Kd.R_reads' HO_5.out).2.2 | (with_reducible refine Kd.C_alloc ?_ _) | (with_reducible refine Kd.C_drewN ?_ _) | (with_reducible refine Kd.C_drew ?_))); (case side2 => exact (Kd.R_reads' HO_5.out).2.1); rintro e w30 ⟨rfl, hb⟩; have n0_ := Aside0.mk (Kd.R_below (by (with_reducible repeat (first | apply Kd.R_alloc | apply Kd.R_drewN | apply Kd.R_drew)); exact HO_5.out) hb); have n1_ := Aside0.mk (blk_below (g := gb347) (o := .cells #[.int .i64 t343, .bool t344, .int .i64 t345, .int .i64 t346] 24 (0, 0)) (by (with_reducible repeat (first | refine blk_drewN ?_ _ | refine blk_drew ?_ | refine blk_alloc ?_ _)); exact BK347.out) hb); have n2_ := Aside0.mk (below_step (by repeat (first | (with_reducible first | exact HB.out | apply below_alloc | apply pw_below_drewN | apply below_drew1 | refine below_set ?_ GE347.out) | exact HB.out)) hb); clear HO_5; clear BK347; clear HB; have HO_5 := n0_; have BK347 := n1_; have HB := n2_; clear n0_ n1_ n2_; (try clear hb); (try clear hb2); (try clear hk); (try clear hi)))
                    repeat (go_quiet (first | (go_at_call 53; (with_reducible refine (single_long_digits.calls k2 _ _ x5_2 t357 _ ?side1 ?side2 A26.out).mono ?_); (case side1 => repeat (first | exact (Kd.R_reads' HO_5.out).2.2 | (with_reducible refine Kd.C_alloc ?_ _) | (with_reducible refine Kd.C_drewN ?_ _) | (with_reducible refine Kd.C_drew ?_))); (case side2 => exact (Kd.R_reads' HO_5.out).2.1); rintro e w30 ⟨rfl, hb⟩; have n0_ := Aside0.mk (Kd.R_below (by (with_reducible repeat (first | apply Kd.R_alloc | apply Kd.R_drewN | apply Kd.R_drew)); exact HO_5.out) hb); have n1_ := Aside0.mk (blk_below (g := gb347) (o := .cells #[.int .i64 t343, .bool t344, .int .i64 t345, .int .i64 t346] 24 (0, 0)) (by (with_reducible repeat (first | refine blk_drewN ?_ _ | refine blk_drew ?_ | refine blk_alloc ?_ _)); exact BK347.out) hb); have n2_ := Aside0.mk (below_step (by repeat (first | (with_reducible first | exact HB.out | apply below_alloc | apply pw_below_drewN | apply below_drew1 | refine below_set ?_ GE347.out) | exact HB.out)) hb); clear HO_5; clear BK347; clear HB; have HO_5 := n0_; have BK347 := n1_; have HB := n2_; clear n0_ n1_ n2_; (try clear hb); (try clear hb2); (try clear hk); (try clear hi))); try go_wp2_with (first | (go_at_call 53; (with_reducible refine (single_long_digits.calls k2 _ _ x5_2 t357 _ ?side1 ?side2 A26.out).mono ?_); (case side1 => repeat (first | exact (Kd.R_reads' HO_5.out).2.2 | (with_reducible refine Kd.C_alloc ?_ _) | (with_reducible refine Kd.C_drewN ?_ _) | (with_reducible refine Kd.C_drew ?_))); (case side2 => exact (Kd.R_reads' HO_5.out).2.1); rintro e w30 ⟨rfl, hb⟩; have n0_ := Aside0.mk (Kd.R_below (by (with_reducible repeat (first | apply Kd.R_alloc | apply Kd.R_drewN | apply Kd.R_drew)); exact HO_5.out) hb); have n1_ := Aside0.mk (blk_below (g := gb347) (o := .cells #[.int .i64 t343, .bool t344, .int .i64 t345, .int .i64 t346] 24 (0, 0)) (by (with_reducible repeat (first | refine blk_drewN ?_ _ | refine blk_drew ?_ | refine blk_alloc ?_ _)); exact BK347.out) hb); have n2_ := Aside0.mk (below_step (by repeat (first | (with_reducible first | exact HB.out | apply below_alloc | apply pw_below_drewN | apply below_drew1 | refine below_set ?_ GE347.out) | exact HB.out)) hb); clear HO_5; clear BK347; clear HB; have HO_5 := n0_; have BK347 := n1_; have HB := n2_; clear n0_ n1_ n2_; (try clear hb); (try clear hb2); (try clear hk); (try clear hi))))
                    go_ret
                    exact ⟨by first | rfl | (simp [errW_none, errW_some] <;> rfl) | (simp [*, errW_none, errW_some] <;> rfl), by repeat (first | (with_reducible first | exact HB.out | apply below_alloc | apply pw_below_drewN | apply below_drew1 | refine below_set ?_ GE347.out) | exact HB.out)⟩
                  · rw [if_neg c27] at H
                    exact absurd H (by simp)
                · rw [if_neg c25] at H
                  have c25b0 : decide (0 ≤ t346) = false := decide_eq_false c25
                  clear c25
                  have H' := Aside0.mk H
                  clear H
                  have hcz31_0 : wr.cell? ⟨gb347, 0, none⟩ = some (.int .i64 t343) := (blk_cell BK347.out 0).trans rfl
                  have hcz31_1 : wr.cell? ⟨gb347, 1, none⟩ = some (.bool t344) := (blk_cell BK347.out 1).trans rfl
                  have hcz31_2 : wr.cell? ⟨gb347, 2, none⟩ = some (.int .i64 t345) := (blk_cell BK347.out 2).trans rfl
                  have hcz31_3 : wr.cell? ⟨gb347, 3, none⟩ = some (.int .i64 t346) := (blk_cell BK347.out 3).trans rfl
                  have hfz31_0 := blk_frozen BK347.out 0
                  have hfz31_1 := blk_frozen BK347.out 1
                  have hfz31_2 := blk_frozen BK347.out 2
                  have hfz31_3 := blk_frozen BK347.out 3
                  go_wp2
                  repeat (go_quiet (fail); try go_wp2)
                  go_loopg [5, 45] k2 (fun kq v5 v45 w' => ∃ (x5_3 : List Int) (x45_3 : Int), v45 = .int .i64 x45_3 ∧ Aside0 (single_Text.l1 kq x4_2 x5_3 (wrap64 (-t346)) (wrap64 (-t346)) x45_3 = some r) ∧ Aside0 (kq ≤ k2) ∧ Aside0 (Kd.R (Kd.int .u32) 22 w' w.heap.size (fun _ => True) v5 x5_3) ∧ Aside0 (w'.heap[gb347]? = some (.cells #[.int .i64 t343, .bool t344, .int .i64 t345, .int .i64 t346] 24 (0, 0))) ∧ Aside0 (Below w.heap.size w w'))
                  case atStart => exact ⟨(x5_2), (0), (by first | rfl | (simp; done) | (simp [*]; done) | (simp [i64_w]; done) | (simp [*, i64_w]; done)), H', ⟨Nat.le_refl _⟩, ⟨by (with_reducible repeat (first | apply Kd.R_alloc | apply Kd.R_drewN | apply Kd.R_drew)); exact HO_5.out⟩, ⟨by (with_reducible repeat (first | refine blk_drewN ?_ _ | refine blk_drew ?_ | refine blk_alloc ?_ _)); exact BK347.out⟩, ⟨by repeat (first | (with_reducible first | exact HB.out | apply below_alloc | apply pw_below_drewN | apply below_drew1 | refine below_set ?_ GE347.out) | exact HB.out)⟩⟩
                  case round =>
                    clear H'
                    try clear c1
                    try clear c2
                    try clear p2
                    try clear c3
                    try clear p6
                    try clear c7
                    try clear c8
                    try clear c8b0
                    try clear c8b1
                    try clear c10
                    try clear c10b0
                    try clear c10b1
                    try clear c11
                    try clear c11b0
                    try clear c11b1
                    try clear c11b2
                    try clear c21
                    try clear c21b0
                    try clear c25
                    try clear c25b0
                    try clear c27
                    try clear c27b0
                    try clear c27b1
                    try clear c27b2
                    try clear hcz12_0
                    try clear hcz12_1
                    try clear hcz12_2
                    try clear hcz12_3
                    try clear hcz14_0
                    try clear hcz14_1
                    try clear hcz14_2
                    try clear hcz14_3
                    try clear hcz17_0
                    try clear hcz17_1
                    try clear hcz17_2
                    try clear hcz17_3
                    try clear hcz20_0
                    try clear hcz20_1
                    try clear hcz20_2
                    try clear hcz20_3
                    try clear hcz28_0
                    try clear hcz28_1
                    try clear hcz28_2
                    try clear hcz28_3
                    try clear hcz31_0
                    try clear hcz31_1
                    try clear hcz31_2
                    try clear hcz31_3
                    try clear hcz6_0
                    try clear hcz6_1
                    try clear hcz6_2
                    try clear hcz6_3
                    try clear hcz9_0
                    try clear hcz9_1
                    try clear hcz9_2
                    try clear hcz9_3
                    try clear hfz12_0
                    try clear hfz12_1
                    try clear hfz12_2
                    try clear hfz12_3
                    try clear hfz14_0
                    try clear hfz14_1
                    try clear hfz14_2
                    try clear hfz14_3
                    try clear hfz17_0
                    try clear hfz17_1
                    try clear hfz17_2
                    try clear hfz17_3
                    try clear hfz20_0
                    try clear hfz20_1
                    try clear hfz20_2
                    try clear hfz20_3
                    try clear hfz28_0
                    try clear hfz28_1
                    try clear hfz28_2
                    try clear hfz28_3
                    try clear hfz31_0
                    try clear hfz31_1
                    try clear hfz31_2
                    try clear hfz31_3
                    try clear hfz6_0
                    try clear hfz6_1
                    try clear hfz6_2
                    try clear hfz6_3
                    try clear hfz9_0
                    try clear hfz9_1
                    try clear hfz9_2
                    try clear hfz9_3
                    try clear p2
                    obtain ⟨x5_3, x45_3, rfl, HA, HK3, HO_5, BK347, HB⟩ := hrel
                    cases gk with
                    | zero => exact absurd HA.out (by simp [single_Text.l1])
                    | succ k3 =>
                      have H := HA.out
                      clear HA
                      simp only [single_Text.l1] at H
                      by_cases c32 : x45_3 < (wrap64 (-t346))
                      · rw [if_pos c32] at H
                        have c32b0 : decide (x45_3 < (wrap64 (-t346))) = true := decide_eq_true c32
                        clear c32
                        replace H := Option.bind_eq_some_iff.mp H
                        obtain ⟨t358, A330, H⟩ := H
                        replace H : (single_Text.l1 k3 x4_2 t358 (wrap64 (-t346)) (wrap64 (-t346)) (wrap64 (x45_3 + 1))) = some r := H
                        have A33 := Aside0.mk A330
                        clear A330
                        have H' := Aside0.mk H
                        clear H
                        obtain ⟨Ao34, co34, eo34⟩ := Kd.R_slice HO_5.out
                        subst eo34
                        go_wp2_with (first | (go_at_call 52; (with_reducible refine (single_long_times.calls k3 _ _ x5_3 5 t358 _ ?side1 ?side2 A33.out).mono ?_); (case side1 => repeat (first | exact (Kd.R_reads' HO_5.out).2.2 | (with_reducible refine Kd.C_alloc ?_ _) | (with_reducible refine Kd.C_drewN ?_ _) | (with_reducible refine Kd.C_drew ?_))); (case side2 => exact (Kd.R_reads' HO_5.out).2.1); rintro e w35 ⟨v359, rfl, ho0, hb⟩; have n0_ := Aside0.mk (Kd.R_elder' (by (with_reducible repeat (first | apply Kd.R_alloc | apply Kd.R_drewN | apply Kd.R_drew)); exact HO_5.out) (Kd.R_base ho0) hb); have n1_ := Aside0.mk (Kd.R_lower (Kd.R_new' ho0 (Kd.R_lt (by (with_reducible repeat (first | apply Kd.R_alloc | apply Kd.R_drewN | apply Kd.R_drew)); exact HO_5.out))) (below_size (by repeat (first | (with_reducible first | exact HB.out | apply below_alloc | apply pw_below_drewN | apply below_drew1 | refine below_set ?_ GE347.out) | exact HB.out)))); have n2_ := Aside0.mk (blk_below (g := gb347) (o := .cells #[.int .i64 t343, .bool t344, .int .i64 t345, .int .i64 t346] 24 (0, 0)) (by (with_reducible repeat (first | refine blk_drewN ?_ _ | refine blk_drew ?_ | refine blk_alloc ?_ _)); exact BK347.out) hb); have n3_ := Aside0.mk (below_step (by repeat (first | (with_reducible first | exact HB.out | apply below_alloc | apply pw_below_drewN | apply below_drew1 | refine below_set ?_ GE347.out) | exact HB.out)) hb); clear HO_5; clear BK347; clear HB; have HO_5 := n0_; have HO360 := n1_; have BK347 := n2_; have HB := n3_; clear n0_ n1_ n2_ n3_; (try clear hb); (try clear hb2); (try clear hk); (try clear hi); (try clear ho0)))
                        repeat (go_quiet (first | (go_at_call 52; (with_reducible refine (single_long_times.calls k3 _ _ x5_3 5 t358 _ ?side1 ?side2 A33.out).mono ?_); (case side1 => repeat (first | exact (Kd.R_reads' HO_5.out).2.2 | (with_reducible refine Kd.C_alloc ?_ _) | (with_reducible refine Kd.C_drewN ?_ _) | (with_reducible refine Kd.C_drew ?_))); (case side2 => exact (Kd.R_reads' HO_5.out).2.1); rintro e w35 ⟨v359, rfl, ho0, hb⟩; have n0_ := Aside0.mk (Kd.R_elder' (by (with_reducible repeat (first | apply Kd.R_alloc | apply Kd.R_drewN | apply Kd.R_drew)); exact HO_5.out) (Kd.R_base ho0) hb); have n1_ := Aside0.mk (Kd.R_lower (Kd.R_new' ho0 (Kd.R_lt (by (with_reducible repeat (first | apply Kd.R_alloc | apply Kd.R_drewN | apply Kd.R_drew)); exact HO_5.out))) (below_size (by repeat (first | (with_reducible first | exact HB.out | apply below_alloc | apply pw_below_drewN | apply below_drew1 | refine below_set ?_ GE347.out) | exact HB.out)))); have n2_ := Aside0.mk (blk_below (g := gb347) (o := .cells #[.int .i64 t343, .bool t344, .int .i64 t345, .int .i64 t346] 24 (0, 0)) (by (with_reducible repeat (first | refine blk_drewN ?_ _ | refine blk_drew ?_ | refine blk_alloc ?_ _)); exact BK347.out) hb); have n3_ := Aside0.mk (below_step (by repeat (first | (with_reducible first | exact HB.out | apply below_alloc | apply pw_below_drewN | apply below_drew1 | refine below_set ?_ GE347.out) | exact HB.out)) hb); clear HO_5; clear BK347; clear HB; have HO_5 := n0_; have HO360 := n1_; have BK347 := n2_; have HB := n3_; clear n0_ n1_ n2_ n3_; (try clear hb); (try clear hb2); (try clear hk); (try clear hi); (try clear ho0))); try go_wp2_with (first | (go_at_call 52; (with_reducible refine (single_long_times.calls k3 _ _ x5_3 5 t358 _ ?side1 ?side2 A33.out).mono ?_); (case side1 => repeat (first | exact (Kd.R_reads' HO_5.out).2.2 | (with_reducible refine Kd.C_alloc ?_ _) | (with_reducible refine Kd.C_drewN ?_ _) | (with_reducible refine Kd.C_drew ?_))); (case side2 => exact (Kd.R_reads' HO_5.out).2.1); rintro e w35 ⟨v359, rfl, ho0, hb⟩; have n0_ := Aside0.mk (Kd.R_elder' (by (with_reducible repeat (first | apply Kd.R_alloc | apply Kd.R_drewN | apply Kd.R_drew)); exact HO_5.out) (Kd.R_base ho0) hb); have n1_ := Aside0.mk (Kd.R_lower (Kd.R_new' ho0 (Kd.R_lt (by (with_reducible repeat (first | apply Kd.R_alloc | apply Kd.R_drewN | apply Kd.R_drew)); exact HO_5.out))) (below_size (by repeat (first | (with_reducible first | exact HB.out | apply below_alloc | apply pw_below_drewN | apply below_drew1 | refine below_set ?_ GE347.out) | exact HB.out)))); have n2_ := Aside0.mk (blk_below (g := gb347) (o := .cells #[.int .i64 t343, .bool t344, .int .i64 t345, .int .i64 t346] 24 (0, 0)) (by (with_reducible repeat (first | refine blk_drewN ?_ _ | refine blk_drew ?_ | refine blk_alloc ?_ _)); exact BK347.out) hb); have n3_ := Aside0.mk (below_step (by repeat (first | (with_reducible first | exact HB.out | apply below_alloc | apply pw_below_drewN | apply below_drew1 | refine below_set ?_ GE347.out) | exact HB.out)) hb); clear HO_5; clear BK347; clear HB; have HO_5 := n0_; have HO360 := n1_; have BK347 := n2_; have HB := n3_; clear n0_ n1_ n2_ n3_; (try clear hb); (try clear hb2); (try clear hk); (try clear hi); (try clear ho0))))
                        go_roundg k3
                        case measure => have := HJ2.out; have := HK2.out; have := HK3.out; omega
                        case rel => exact ⟨(t358), (wrap64 (x45_3 + 1)), (by first | rfl | (simp; done) | (simp [*]; done) | (simp [i64_w]; done) | (simp [*, i64_w]; done)), H', ⟨by have := HJ2.out; have := HK2.out; have := HK3.out; omega⟩, ⟨by (with_reducible repeat (first | apply Kd.R_alloc | apply Kd.R_drewN | apply Kd.R_drew)); exact Kd.R_mono HO360.out (fun _ hk => trivial)⟩, ⟨by (with_reducible repeat (first | refine blk_drewN ?_ _ | refine blk_drew ?_ | refine blk_alloc ?_ _)); exact BK347.out⟩, ⟨by repeat (first | (with_reducible first | exact HB.out | apply below_alloc | apply pw_below_drewN | apply below_drew1 | refine below_set ?_ GE347.out) | exact HB.out)⟩⟩
                      · rw [if_neg c32] at H
                        have c32b0 : decide (x45_3 < (wrap64 (-t346))) = false := decide_eq_false c32
                        clear c32
                        replace H := Option.bind_eq_some_iff.mp H
                        obtain ⟨t361, A360, H⟩ := H
                        replace H : (if (t361.size : Int) ≤ (wrap64 (-t346)) then ((strings_Repeat.f (⟨#[48]⟩ : ByteArray) (wrap64 ((wrap64 ((wrap64 (-t346)) + 1)) - (t361.size : Int)))).bind fun t362 => (if t362.size + t361.size ≤ 9223372036854775807 then (if 0 ≤ (wrap64 (((t362 ++ t361).size : Int) - (wrap64 (-t346)))) then (if (wrap64 (((t362 ++ t361).size : Int) - (wrap64 (-t346)))) ≤ ((t362 ++ t361).size : Int) then ((strings_TrimRight.f k3 ((t362 ++ t361).extract ((wrap64 (((t362 ++ t361).size : Int) - (wrap64 (-t346)))) : Int).toNat (t362 ++ t361).size) (⟨#[48]⟩ : ByteArray)).bind fun t363 => (if t363.toList = ([] : List UInt8) then (if x4_2.size + ((t362 ++ t361).extract 0 ((wrap64 (((t362 ++ t361).size : Int) - (wrap64 (-t346)))) : Int).toNat).size ≤ 9223372036854775807 then (some (x4_2 ++ ((t362 ++ t361).extract 0 ((wrap64 (((t362 ++ t361).size : Int) - (wrap64 (-t346)))) : Int).toNat))) else (none)) else (if 1 + t363.size ≤ 9223372036854775807 then (if ((t362 ++ t361).extract 0 ((wrap64 (((t362 ++ t361).size : Int) - (wrap64 (-t346)))) : Int).toNat).size + ((⟨#[46]⟩ : ByteArray) ++ t363).size ≤ 9223372036854775807 then (if x4_2.size + (((t362 ++ t361).extract 0 ((wrap64 (((t362 ++ t361).size : Int) - (wrap64 (-t346)))) : Int).toNat) ++ ((⟨#[46]⟩ : ByteArray) ++ t363)).size ≤ 9223372036854775807 then (some (x4_2 ++ (((t362 ++ t361).extract 0 ((wrap64 (((t362 ++ t361).size : Int) - (wrap64 (-t346)))) : Int).toNat) ++ ((⟨#[46]⟩ : ByteArray) ++ t363)))) else (none)) else (none)) else (none)))) else (none)) else (none)) else (none))) else (if 0 ≤ (wrap64 ((t361.size : Int) - (wrap64 (-t346)))) then (if (wrap64 ((t361.size : Int) - (wrap64 (-t346)))) ≤ (t361.size : Int) then ((strings_TrimRight.f k3 (t361.extract ((wrap64 ((t361.size : Int) - (wrap64 (-t346)))) : Int).toNat t361.size) (⟨#[48]⟩ : ByteArray)).bind fun t364 => (if t364.toList = ([] : List UInt8) then (if x4_2.size + (t361.extract 0 ((wrap64 ((t361.size : Int) - (wrap64 (-t346)))) : Int).toNat).size ≤ 9223372036854775807 then (some (x4_2 ++ (t361.extract 0 ((wrap64 ((t361.size : Int) - (wrap64 (-t346)))) : Int).toNat))) else (none)) else (if 1 + t364.size ≤ 9223372036854775807 then (if (t361.extract 0 ((wrap64 ((t361.size : Int) - (wrap64 (-t346)))) : Int).toNat).size + ((⟨#[46]⟩ : ByteArray) ++ t364).size ≤ 9223372036854775807 then (if x4_2.size + ((t361.extract 0 ((wrap64 ((t361.size : Int) - (wrap64 (-t346)))) : Int).toNat) ++ ((⟨#[46]⟩ : ByteArray) ++ t364)).size ≤ 9223372036854775807 then (some (x4_2 ++ ((t361.extract 0 ((wrap64 ((t361.size : Int) - (wrap64 (-t346)))) : Int).toNat) ++ ((⟨#[46]⟩ : ByteArray) ++ t364)))) else (none)) else (none)) else (none)))) else (none)) else (none))) = some r := H
                        have A36 := Aside0.mk A360
                        clear A360
                        by_cases c37 : (t361.size : Int) ≤ (wrap64 (-t346))
                        · rw [if_pos c37] at H
                          have c37b0 : decide ((t361.size : Int) ≤ (wrap64 (-t346))) = true := decide_eq_true c37
                          clear c37
                          replace H := Option.bind_eq_some_iff.mp H
                          obtain ⟨t362, A380, H⟩ := H
                          replace H : (if t362.size + t361.size ≤ 9223372036854775807 then (if 0 ≤ (wrap64 (((t362 ++ t361).size : Int) - (wrap64 (-t346)))) then (if (wrap64 (((t362 ++ t361).size : Int) - (wrap64 (-t346)))) ≤ ((t362 ++ t361).size : Int) then ((strings_TrimRight.f k3 ((t362 ++ t361).extract ((wrap64 (((t362 ++ t361).size : Int) - (wrap64 (-t346)))) : Int).toNat (t362 ++ t361).size) (⟨#[48]⟩ : ByteArray)).bind fun t363 => (if t363.toList = ([] : List UInt8) then (if x4_2.size + ((t362 ++ t361).extract 0 ((wrap64 (((t362 ++ t361).size : Int) - (wrap64 (-t346)))) : Int).toNat).size ≤ 9223372036854775807 then (some (x4_2 ++ ((t362 ++ t361).extract 0 ((wrap64 (((t362 ++ t361).size : Int) - (wrap64 (-t346)))) : Int).toNat))) else (none)) else (if 1 + t363.size ≤ 9223372036854775807 then (if ((t362 ++ t361).extract 0 ((wrap64 (((t362 ++ t361).size : Int) - (wrap64 (-t346)))) : Int).toNat).size + ((⟨#[46]⟩ : ByteArray) ++ t363).size ≤ 9223372036854775807 then (if x4_2.size + (((t362 ++ t361).extract 0 ((wrap64 (((t362 ++ t361).size : Int) - (wrap64 (-t346)))) : Int).toNat) ++ ((⟨#[46]⟩ : ByteArray) ++ t363)).size ≤ 9223372036854775807 then (some (x4_2 ++ (((t362 ++ t361).extract 0 ((wrap64 (((t362 ++ t361).size : Int) - (wrap64 (-t346)))) : Int).toNat) ++ ((⟨#[46]⟩ : ByteArray) ++ t363)))) else (none)) else (none)) else (none)))) else (none)) else (none)) else (none)) = some r := H
                          have A38 := Aside0.mk A380
                          clear A380
                          by_cases c39 : t362.size + t361.size ≤ 9223372036854775807
                          · rw [if_pos c39] at H
                            have c39b0 := eq_true c39
                            have c39b1 : decide (t362.size + t361.size ≤ 9223372036854775807) = true := decide_eq_true c39
                            try have c39b2 : (9223372036854775807 < t362.size + t361.size) = False := eq_false (Nat.not_lt.2 c39)
                            obtain ⟨T_, hT_⟩ : ∃ T, t362 ++ t361 = T := ⟨_, rfl⟩
                            rw [hT_] at H
                            obtain ⟨ji40, hji40⟩ : ∃ j_ : Int, (wrap64 ((T_.size : Int) - (wrap64 (-t346)))) = j_ := ⟨_, rfl⟩
                            replace H : (if 0 ≤ (ji40) then (if (ji40) ≤ (T_.size : Int) then ((strings_TrimRight.f k3 (T_.extract ((ji40) : Int).toNat T_.size) (⟨#[48]⟩ : ByteArray)).bind fun t363 => (if t363.toList = ([] : List UInt8) then (if x4_2.size + (T_.extract 0 ((ji40) : Int).toNat).size ≤ 9223372036854775807 then (some (x4_2 ++ (T_.extract 0 ((ji40) : Int).toNat))) else (none)) else (if 1 + t363.size ≤ 9223372036854775807 then (if (T_.extract 0 ((ji40) : Int).toNat).size + ((⟨#[46]⟩ : ByteArray) ++ t363).size ≤ 9223372036854775807 then (if x4_2.size + ((T_.extract 0 ((ji40) : Int).toNat) ++ ((⟨#[46]⟩ : ByteArray) ++ t363)).size ≤ 9223372036854775807 then (some (x4_2 ++ ((T_.extract 0 ((ji40) : Int).toNat) ++ ((⟨#[46]⟩ : ByteArray) ++ t363)))) else (none)) else (none)) else (none)))) else (none)) else (none)) = some r := by first | (rw [hji40] at H; exact H) | (simp only [hji40] at H ⊢; exact H)
                            (try rw [hji40] at A36)
                            (try rw [hji40] at A38)
                            have hji40w : (IntKind.i64.wrap ((T_.size : Int) - (wrap64 (-t346)))) = ji40 := (i64_w _).trans hji40
                            by_cases c41 : 0 ≤ (ji40)
                            · rw [if_pos c41] at H
                              have c41b0 := eq_true c41
                              have c41b1 : decide (0 ≤ (ji40)) = true := decide_eq_true c41
                              clear c41
                              by_cases c42 : (ji40) ≤ (T_.size : Int)
                              · rw [if_pos c42] at H
                                have c42b0 := eq_true c42
                                have c42b1 : decide ((ji40) ≤ (T_.size : Int)) = true := decide_eq_true c42
                                have c43b0 := eq_true (of_decide_eq_true (by first | (with_reducible assumption) | assumption) : 0 ≤ (ji40))
                                have c44b0 := eq_true (of_decide_eq_true (by first | (with_reducible assumption) | assumption) : (ji40) ≤ (T_.size : Int))
                                replace H := Option.bind_eq_some_iff.mp H
                                obtain ⟨t363, A450, H⟩ := H
                                replace H : (if t363.toList = ([] : List UInt8) then (if x4_2.size + (T_.extract 0 ((ji40) : Int).toNat).size ≤ 9223372036854775807 then (some (x4_2 ++ (T_.extract 0 ((ji40) : Int).toNat))) else (none)) else (if 1 + t363.size ≤ 9223372036854775807 then (if (T_.extract 0 ((ji40) : Int).toNat).size + ((⟨#[46]⟩ : ByteArray) ++ t363).size ≤ 9223372036854775807 then (if x4_2.size + ((T_.extract 0 ((ji40) : Int).toNat) ++ ((⟨#[46]⟩ : ByteArray) ++ t363)).size ≤ 9223372036854775807 then (some (x4_2 ++ ((T_.extract 0 ((ji40) : Int).toNat) ++ ((⟨#[46]⟩ : ByteArray) ++ t363)))) else (none)) else (none)) else (none))) = some r := H
                                have A45 := Aside0.mk A450
                                clear A450
                                by_cases c46 : t363.toList = ([] : List UInt8)
                                · rw [if_pos c46] at H
                                  have c46b0 : (t363.toList == ([] : List UInt8)) = true := beq_iff_eq.mpr c46
                                  have c46b1 : (t363.toList != ([] : List UInt8)) = false := bne_eq_false_iff_eq.mpr c46
                                  clear c46
                                  by_cases c47 : x4_2.size + (T_.extract 0 ((ji40) : Int).toNat).size ≤ 9223372036854775807
                                  · rw [if_pos c47] at H
                                    have c47b0 := eq_true c47
                                    have c47b1 : decide (x4_2.size + (T_.extract 0 ((ji40) : Int).toNat).size ≤ 9223372036854775807) = true := decide_eq_true c47
                                    try have c47b2 : (9223372036854775807 < x4_2.size + (T_.extract 0 ((ji40) : Int).toNat).size) = False := eq_false (Nat.not_lt.2 c47)
                                    obtain rfl := Option.some.inj H
                                    obtain ⟨Ao48, co48, eo48⟩ := Kd.R_slice HO_5.out
                                    subst eo48
                                    go_wp2_with (first | (go_at_call 53; (with_reducible refine (single_long_digits.calls k3 _ _ x5_3 t361 _ ?side1 ?side2 A36.out).mono ?_); (case side1 => repeat (first | exact (Kd.R_reads' HO_5.out).2.2 | (with_reducible refine Kd.C_alloc ?_ _) | (with_reducible refine Kd.C_drewN ?_ _) | (with_reducible refine Kd.C_drew ?_))); (case side2 => exact (Kd.R_reads' HO_5.out).2.1); rintro e w49 ⟨rfl, hb⟩; have n0_ := Aside0.mk (Kd.R_below (by (with_reducible repeat (first | apply Kd.R_alloc | apply Kd.R_drewN | apply Kd.R_drew)); exact HO_5.out) hb); have n1_ := Aside0.mk (blk_below (g := gb347) (o := .cells #[.int .i64 t343, .bool t344, .int .i64 t345, .int .i64 t346] 24 (0, 0)) (by (with_reducible repeat (first | refine blk_drewN ?_ _ | refine blk_drew ?_ | refine blk_alloc ?_ _)); exact BK347.out) hb); have n2_ := Aside0.mk (below_step (by repeat (first | (with_reducible first | exact HB.out | apply below_alloc | apply pw_below_drewN | apply below_drew1 | refine below_set ?_ GE347.out) | exact HB.out)) hb); clear HO_5; clear BK347; clear HB; have HO_5 := n0_; have BK347 := n1_; have HB := n2_; clear n0_ n1_ n2_; (try clear hb); (try clear hb2); (try clear hk); (try clear hi)) | (go_at_call 54; (with_reducible refine (strings_Repeat.calls (⟨#[48]⟩ : ByteArray) (wrap64 ((wrap64 ((wrap64 (-t346)) + 1)) - (t361.size : Int))) t362 _ A38.out).mono ?_); rintro e w50 ⟨rfl, hb⟩; have n0_ := Aside0.mk (Kd.R_below (by (with_reducible repeat (first | apply Kd.R_alloc | apply Kd.R_drewN | apply Kd.R_drew)); exact HO_5.out) hb); have n1_ := Aside0.mk (blk_below (g := gb347) (o := .cells #[.int .i64 t343, .bool t344, .int .i64 t345, .int .i64 t346] 24 (0, 0)) (by (with_reducible repeat (first | refine blk_drewN ?_ _ | refine blk_drew ?_ | refine blk_alloc ?_ _)); exact BK347.out) hb); have n2_ := Aside0.mk (below_step (by repeat (first | (with_reducible first | exact HB.out | apply below_alloc | apply pw_below_drewN | apply below_drew1 | refine below_set ?_ GE347.out) | exact HB.out)) hb); clear HO_5; clear BK347; clear HB; have HO_5 := n0_; have BK347 := n1_; have HB := n2_; clear n0_ n1_ n2_; (try clear hb); (try clear hb2); (try clear hk); (try clear hi)) | (go_at_call 55; (with_reducible refine (strings_TrimRight.calls k3 (T_.extract ((ji40) : Int).toNat T_.size) (⟨#[48]⟩ : ByteArray) t363 _ A45.out).mono ?_); rintro e w' ⟨rfl, ⟨nd, rfl⟩⟩; (try first | exact ⟨rfl, _, World.drewN_drewN _ _ _⟩ | exact ⟨rfl, _, Eq.trans (World.drewN_drewN _ _ _) (congrArg (World.drewN _) (Nat.add_assoc _ _ _))⟩)))
                                    repeat (go_quiet (first | (go_at_call 53; (with_reducible refine (single_long_digits.calls k3 _ _ x5_3 t361 _ ?side1 ?side2 A36.out).mono ?_); (case side1 => repeat (first | exact (Kd.R_reads' HO_5.out).2.2 | (with_reducible refine Kd.C_alloc ?_ _) | (with_reducible refine Kd.C_drewN ?_ _) | (with_reducible refine Kd.C_drew ?_))); (case side2 => exact (Kd.R_reads' HO_5.out).2.1); rintro e w49 ⟨rfl, hb⟩; have n0_ := Aside0.mk (Kd.R_below (by (with_reducible repeat (first | apply Kd.R_alloc | apply Kd.R_drewN | apply Kd.R_drew)); exact HO_5.out) hb); have n1_ := Aside0.mk (blk_below (g := gb347) (o := .cells #[.int .i64 t343, .bool t344, .int .i64 t345, .int .i64 t346] 24 (0, 0)) (by (with_reducible repeat (first | refine blk_drewN ?_ _ | refine blk_drew ?_ | refine blk_alloc ?_ _)); exact BK347.out) hb); have n2_ := Aside0.mk (below_step (by repeat (first | (with_reducible first | exact HB.out | apply below_alloc | apply pw_below_drewN | apply below_drew1 | refine below_set ?_ GE347.out) | exact HB.out)) hb); clear HO_5; clear BK347; clear HB; have HO_5 := n0_; have BK347 := n1_; have HB := n2_; clear n0_ n1_ n2_; (try clear hb); (try clear hb2); (try clear hk); (try clear hi)) | (go_at_call 54; (with_reducible refine (strings_Repeat.calls (⟨#[48]⟩ : ByteArray) (wrap64 ((wrap64 ((wrap64 (-t346)) + 1)) - (t361.size : Int))) t362 _ A38.out).mono ?_); rintro e w50 ⟨rfl, hb⟩; have n0_ := Aside0.mk (Kd.R_below (by (with_reducible repeat (first | apply Kd.R_alloc | apply Kd.R_drewN | apply Kd.R_drew)); exact HO_5.out) hb); have n1_ := Aside0.mk (blk_below (g := gb347) (o := .cells #[.int .i64 t343, .bool t344, .int .i64 t345, .int .i64 t346] 24 (0, 0)) (by (with_reducible repeat (first | refine blk_drewN ?_ _ | refine blk_drew ?_ | refine blk_alloc ?_ _)); exact BK347.out) hb); have n2_ := Aside0.mk (below_step (by repeat (first | (with_reducible first | exact HB.out | apply below_alloc | apply pw_below_drewN | apply below_drew1 | refine below_set ?_ GE347.out) | exact HB.out)) hb); clear HO_5; clear BK347; clear HB; have HO_5 := n0_; have BK347 := n1_; have HB := n2_; clear n0_ n1_ n2_; (try clear hb); (try clear hb2); (try clear hk); (try clear hi)) | (go_at_call 55; (with_reducible refine (strings_TrimRight.calls k3 (T_.extract ((ji40) : Int).toNat T_.size) (⟨#[48]⟩ : ByteArray) t363 _ A45.out).mono ?_); rintro e w' ⟨rfl, ⟨nd, rfl⟩⟩; (try first | exact ⟨rfl, _, World.drewN_drewN _ _ _⟩ | exact ⟨rfl, _, Eq.trans (World.drewN_drewN _ _ _) (congrArg (World.drewN _) (Nat.add_assoc _ _ _))⟩))); try go_wp2_with (first | (go_at_call 53; (with_reducible refine (single_long_digits.calls k3 _ _ x5_3 t361 _ ?side1 ?side2 A36.out).mono ?_); (case side1 => repeat (first | exact (Kd.R_reads' HO_5.out).2.2 | (with_reducible refine Kd.C_alloc ?_ _) | (with_reducible refine Kd.C_drewN ?_ _) | (with_reducible refine Kd.C_drew ?_))); (case side2 => exact (Kd.R_reads' HO_5.out).2.1); rintro e w49 ⟨rfl, hb⟩; have n0_ := Aside0.mk (Kd.R_below (by (with_reducible repeat (first | apply Kd.R_alloc | apply Kd.R_drewN | apply Kd.R_drew)); exact HO_5.out) hb); have n1_ := Aside0.mk (blk_below (g := gb347) (o := .cells #[.int .i64 t343, .bool t344, .int .i64 t345, .int .i64 t346] 24 (0, 0)) (by (with_reducible repeat (first | refine blk_drewN ?_ _ | refine blk_drew ?_ | refine blk_alloc ?_ _)); exact BK347.out) hb); have n2_ := Aside0.mk (below_step (by repeat (first | (with_reducible first | exact HB.out | apply below_alloc | apply pw_below_drewN | apply below_drew1 | refine below_set ?_ GE347.out) | exact HB.out)) hb); clear HO_5; clear BK347; clear HB; have HO_5 := n0_; have BK347 := n1_; have HB := n2_; clear n0_ n1_ n2_; (try clear hb); (try clear hb2); (try clear hk); (try clear hi)) | (go_at_call 54; (with_reducible refine (strings_Repeat.calls (⟨#[48]⟩ : ByteArray) (wrap64 ((wrap64 ((wrap64 (-t346)) + 1)) - (t361.size : Int))) t362 _ A38.out).mono ?_); rintro e w50 ⟨rfl, hb⟩; have n0_ := Aside0.mk (Kd.R_below (by (with_reducible repeat (first | apply Kd.R_alloc | apply Kd.R_drewN | apply Kd.R_drew)); exact HO_5.out) hb); have n1_ := Aside0.mk (blk_below (g := gb347) (o := .cells #[.int .i64 t343, .bool t344, .int .i64 t345, .int .i64 t346] 24 (0, 0)) (by (with_reducible repeat (first | refine blk_drewN ?_ _ | refine blk_drew ?_ | refine blk_alloc ?_ _)); exact BK347.out) hb); have n2_ := Aside0.mk (below_step (by repeat (first | (with_reducible first | exact HB.out | apply below_alloc | apply pw_below_drewN | apply below_drew1 | refine below_set ?_ GE347.out) | exact HB.out)) hb); clear HO_5; clear BK347; clear HB; have HO_5 := n0_; have BK347 := n1_; have HB := n2_; clear n0_ n1_ n2_; (try clear hb); (try clear hb2); (try clear hk); (try clear hi)) | (go_at_call 55; (with_reducible refine (strings_TrimRight.calls k3 (T_.extract ((ji40) : Int).toNat T_.size) (⟨#[48]⟩ : ByteArray) t363 _ A45.out).mono ?_); rintro e w' ⟨rfl, ⟨nd, rfl⟩⟩; (try first | exact ⟨rfl, _, World.drewN_drewN _ _ _⟩ | exact ⟨rfl, _, Eq.trans (World.drewN_drewN _ _ _) (congrArg (World.drewN _) (Nat.add_assoc _ _ _))⟩))))
                                    go_ret
                                    exact ⟨by first | rfl | (simp [errW_none, errW_some] <;> rfl) | (simp only [← hji40]; first | rfl | (simp [errW_none, errW_some] <;> rfl)) | (simp [*, errW_none, errW_some] <;> rfl), by repeat (first | (with_reducible first | exact HB.out | apply below_alloc | apply pw_below_drewN | apply below_drew1 | refine below_set ?_ GE347.out) | exact HB.out)⟩
                                  · rw [if_neg c47] at H
                                    exact absurd H (by simp)
                                · rw [if_neg c46] at H
                                  have c46b0 : (t363.toList == ([] : List UInt8)) = false := beq_eq_false_iff_ne.mpr c46
                                  have c46b1 : (t363.toList != ([] : List UInt8)) = true := bne_iff_ne.mpr c46
                                  by_cases c51 : 1 + t363.size ≤ 9223372036854775807
                                  · rw [if_pos c51] at H
                                    have c51b0 := eq_true c51
                                    have c51b1 : decide (1 + t363.size ≤ 9223372036854775807) = true := decide_eq_true c51
                                    try have c51b2 : (9223372036854775807 < 1 + t363.size) = False := eq_false (Nat.not_lt.2 c51)
                                    by_cases c52 : (T_.extract 0 ((ji40) : Int).toNat).size + ((⟨#[46]⟩ : ByteArray) ++ t363).size ≤ 9223372036854775807
                                    · rw [if_pos c52] at H
                                      have c52b0 := eq_true c52
                                      have c52b1 : decide ((T_.extract 0 ((ji40) : Int).toNat).size + ((⟨#[46]⟩ : ByteArray) ++ t363).size ≤ 9223372036854775807) = true := decide_eq_true c52
                                      try have c52b2 : (9223372036854775807 < (T_.extract 0 ((ji40) : Int).toNat).size + ((⟨#[46]⟩ : ByteArray) ++ t363).size) = False := eq_false (Nat.not_lt.2 c52)
                                      by_cases c53 : x4_2.size + ((T_.extract 0 ((ji40) : Int).toNat) ++ ((⟨#[46]⟩ : ByteArray) ++ t363)).size ≤ 9223372036854775807
                                      · rw [if_pos c53] at H
                                        have c53b0 := eq_true c53
                                        have c53b1 : decide (x4_2.size + ((T_.extract 0 ((ji40) : Int).toNat) ++ ((⟨#[46]⟩ : ByteArray) ++ t363)).size ≤ 9223372036854775807) = true := decide_eq_true c53
                                        try have c53b2 : (9223372036854775807 < x4_2.size + ((T_.extract 0 ((ji40) : Int).toNat) ++ ((⟨#[46]⟩ : ByteArray) ++ t363)).size) = False := eq_false (Nat.not_lt.2 c53)
                                        obtain rfl := Option.some.inj H
                                        obtain ⟨Ao54, co54, eo54⟩ := Kd.R_slice HO_5.out
                                        subst eo54
                                        go_wp2_with (first | (go_at_call 53; (with_reducible refine (single_long_digits.calls k3 _ _ x5_3 t361 _ ?side1 ?side2 A36.out).mono ?_); (case side1 => repeat (first | exact (Kd.R_reads' HO_5.out).2.2 | (with_reducible refine Kd.C_alloc ?_ _) | (with_reducible refine Kd.C_drewN ?_ _) | (with_reducible refine Kd.C_drew ?_))); (case side2 => exact (Kd.R_reads' HO_5.out).2.1); rintro e w55 ⟨rfl, hb⟩; have n0_ := Aside0.mk (Kd.R_below (by (with_reducible repeat (first | apply Kd.R_alloc | apply Kd.R_drewN | apply Kd.R_drew)); exact HO_5.out) hb); have n1_ := Aside0.mk (blk_below (g := gb347) (o := .cells #[.int .i64 t343, .bool t344, .int .i64 t345, .int .i64 t346] 24 (0, 0)) (by (with_reducible repeat (first | refine blk_drewN ?_ _ | refine blk_drew ?_ | refine blk_alloc ?_ _)); exact BK347.out) hb); have n2_ := Aside0.mk (below_step (by repeat (first | (with_reducible first | exact HB.out | apply below_alloc | apply pw_below_drewN | apply below_drew1 | refine below_set ?_ GE347.out) | exact HB.out)) hb); clear HO_5; clear BK347; clear HB; have HO_5 := n0_; have BK347 := n1_; have HB := n2_; clear n0_ n1_ n2_; (try clear hb); (try clear hb2); (try clear hk); (try clear hi)) | (go_at_call 54; (with_reducible refine (strings_Repeat.calls (⟨#[48]⟩ : ByteArray) (wrap64 ((wrap64 ((wrap64 (-t346)) + 1)) - (t361.size : Int))) t362 _ A38.out).mono ?_); rintro e w56 ⟨rfl, hb⟩; have n0_ := Aside0.mk (Kd.R_below (by (with_reducible repeat (first | apply Kd.R_alloc | apply Kd.R_drewN | apply Kd.R_drew)); exact HO_5.out) hb); have n1_ := Aside0.mk (blk_below (g := gb347) (o := .cells #[.int .i64 t343, .bool t344, .int .i64 t345, .int .i64 t346] 24 (0, 0)) (by (with_reducible repeat (first | refine blk_drewN ?_ _ | refine blk_drew ?_ | refine blk_alloc ?_ _)); exact BK347.out) hb); have n2_ := Aside0.mk (below_step (by repeat (first | (with_reducible first | exact HB.out | apply below_alloc | apply pw_below_drewN | apply below_drew1 | refine below_set ?_ GE347.out) | exact HB.out)) hb); clear HO_5; clear BK347; clear HB; have HO_5 := n0_; have BK347 := n1_; have HB := n2_; clear n0_ n1_ n2_; (try clear hb); (try clear hb2); (try clear hk); (try clear hi)) | (go_at_call 55; (with_reducible refine (strings_TrimRight.calls k3 (T_.extract ((ji40) : Int).toNat T_.size) (⟨#[48]⟩ : ByteArray) t363 _ A45.out).mono ?_); rintro e w' ⟨rfl, ⟨nd, rfl⟩⟩; (try first | exact ⟨rfl, _, World.drewN_drewN _ _ _⟩ | exact ⟨rfl, _, Eq.trans (World.drewN_drewN _ _ _) (congrArg (World.drewN _) (Nat.add_assoc _ _ _))⟩)))
                                        repeat (go_quiet (first | (go_at_call 53; (with_reducible refine (single_long_digits.calls k3 _ _ x5_3 t361 _ ?side1 ?side2 A36.out).mono ?_); (case side1 => repeat (first | exact (Kd.R_reads' HO_5.out).2.2 | (with_reducible refine Kd.C_alloc ?_ _) | (with_reducible refine Kd.C_drewN ?_ _) | (with_reducible refine Kd.C_drew ?_))); (case side2 => exact (Kd.R_reads' HO_5.out).2.1); rintro e w55 ⟨rfl, hb⟩; have n0_ := Aside0.mk (Kd.R_below (by (with_reducible repeat (first | apply Kd.R_alloc | apply Kd.R_drewN | apply Kd.R_drew)); exact HO_5.out) hb); have n1_ := Aside0.mk (blk_below (g := gb347) (o := .cells #[.int .i64 t343, .bool t344, .int .i64 t345, .int .i64 t346] 24 (0, 0)) (by (with_reducible repeat (first | refine blk_drewN ?_ _ | refine blk_drew ?_ | refine blk_alloc ?_ _)); exact BK347.out) hb); have n2_ := Aside0.mk (below_step (by repeat (first | (with_reducible first | exact HB.out | apply below_alloc | apply pw_below_drewN | apply below_drew1 | refine below_set ?_ GE347.out) | exact HB.out)) hb); clear HO_5; clear BK347; clear HB; have HO_5 := n0_; have BK347 := n1_; have HB := n2_; clear n0_ n1_ n2_; (try clear hb); (try clear hb2); (try clear hk); (try clear hi)) | (go_at_call 54; (with_reducible refine (strings_Repeat.calls (⟨#[48]⟩ : ByteArray) (wrap64 ((wrap64 ((wrap64 (-t346)) + 1)) - (t361.size : Int))) t362 _ A38.out).mono ?_); rintro e w56 ⟨rfl, hb⟩; have n0_ := Aside0.mk (Kd.R_below (by (with_reducible repeat (first | apply Kd.R_alloc | apply Kd.R_drewN | apply Kd.R_drew)); exact HO_5.out) hb); have n1_ := Aside0.mk (blk_below (g := gb347) (o := .cells #[.int .i64 t343, .bool t344, .int .i64 t345, .int .i64 t346] 24 (0, 0)) (by (with_reducible repeat (first | refine blk_drewN ?_ _ | refine blk_drew ?_ | refine blk_alloc ?_ _)); exact BK347.out) hb); have n2_ := Aside0.mk (below_step (by repeat (first | (with_reducible first | exact HB.out | apply below_alloc | apply pw_below_drewN | apply below_drew1 | refine below_set ?_ GE347.out) | exact HB.out)) hb); clear HO_5; clear BK347; clear HB; have HO_5 := n0_; have BK347 := n1_; have HB := n2_; clear n0_ n1_ n2_; (try clear hb); (try clear hb2); (try clear hk); (try clear hi)) | (go_at_call 55; (with_reducible refine (strings_TrimRight.calls k3 (T_.extract ((ji40) : Int).toNat T_.size) (⟨#[48]⟩ : ByteArray) t363 _ A45.out).mono ?_); rintro e w' ⟨rfl, ⟨nd, rfl⟩⟩; (try first | exact ⟨rfl, _, World.drewN_drewN _ _ _⟩ | exact ⟨rfl, _, Eq.trans (World.drewN_drewN _ _ _) (congrArg (World.drewN _) (Nat.add_assoc _ _ _))⟩))); try go_wp2_with (first | (go_at_call 53; (with_reducible refine (single_long_digits.calls k3 _ _ x5_3 t361 _ ?side1 ?side2 A36.out).mono ?_); (case side1 => repeat (first | exact (Kd.R_reads' HO_5.out).2.2 | (with_reducible refine Kd.C_alloc ?_ _) | (with_reducible refine Kd.C_drewN ?_ _) | (with_reducible refine Kd.C_drew ?_))); (case side2 => exact (Kd.R_reads' HO_5.out).2.1); rintro e w55 ⟨rfl, hb⟩; have n0_ := Aside0.mk (Kd.R_below (by (with_reducible repeat (first | apply Kd.R_alloc | apply Kd.R_drewN | apply Kd.R_drew)); exact HO_5.out) hb); have n1_ := Aside0.mk (blk_below (g := gb347) (o := .cells #[.int .i64 t343, .bool t344, .int .i64 t345, .int .i64 t346] 24 (0, 0)) (by (with_reducible repeat (first | refine blk_drewN ?_ _ | refine blk_drew ?_ | refine blk_alloc ?_ _)); exact BK347.out) hb); have n2_ := Aside0.mk (below_step (by repeat (first | (with_reducible first | exact HB.out | apply below_alloc | apply pw_below_drewN | apply below_drew1 | refine below_set ?_ GE347.out) | exact HB.out)) hb); clear HO_5; clear BK347; clear HB; have HO_5 := n0_; have BK347 := n1_; have HB := n2_; clear n0_ n1_ n2_; (try clear hb); (try clear hb2); (try clear hk); (try clear hi)) | (go_at_call 54; (with_reducible refine (strings_Repeat.calls (⟨#[48]⟩ : ByteArray) (wrap64 ((wrap64 ((wrap64 (-t346)) + 1)) - (t361.size : Int))) t362 _ A38.out).mono ?_); rintro e w56 ⟨rfl, hb⟩; have n0_ := Aside0.mk (Kd.R_below (by (with_reducible repeat (first | apply Kd.R_alloc | apply Kd.R_drewN | apply Kd.R_drew)); exact HO_5.out) hb); have n1_ := Aside0.mk (blk_below (g := gb347) (o := .cells #[.int .i64 t343, .bool t344, .int .i64 t345, .int .i64 t346] 24 (0, 0)) (by (with_reducible repeat (first | refine blk_drewN ?_ _ | refine blk_drew ?_ | refine blk_alloc ?_ _)); exact BK347.out) hb); have n2_ := Aside0.mk (below_step (by repeat (first | (with_reducible first | exact HB.out | apply below_alloc | apply pw_below_drewN | apply below_drew1 | refine below_set ?_ GE347.out) | exact HB.out)) hb); clear HO_5; clear BK347; clear HB; have HO_5 := n0_; have BK347 := n1_; have HB := n2_; clear n0_ n1_ n2_; (try clear hb); (try clear hb2); (try clear hk); (try clear hi)) | (go_at_call 55; (with_reducible refine (strings_TrimRight.calls k3 (T_.extract ((ji40) : Int).toNat T_.size) (⟨#[48]⟩ : ByteArray) t363 _ A45.out).mono ?_); rintro e w' ⟨rfl, ⟨nd, rfl⟩⟩; (try first | exact ⟨rfl, _, World.drewN_drewN _ _ _⟩ | exact ⟨rfl, _, Eq.trans (World.drewN_drewN _ _ _) (congrArg (World.drewN _) (Nat.add_assoc _ _ _))⟩))))
                                        go_ret
                                        exact ⟨by first | rfl | (simp [errW_none, errW_some] <;> rfl) | (simp only [← hji40]; first | rfl | (simp [errW_none, errW_some] <;> rfl)) | (simp [*, errW_none, errW_some] <;> rfl), by repeat (first | (with_reducible first | exact HB.out | apply below_alloc | apply pw_below_drewN | apply below_drew1 | refine below_set ?_ GE347.out) | exact HB.out)⟩
                                      · rw [if_neg c53] at H
                                        exact absurd H (by simp)
                                    · rw [if_neg c52] at H
                                      exact absurd H (by simp)
                                  · rw [if_neg c51] at H
                                    exact absurd H (by simp)
                              · rw [if_neg c42] at H
                                exact absurd H (by simp)
                            · rw [if_neg c41] at H
                              exact absurd H (by simp)
                          · rw [if_neg c39] at H
                            exact absurd H (by simp)
                        · rw [if_neg c37] at H
                          have c37b0 : decide ((t361.size : Int) ≤ (wrap64 (-t346))) = false := decide_eq_false c37
                          clear c37
                          obtain ⟨ji57, hji57⟩ : ∃ j_ : Int, (wrap64 ((t361.size : Int) - (wrap64 (-t346)))) = j_ := ⟨_, rfl⟩
                          replace H : (if 0 ≤ (ji57) then (if (ji57) ≤ (t361.size : Int) then ((strings_TrimRight.f k3 (t361.extract ((ji57) : Int).toNat t361.size) (⟨#[48]⟩ : ByteArray)).bind fun t364 => (if t364.toList = ([] : List UInt8) then (if x4_2.size + (t361.extract 0 ((ji57) : Int).toNat).size ≤ 9223372036854775807 then (some (x4_2 ++ (t361.extract 0 ((ji57) : Int).toNat))) else (none)) else (if 1 + t364.size ≤ 9223372036854775807 then (if (t361.extract 0 ((ji57) : Int).toNat).size + ((⟨#[46]⟩ : ByteArray) ++ t364).size ≤ 9223372036854775807 then (if x4_2.size + ((t361.extract 0 ((ji57) : Int).toNat) ++ ((⟨#[46]⟩ : ByteArray) ++ t364)).size ≤ 9223372036854775807 then (some (x4_2 ++ ((t361.extract 0 ((ji57) : Int).toNat) ++ ((⟨#[46]⟩ : ByteArray) ++ t364)))) else (none)) else (none)) else (none)))) else (none)) else (none)) = some r := by first | (rw [hji57] at H; exact H) | (simp only [hji57] at H ⊢; exact H)
                          (try rw [hji57] at A36)
                          have hji57w : (IntKind.i64.wrap ((t361.size : Int) - (wrap64 (-t346)))) = ji57 := (i64_w _).trans hji57
                          by_cases c58 : 0 ≤ (ji57)
                          · rw [if_pos c58] at H
                            have c58b0 := eq_true c58
                            have c58b1 : decide (0 ≤ (ji57)) = true := decide_eq_true c58
                            clear c58
                            by_cases c59 : (ji57) ≤ (t361.size : Int)
                            · rw [if_pos c59] at H
                              have c59b0 := eq_true c59
                              have c59b1 : decide ((ji57) ≤ (t361.size : Int)) = true := decide_eq_true c59
                              clear c59
                              have c60b0 := eq_true (of_decide_eq_true (by first | (with_reducible assumption) | assumption) : 0 ≤ (ji57))
                              have c61b0 := eq_true (of_decide_eq_true (by first | (with_reducible assumption) | assumption) : (ji57) ≤ (t361.size : Int))
                              replace H := Option.bind_eq_some_iff.mp H
                              obtain ⟨t364, A620, H⟩ := H
                              replace H : (if t364.toList = ([] : List UInt8) then (if x4_2.size + (t361.extract 0 ((ji57) : Int).toNat).size ≤ 9223372036854775807 then (some (x4_2 ++ (t361.extract 0 ((ji57) : Int).toNat))) else (none)) else (if 1 + t364.size ≤ 9223372036854775807 then (if (t361.extract 0 ((ji57) : Int).toNat).size + ((⟨#[46]⟩ : ByteArray) ++ t364).size ≤ 9223372036854775807 then (if x4_2.size + ((t361.extract 0 ((ji57) : Int).toNat) ++ ((⟨#[46]⟩ : ByteArray) ++ t364)).size ≤ 9223372036854775807 then (some (x4_2 ++ ((t361.extract 0 ((ji57) : Int).toNat) ++ ((⟨#[46]⟩ : ByteArray) ++ t364)))) else (none)) else (none)) else (none))) = some r := H
                              have A62 := Aside0.mk A620
                              clear A620
                              by_cases c63 : t364.toList = ([] : List UInt8)
                              · rw [if_pos c63] at H
                                have c63b0 : (t364.toList == ([] : List UInt8)) = true := beq_iff_eq.mpr c63
                                have c63b1 : (t364.toList != ([] : List UInt8)) = false := bne_eq_false_iff_eq.mpr c63
                                clear c63
                                by_cases c64 : x4_2.size + (t361.extract 0 ((ji57) : Int).toNat).size ≤ 9223372036854775807
                                · rw [if_pos c64] at H
                                  have c64b0 := eq_true c64
                                  have c64b1 : decide (x4_2.size + (t361.extract 0 ((ji57) : Int).toNat).size ≤ 9223372036854775807) = true := decide_eq_true c64
                                  try have c64b2 : (9223372036854775807 < x4_2.size + (t361.extract 0 ((ji57) : Int).toNat).size) = False := eq_false (Nat.not_lt.2 c64)
                                  obtain rfl := Option.some.inj H
                                  obtain ⟨Ao65, co65, eo65⟩ := Kd.R_slice HO_5.out
                                  subst eo65
                                  go_wp2_with (first | (go_at_call 53; (with_reducible refine (single_long_digits.calls k3 _ _ x5_3 t361 _ ?side1 ?side2 A36.out).mono ?_); (case side1 => repeat (first | exact (Kd.R_reads' HO_5.out).2.2 | (with_reducible refine Kd.C_alloc ?_ _) | (with_reducible refine Kd.C_drewN ?_ _) | (with_reducible refine Kd.C_drew ?_))); (case side2 => exact (Kd.R_reads' HO_5.out).2.1); rintro e w66 ⟨rfl, hb⟩; have n0_ := Aside0.mk (Kd.R_below (by (with_reducible repeat (first | apply Kd.R_alloc | apply Kd.R_drewN | apply Kd.R_drew)); exact HO_5.out) hb); have n1_ := Aside0.mk (blk_below (g := gb347) (o := .cells #[.int .i64 t343, .bool t344, .int .i64 t345, .int .i64 t346] 24 (0, 0)) (by (with_reducible repeat (first | refine blk_drewN ?_ _ | refine blk_drew ?_ | refine blk_alloc ?_ _)); exact BK347.out) hb); have n2_ := Aside0.mk (below_step (by repeat (first | (with_reducible first | exact HB.out | apply below_alloc | apply pw_below_drewN | apply below_drew1 | refine below_set ?_ GE347.out) | exact HB.out)) hb); clear HO_5; clear BK347; clear HB; have HO_5 := n0_; have BK347 := n1_; have HB := n2_; clear n0_ n1_ n2_; (try clear hb); (try clear hb2); (try clear hk); (try clear hi)) | (go_at_call 55; (with_reducible refine (strings_TrimRight.calls k3 (t361.extract ((ji57) : Int).toNat t361.size) (⟨#[48]⟩ : ByteArray) t364 _ A62.out).mono ?_); rintro e w' ⟨rfl, ⟨nd, rfl⟩⟩; (try first | exact ⟨rfl, _, World.drewN_drewN _ _ _⟩ | exact ⟨rfl, _, Eq.trans (World.drewN_drewN _ _ _) (congrArg (World.drewN _) (Nat.add_assoc _ _ _))⟩)))
                                  repeat (go_quiet (first | (go_at_call 53; (with_reducible refine (single_long_digits.calls k3 _ _ x5_3 t361 _ ?side1 ?side2 A36.out).mono ?_); (case side1 => repeat (first | exact (Kd.R_reads' HO_5.out).2.2 | (with_reducible refine Kd.C_alloc ?_ _) | (with_reducible refine Kd.C_drewN ?_ _) | (with_reducible refine Kd.C_drew ?_))); (case side2 => exact (Kd.R_reads' HO_5.out).2.1); rintro e w66 ⟨rfl, hb⟩; have n0_ := Aside0.mk (Kd.R_below (by (with_reducible repeat (first | apply Kd.R_alloc | apply Kd.R_drewN | apply Kd.R_drew)); exact HO_5.out) hb); have n1_ := Aside0.mk (blk_below (g := gb347) (o := .cells #[.int .i64 t343, .bool t344, .int .i64 t345, .int .i64 t346] 24 (0, 0)) (by (with_reducible repeat (first | refine blk_drewN ?_ _ | refine blk_drew ?_ | refine blk_alloc ?_ _)); exact BK347.out) hb); have n2_ := Aside0.mk (below_step (by repeat (first | (with_reducible first | exact HB.out | apply below_alloc | apply pw_below_drewN | apply below_drew1 | refine below_set ?_ GE347.out) | exact HB.out)) hb); clear HO_5; clear BK347; clear HB; have HO_5 := n0_; have BK347 := n1_; have HB := n2_; clear n0_ n1_ n2_; (try clear hb); (try clear hb2); (try clear hk); (try clear hi)) | (go_at_call 55; (with_reducible refine (strings_TrimRight.calls k3 (t361.extract ((ji57) : Int).toNat t361.size) (⟨#[48]⟩ : ByteArray) t364 _ A62.out).mono ?_); rintro e w' ⟨rfl, ⟨nd, rfl⟩⟩; (try first | exact ⟨rfl, _, World.drewN_drewN _ _ _⟩ | exact ⟨rfl, _, Eq.trans (World.drewN_drewN _ _ _) (congrArg (World.drewN _) (Nat.add_assoc _ _ _))⟩))); try go_wp2_with (first | (go_at_call 53; (with_reducible refine (single_long_digits.calls k3 _ _ x5_3 t361 _ ?side1 ?side2 A36.out).mono ?_); (case side1 => repeat (first | exact (Kd.R_reads' HO_5.out).2.2 | (with_reducible refine Kd.C_alloc ?_ _) | (with_reducible refine Kd.C_drewN ?_ _) | (with_reducible refine Kd.C_drew ?_))); (case side2 => exact (Kd.R_reads' HO_5.out).2.1); rintro e w66 ⟨rfl, hb⟩; have n0_ := Aside0.mk (Kd.R_below (by (with_reducible repeat (first | apply Kd.R_alloc | apply Kd.R_drewN | apply Kd.R_drew)); exact HO_5.out) hb); have n1_ := Aside0.mk (blk_below (g := gb347) (o := .cells #[.int .i64 t343, .bool t344, .int .i64 t345, .int .i64 t346] 24 (0, 0)) (by (with_reducible repeat (first | refine blk_drewN ?_ _ | refine blk_drew ?_ | refine blk_alloc ?_ _)); exact BK347.out) hb); have n2_ := Aside0.mk (below_step (by repeat (first | (with_reducible first | exact HB.out | apply below_alloc | apply pw_below_drewN | apply below_drew1 | refine below_set ?_ GE347.out) | exact HB.out)) hb); clear HO_5; clear BK347; clear HB; have HO_5 := n0_; have BK347 := n1_; have HB := n2_; clear n0_ n1_ n2_; (try clear hb); (try clear hb2); (try clear hk); (try clear hi)) | (go_at_call 55; (with_reducible refine (strings_TrimRight.calls k3 (t361.extract ((ji57) : Int).toNat t361.size) (⟨#[48]⟩ : ByteArray) t364 _ A62.out).mono ?_); rintro e w' ⟨rfl, ⟨nd, rfl⟩⟩; (try first | exact ⟨rfl, _, World.drewN_drewN _ _ _⟩ | exact ⟨rfl, _, Eq.trans (World.drewN_drewN _ _ _) (congrArg (World.drewN _) (Nat.add_assoc _ _ _))⟩))))
                                  go_ret
                                  exact ⟨by first | rfl | (simp [errW_none, errW_some] <;> rfl) | (simp only [← hji57]; first | rfl | (simp [errW_none, errW_some] <;> rfl)) | (simp [*, errW_none, errW_some] <;> rfl), by repeat (first | (with_reducible first | exact HB.out | apply below_alloc | apply pw_below_drewN | apply below_drew1 | refine below_set ?_ GE347.out) | exact HB.out)⟩
                                · rw [if_neg c64] at H
                                  exact absurd H (by simp)
                              · rw [if_neg c63] at H
                                have c63b0 : (t364.toList == ([] : List UInt8)) = false := beq_eq_false_iff_ne.mpr c63
                                have c63b1 : (t364.toList != ([] : List UInt8)) = true := bne_iff_ne.mpr c63
                                by_cases c67 : 1 + t364.size ≤ 9223372036854775807
                                · rw [if_pos c67] at H
                                  have c67b0 := eq_true c67
                                  have c67b1 : decide (1 + t364.size ≤ 9223372036854775807) = true := decide_eq_true c67
                                  try have c67b2 : (9223372036854775807 < 1 + t364.size) = False := eq_false (Nat.not_lt.2 c67)
                                  by_cases c68 : (t361.extract 0 ((ji57) : Int).toNat).size + ((⟨#[46]⟩ : ByteArray) ++ t364).size ≤ 9223372036854775807
                                  · rw [if_pos c68] at H
                                    have c68b0 := eq_true c68
                                    have c68b1 : decide ((t361.extract 0 ((ji57) : Int).toNat).size + ((⟨#[46]⟩ : ByteArray) ++ t364).size ≤ 9223372036854775807) = true := decide_eq_true c68
                                    try have c68b2 : (9223372036854775807 < (t361.extract 0 ((ji57) : Int).toNat).size + ((⟨#[46]⟩ : ByteArray) ++ t364).size) = False := eq_false (Nat.not_lt.2 c68)
                                    by_cases c69 : x4_2.size + ((t361.extract 0 ((ji57) : Int).toNat) ++ ((⟨#[46]⟩ : ByteArray) ++ t364)).size ≤ 9223372036854775807
                                    · rw [if_pos c69] at H
                                      have c69b0 := eq_true c69
                                      have c69b1 : decide (x4_2.size + ((t361.extract 0 ((ji57) : Int).toNat) ++ ((⟨#[46]⟩ : ByteArray) ++ t364)).size ≤ 9223372036854775807) = true := decide_eq_true c69
                                      try have c69b2 : (9223372036854775807 < x4_2.size + ((t361.extract 0 ((ji57) : Int).toNat) ++ ((⟨#[46]⟩ : ByteArray) ++ t364)).size) = False := eq_false (Nat.not_lt.2 c69)
                                      obtain rfl := Option.some.inj H
                                      obtain ⟨Ao70, co70, eo70⟩ := Kd.R_slice HO_5.out
                                      subst eo70
                                      go_wp2_with (first | (go_at_call 53; (with_reducible refine (single_long_digits.calls k3 _ _ x5_3 t361 _ ?side1 ?side2 A36.out).mono ?_); (case side1 => repeat (first | exact (Kd.R_reads' HO_5.out).2.2 | (with_reducible refine Kd.C_alloc ?_ _) | (with_reducible refine Kd.C_drewN ?_ _) | (with_reducible refine Kd.C_drew ?_))); (case side2 => exact (Kd.R_reads' HO_5.out).2.1); rintro e w71 ⟨rfl, hb⟩; have n0_ := Aside0.mk (Kd.R_below (by (with_reducible repeat (first | apply Kd.R_alloc | apply Kd.R_drewN | apply Kd.R_drew)); exact HO_5.out) hb); have n1_ := Aside0.mk (blk_below (g := gb347) (o := .cells #[.int .i64 t343, .bool t344, .int .i64 t345, .int .i64 t346] 24 (0, 0)) (by (with_reducible repeat (first | refine blk_drewN ?_ _ | refine blk_drew ?_ | refine blk_alloc ?_ _)); exact BK347.out) hb); have n2_ := Aside0.mk (below_step (by repeat (first | (with_reducible first | exact HB.out | apply below_alloc | apply pw_below_drewN | apply below_drew1 | refine below_set ?_ GE347.out) | exact HB.out)) hb); clear HO_5; clear BK347; clear HB; have HO_5 := n0_; have BK347 := n1_; have HB := n2_; clear n0_ n1_ n2_; (try clear hb); (try clear hb2); (try clear hk); (try clear hi)) | (go_at_call 55; (with_reducible refine (strings_TrimRight.calls k3 (t361.extract ((ji57) : Int).toNat t361.size) (⟨#[48]⟩ : ByteArray) t364 _ A62.out).mono ?_); rintro e w' ⟨rfl, ⟨nd, rfl⟩⟩; (try first | exact ⟨rfl, _, World.drewN_drewN _ _ _⟩ | exact ⟨rfl, _, Eq.trans (World.drewN_drewN _ _ _) (congrArg (World.drewN _) (Nat.add_assoc _ _ _))⟩)))
                                      repeat (go_quiet (first | (go_at_call 53; (with_reducible refine (single_long_digits.calls k3 _ _ x5_3 t361 _ ?side1 ?side2 A36.out).mono ?_); (case side1 => repeat (first | exact (Kd.R_reads' HO_5.out).2.2 | (with_reducible refine Kd.C_alloc ?_ _) | (with_reducible refine Kd.C_drewN ?_ _) | (with_reducible refine Kd.C_drew ?_))); (case side2 => exact (Kd.R_reads' HO_5.out).2.1); rintro e w71 ⟨rfl, hb⟩; have n0_ := Aside0.mk (Kd.R_below (by (with_reducible repeat (first | apply Kd.R_alloc | apply Kd.R_drewN | apply Kd.R_drew)); exact HO_5.out) hb); have n1_ := Aside0.mk (blk_below (g := gb347) (o := .cells #[.int .i64 t343, .bool t344, .int .i64 t345, .int .i64 t346] 24 (0, 0)) (by (with_reducible repeat (first | refine blk_drewN ?_ _ | refine blk_drew ?_ | refine blk_alloc ?_ _)); exact BK347.out) hb); have n2_ := Aside0.mk (below_step (by repeat (first | (with_reducible first | exact HB.out | apply below_alloc | apply pw_below_drewN | apply below_drew1 | refine below_set ?_ GE347.out) | exact HB.out)) hb); clear HO_5; clear BK347; clear HB; have HO_5 := n0_; have BK347 := n1_; have HB := n2_; clear n0_ n1_ n2_; (try clear hb); (try clear hb2); (try clear hk); (try clear hi)) | (go_at_call 55; (with_reducible refine (strings_TrimRight.calls k3 (t361.extract ((ji57) : Int).toNat t361.size) (⟨#[48]⟩ : ByteArray) t364 _ A62.out).mono ?_); rintro e w' ⟨rfl, ⟨nd, rfl⟩⟩; (try first | exact ⟨rfl, _, World.drewN_drewN _ _ _⟩ | exact ⟨rfl, _, Eq.trans (World.drewN_drewN _ _ _) (congrArg (World.drewN _) (Nat.add_assoc _ _ _))⟩))); try go_wp2_with (first | (go_at_call 53; (with_reducible refine (single_long_digits.calls k3 _ _ x5_3 t361 _ ?side1 ?side2 A36.out).mono ?_); (case side1 => repeat (first | exact (Kd.R_reads' HO_5.out).2.2 | (with_reducible refine Kd.C_alloc ?_ _) | (with_reducible refine Kd.C_drewN ?_ _) | (with_reducible refine Kd.C_drew ?_))); (case side2 => exact (Kd.R_reads' HO_5.out).2.1); rintro e w71 ⟨rfl, hb⟩; have n0_ := Aside0.mk (Kd.R_below (by (with_reducible repeat (first | apply Kd.R_alloc | apply Kd.R_drewN | apply Kd.R_drew)); exact HO_5.out) hb); have n1_ := Aside0.mk (blk_below (g := gb347) (o := .cells #[.int .i64 t343, .bool t344, .int .i64 t345, .int .i64 t346] 24 (0, 0)) (by (with_reducible repeat (first | refine blk_drewN ?_ _ | refine blk_drew ?_ | refine blk_alloc ?_ _)); exact BK347.out) hb); have n2_ := Aside0.mk (below_step (by repeat (first | (with_reducible first | exact HB.out | apply below_alloc | apply pw_below_drewN | apply below_drew1 | refine below_set ?_ GE347.out) | exact HB.out)) hb); clear HO_5; clear BK347; clear HB; have HO_5 := n0_; have BK347 := n1_; have HB := n2_; clear n0_ n1_ n2_; (try clear hb); (try clear hb2); (try clear hk); (try clear hi)) | (go_at_call 55; (with_reducible refine (strings_TrimRight.calls k3 (t361.extract ((ji57) : Int).toNat t361.size) (⟨#[48]⟩ : ByteArray) t364 _ A62.out).mono ?_); rintro e w' ⟨rfl, ⟨nd, rfl⟩⟩; (try first | exact ⟨rfl, _, World.drewN_drewN _ _ _⟩ | exact ⟨rfl, _, Eq.trans (World.drewN_drewN _ _ _) (congrArg (World.drewN _) (Nat.add_assoc _ _ _))⟩))))
                                      go_ret
                                      exact ⟨by first | rfl | (simp [errW_none, errW_some] <;> rfl) | (simp only [← hji57]; first | rfl | (simp [errW_none, errW_some] <;> rfl)) | (simp [*, errW_none, errW_some] <;> rfl), by repeat (first | (with_reducible first | exact HB.out | apply below_alloc | apply pw_below_drewN | apply below_drew1 | refine below_set ?_ GE347.out) | exact HB.out)⟩
                                    · rw [if_neg c69] at H
                                      exact absurd H (by simp)
                                  · rw [if_neg c68] at H
                                    exact absurd H (by simp)
                                · rw [if_neg c67] at H
                                  exact absurd H (by simp)
                            · rw [if_neg c59] at H
                              exact absurd H (by simp)
                          · rw [if_neg c58] at H
                            exact absurd H (by simp)
end Go.Proofs.YteecekhfpfnepaaDoor.PAll
end

section
namespace Go.Proofs.YteecekhfpfnepaaDoor.PAll
open Go.RowKit Go.Proofs.YteecekhfpfnepaaDoorW.PrintWords Go.Proofs.YteecekhfpfnepaaDoorW.PrintLast Go.Proofs.YteecekhfpfnepaaDoorW.PrintMore
attribute [local go_sem] max2_int min2_int max_two min_two max_three min_three max_four min_four   -- for this text's walks alone
set_option linter.unusedVariables false
set_option linter.unusedSimpArgs false
def heraldref03_Parts.l0 : Nat → Int → Bool → Int → Int → Option (Int × Bool × Int × Int)
  | 0, _, _, _, _ => none
  | k + 1, x3, x4, x5, x6 => if (Int.tmod x5 2) = 0 then (heraldref03_Parts.l0 k x3 x4 (wrap64 (Int.tdiv x5 2)) (wrap64 (x6 + 1))) else (some (x3, x4, x5, x6))
def heraldref03_Parts.f (k : Nat) (a0 : Int) : Option (Int × Bool × Int × Int) := (heraldref03_raw.f a0).bind fun bt401 => (if bt401.2.2.1 = 0 then (some (bt401.1, bt401.2.1, 0, 0)) else (heraldref03_Parts.l0 k bt401.1 bt401.2.1 bt401.2.2.1 bt401.2.2.2))
set_option maxHeartbeats 8000000 in
set_option maxRecDepth 100000 in
theorem heraldref03_Parts.calls (k : Nat) (a0 : Int) (r1 : Int) (r2 : Bool) (r3 : Int) (r4 : Int) (w : World) (h : heraldref03_Parts.f k a0 = some (r1, r2, r3, r4)) :
    Calls Tryd.prog 14 #[.int .u32 a0] w fun e w' => e = .returned (.agg #[.int .i64 r1, .bool r2, .int .i64 r3, .int .i64 r4]) ∧ Below w.heap.size w w' := by
  have hu26 := Tryd.underlying26
  have HB := Aside0.mk (Below.refl w.heap.size w)
  have H : ((heraldref03_raw.f a0).bind fun bt401 => (if bt401.2.2.1 = 0 then (some (bt401.1, bt401.2.1, 0, 0)) else (heraldref03_Parts.l0 k bt401.1 bt401.2.1 bt401.2.2.1 bt401.2.2.2))) = some (r1, r2, r3, r4) := h
  clear h
  replace H := Option.bind_eq_some_iff.mp H
  obtain ⟨⟨t401, t402, t403, t404⟩, A20, H⟩ := H
  replace H : (if t403 = 0 then (some (t401, t402, 0, 0)) else (heraldref03_Parts.l0 k t401 t402 t403 t404)) = some (r1, r2, r3, r4) := H
  have A2 := Aside0.mk A20
  clear A20
  by_cases c3 : t403 = 0
  · rw [if_pos c3] at H
    have c3b0 : (t403 == 0) = true := beq_iff_eq.mpr c3
    have c3b1 : (t403 != 0) = false := bne_eq_false_iff_eq.mpr c3
    clear c3
    simp only [Option.some.injEq, Prod.mk.injEq] at H
    obtain ⟨rfl, rfl, rfl, rfl⟩ := H
    go_enter Tryd.func14, Tryd.ntmps14
    go_wp2_with (first | ((with_reducible refine gate_dst (N := 2) rfl ?_); refine box_event ?hg (N := 2) ?hd (cs := #[.int .i64 0, .bool false, .int .i64 0, .int .i64 0]) (t := 26) ?hr ?_; (case hd => rfl); (case hg => rfl); (case hr => first | (go_simp; done) | (go_simp; rfl)); intro gb400 hg w4 hbox hb; have n0_ := Aside0.mk (below_step (by repeat (first | (with_reducible first | exact HB.out | apply below_alloc | apply pw_below_drewN | apply below_drew1) | exact HB.out)) hb); have n1_ := Aside0.mk (hbox); have n2_ := Aside0.mk ((by rw [hg]; exact (below_size (by repeat (first | (with_reducible first | exact HB.out | apply below_alloc | apply pw_below_drewN | apply below_drew1) | exact HB.out))) : w.heap.size ≤ gb400)); have n3_ := Aside0.mk ((by rw [hg]; exact (below_size (by repeat (first | (with_reducible first | exact HB.out | apply below_alloc | apply pw_below_drewN | apply below_drew1) | exact HB.out))) : w.heap.size ≤ gb400)); clear HB; have HB := n0_; have BK400 := n1_; have GW400 := n2_; have GE400 := n3_; clear n0_ n1_ n2_ n3_; clear hb hbox hg) | ((with_reducible refine gate_callee (f := 37) rfl ?_); refine goesL_ (some 9) rfl rfl Tryd.func37 (by kernel_rfl) rfl #[.int .u32 a0] rfl (by (try simp only [List.map_toArray, List.map_cons, List.map_nil]); first | done | rfl | (simp only [List.length_drop, List.length_take]; rfl)) ?_; (with_reducible refine (heraldref03_raw.calls a0 t401 t402 t403 t404 _ A2.out).mono ?_); rintro e w' ⟨rfl, ⟨nd, rfl⟩⟩; refine ⟨_, rfl, ?_⟩; (try (rw [drewN_self w4]; generalize hq_ : World.drewN w4 _ = w4; have n0_ : Aside0 (w4.heap[gb400]? = some (.cells #[.int .i64 0, .bool false, .int .i64 0, .int .i64 0] 26 (0, 0))) := ⟨by rw [← hq_]; exact (by (with_reducible repeat (first | refine blk_drewN ?_ _ | refine blk_drew ?_ | refine blk_alloc ?_ _)); exact BK400.out)⟩; have n1_ : Aside0 (Below w.heap.size w w4) := ⟨by rw [← hq_]; exact (by repeat (first | (with_reducible first | exact HB.out | apply below_alloc | apply pw_below_drewN | apply below_drew1 | refine below_set ?_ GE400.out) | exact HB.out))⟩; clear BK400 HB hq_; have BK400 := n0_; have HB := n1_; clear n0_ n1_)); have hcz5_0 : w4.cell? ⟨gb400, 0, none⟩ = some (.int .i64 0) := (blk_cell BK400.out 0).trans rfl; have hcz5_1 : w4.cell? ⟨gb400, 1, none⟩ = some (.bool false) := (blk_cell BK400.out 1).trans rfl; have hcz5_2 : w4.cell? ⟨gb400, 2, none⟩ = some (.int .i64 0) := (blk_cell BK400.out 2).trans rfl; have hcz5_3 : w4.cell? ⟨gb400, 3, none⟩ = some (.int .i64 0) := (blk_cell BK400.out 3).trans rfl; have hfz5_0 := blk_frozen BK400.out 0; have hfz5_1 := blk_frozen BK400.out 1; have hfz5_2 := blk_frozen BK400.out 2; have hfz5_3 := blk_frozen BK400.out 3))
    refine bodyPost_ret (results_cell_row rfl _ _ gb400 26 #[.int .i64 t401, .bool t402, .int .i64 0, .int .i64 0] (0, 0) _ rfl (by (with_reducible repeat (first | refine blk_drewN ?_ _ | refine blk_drew ?_ | refine blk_alloc ?_ _)); refine blk_put (cs := #[.int .i64 t401, .bool t402, .int .i64 0, .int .i64 0]) ?_ 3 _ rfl; (with_reducible repeat (first | refine blk_drewN ?_ _ | refine blk_drew ?_ | refine blk_alloc ?_ _)); refine blk_put (cs := #[.int .i64 t401, .bool t402, .int .i64 0, .int .i64 0]) ?_ 2 _ rfl; (with_reducible repeat (first | refine blk_drewN ?_ _ | refine blk_drew ?_ | refine blk_alloc ?_ _)); refine blk_put (cs := #[.int .i64 t401, .bool false, .int .i64 0, .int .i64 0]) ?_ 1 _ rfl; (with_reducible repeat (first | refine blk_drewN ?_ _ | refine blk_drew ?_ | refine blk_alloc ?_ _)); refine blk_put (cs := #[.int .i64 0, .bool false, .int .i64 0, .int .i64 0]) ?_ 0 _ rfl; (with_reducible repeat (first | refine blk_drewN ?_ _ | refine blk_drew ?_ | refine blk_alloc ?_ _)); exact BK400.out) Tryd.underlying26 rfl (by kernel_rfl)) rfl ?_
    exact ⟨by first | rfl | (simp [errW_none, errW_some] <;> rfl) | (simp [*, errW_none, errW_some] <;> rfl), by repeat (first | (with_reducible first | exact HB.out | apply below_alloc | apply pw_below_drewN | apply below_drew1 | refine below_set ?_ GE400.out) | exact HB.out)⟩
  · rw [if_neg c3] at H
    have c3b0 : (t403 == 0) = false := beq_eq_false_iff_ne.mpr c3
    have c3b1 : (t403 != 0) = true := bne_iff_ne.mpr c3
    have H' := Aside0.mk H
    clear H
    go_enter Tryd.func14, Tryd.ntmps14
    go_wp2_with (first | ((with_reducible refine gate_dst (N := 2) rfl ?_); refine box_event ?hg (N := 2) ?hd (cs := #[.int .i64 0, .bool false, .int .i64 0, .int .i64 0]) (t := 26) ?hr ?_; (case hd => rfl); (case hg => rfl); (case hr => first | (go_simp; done) | (go_simp; rfl)); intro gb400 hg w6 hbox hb; have n0_ := Aside0.mk (below_step (by repeat (first | (with_reducible first | exact HB.out | apply below_alloc | apply pw_below_drewN | apply below_drew1) | exact HB.out)) hb); have n1_ := Aside0.mk (hbox); have n2_ := Aside0.mk ((by rw [hg]; exact (below_size (by repeat (first | (with_reducible first | exact HB.out | apply below_alloc | apply pw_below_drewN | apply below_drew1) | exact HB.out))) : w.heap.size ≤ gb400)); have n3_ := Aside0.mk ((by rw [hg]; exact (below_size (by repeat (first | (with_reducible first | exact HB.out | apply below_alloc | apply pw_below_drewN | apply below_drew1) | exact HB.out))) : w.heap.size ≤ gb400)); clear HB; have HB := n0_; have BK400 := n1_; have GW400 := n2_; have GE400 := n3_; clear n0_ n1_ n2_ n3_; clear hb hbox hg) | ((with_reducible refine gate_callee (f := 37) rfl ?_); refine goesL_ (some 9) rfl rfl Tryd.func37 (by kernel_rfl) rfl #[.int .u32 a0] rfl (by (try simp only [List.map_toArray, List.map_cons, List.map_nil]); first | done | rfl | (simp only [List.length_drop, List.length_take]; rfl)) ?_; (with_reducible refine (heraldref03_raw.calls a0 t401 t402 t403 t404 _ A2.out).mono ?_); rintro e w' ⟨rfl, ⟨nd, rfl⟩⟩; refine ⟨_, rfl, ?_⟩))
    go_loopg [5, 6] k (fun kq v5 v6 w' => ∃ (x5_1 : Int) (x6_1 : Int), v5 = .int .i64 x5_1 ∧ v6 = .int .i64 x6_1 ∧ Aside0 (heraldref03_Parts.l0 kq t401 t402 x5_1 x6_1 = some (r1, r2, r3, r4)) ∧ Aside0 (kq ≤ k) ∧ Aside0 (w'.heap[gb400]? = some (.cells #[.int .i64 0, .bool false, .int .i64 0, .int .i64 0] 26 (0, 0))) ∧ Aside0 (Below w.heap.size w w'))
    case atStart => exact ⟨(t403), (t404), (by first | rfl | (simp; done) | (simp [*]; done) | (simp [i64_w]; done) | (simp [*, i64_w]; done)), (by first | rfl | (simp; done) | (simp [*]; done) | (simp [i64_w]; done) | (simp [*, i64_w]; done)), H', ⟨Nat.le_refl _⟩, ⟨by (with_reducible repeat (first | refine blk_drewN ?_ _ | refine blk_drew ?_ | refine blk_alloc ?_ _)); exact BK400.out⟩, ⟨by repeat (first | (with_reducible first | exact HB.out | apply below_alloc | apply pw_below_drewN | apply below_drew1 | refine below_set ?_ GE400.out) | exact HB.out)⟩⟩
    case round =>
      clear H'
      try clear c1
      try clear p2
      try clear c3
      try clear c3b0
      try clear c3b1
      try clear hcz5_0
      try clear hcz5_1
      try clear hcz5_2
      try clear hcz5_3
      try clear hfz5_0
      try clear hfz5_1
      try clear hfz5_2
      try clear hfz5_3
      obtain ⟨x5_1, x6_1, rfl, rfl, HA, HK1, BK400, HB⟩ := hrel
      cases gk with
      | zero => exact absurd HA.out (by simp [heraldref03_Parts.l0])
      | succ k1 =>
        have H := HA.out
        clear HA
        simp only [heraldref03_Parts.l0] at H
        by_cases c7 : (Int.tmod x5_1 2) = 0
        · rw [if_pos c7] at H
          have c7b0 : ((Int.tmod x5_1 2) == 0) = true := beq_iff_eq.mpr c7
          have c7b1 : ((Int.tmod x5_1 2) != 0) = false := bne_eq_false_iff_eq.mpr c7
          clear c7
          have H' := Aside0.mk H
          clear H
          go_wp2
          go_roundg k1
          case measure => have := HK1.out; omega
          case rel => exact ⟨(wrap64 (Int.tdiv x5_1 2)), (wrap64 (x6_1 + 1)), (by first | rfl | (simp; done) | (simp [*]; done) | (simp [i64_w]; done) | (simp [*, i64_w]; done)), (by first | rfl | (simp; done) | (simp [*]; done) | (simp [i64_w]; done) | (simp [*, i64_w]; done)), H', ⟨by have := HK1.out; omega⟩, ⟨by (with_reducible repeat (first | refine blk_drewN ?_ _ | refine blk_drew ?_ | refine blk_alloc ?_ _)); exact BK400.out⟩, ⟨by repeat (first | (with_reducible first | exact HB.out | apply below_alloc | apply pw_below_drewN | apply below_drew1 | refine below_set ?_ GE400.out) | exact HB.out)⟩⟩
        · rw [if_neg c7] at H
          have c7b0 : ((Int.tmod x5_1 2) == 0) = false := beq_eq_false_iff_ne.mpr c7
          have c7b1 : ((Int.tmod x5_1 2) != 0) = true := bne_iff_ne.mpr c7
          simp only [Option.some.injEq, Prod.mk.injEq] at H
          obtain ⟨rfl, rfl, rfl, rfl⟩ := H
          have hcz8_0 : wr.cell? ⟨gb400, 0, none⟩ = some (.int .i64 0) := (blk_cell BK400.out 0).trans rfl
          have hcz8_1 : wr.cell? ⟨gb400, 1, none⟩ = some (.bool false) := (blk_cell BK400.out 1).trans rfl
          have hcz8_2 : wr.cell? ⟨gb400, 2, none⟩ = some (.int .i64 0) := (blk_cell BK400.out 2).trans rfl
          have hcz8_3 : wr.cell? ⟨gb400, 3, none⟩ = some (.int .i64 0) := (blk_cell BK400.out 3).trans rfl
          have hfz8_0 := blk_frozen BK400.out 0
          have hfz8_1 := blk_frozen BK400.out 1
          have hfz8_2 := blk_frozen BK400.out 2
          have hfz8_3 := blk_frozen BK400.out 3
          go_wp2
          refine bodyPost_ret (results_cell_row rfl _ _ gb400 26 #[.int .i64 t401, .bool t402, .int .i64 x5_1, .int .i64 x6_1] (0, 0) _ rfl (by (with_reducible repeat (first | refine blk_drewN ?_ _ | refine blk_drew ?_ | refine blk_alloc ?_ _)); refine blk_put (cs := #[.int .i64 t401, .bool t402, .int .i64 x5_1, .int .i64 0]) ?_ 3 _ rfl; (with_reducible repeat (first | refine blk_drewN ?_ _ | refine blk_drew ?_ | refine blk_alloc ?_ _)); refine blk_put (cs := #[.int .i64 t401, .bool t402, .int .i64 0, .int .i64 0]) ?_ 2 _ rfl; (with_reducible repeat (first | refine blk_drewN ?_ _ | refine blk_drew ?_ | refine blk_alloc ?_ _)); refine blk_put (cs := #[.int .i64 t401, .bool false, .int .i64 0, .int .i64 0]) ?_ 1 _ rfl; (with_reducible repeat (first | refine blk_drewN ?_ _ | refine blk_drew ?_ | refine blk_alloc ?_ _)); refine blk_put (cs := #[.int .i64 0, .bool false, .int .i64 0, .int .i64 0]) ?_ 0 _ rfl; (with_reducible repeat (first | refine blk_drewN ?_ _ | refine blk_drew ?_ | refine blk_alloc ?_ _)); exact BK400.out) Tryd.underlying26 rfl (by kernel_rfl)) rfl ?_
          exact ⟨by first | rfl | (simp [errW_none, errW_some] <;> rfl) | (simp [*, errW_none, errW_some] <;> rfl), by repeat (first | (with_reducible first | exact HB.out | apply below_alloc | apply pw_below_drewN | apply below_drew1 | refine below_set ?_ GE400.out) | exact HB.out)⟩
end Go.Proofs.YteecekhfpfnepaaDoor.PAll
end

section
namespace Go.Proofs.YteecekhfpfnepaaDoor.PAll
open Go.RowKit Go.Proofs.YteecekhfpfnepaaDoorW.PrintWords Go.Proofs.YteecekhfpfnepaaDoorW.PrintLast Go.Proofs.YteecekhfpfnepaaDoorW.PrintMore
set_option linter.unusedVariables false
set_option linter.unusedSimpArgs false
def strings_IndexByte.f (a0 : ByteArray) (a1 : Int) : Option Int := some (Lib.indexByte a0.data.toList a1.toNat.toUInt8)
set_option maxHeartbeats 1000000 in
set_option maxRecDepth 100000 in
theorem stringslite_index (a0 : ByteArray) (a1 : Int) (w : World) :
    Calls Tryd.prog 84 #[.string a0, .int .u8 a1] w fun e w' => e = .returned (.int .i64 (Lib.indexByte a0.data.toList a1.toNat.toUInt8)) ∧ w' = w := by
  go_enter Tryd.func84, Tryd.ntmps84
  go_wp2
  rw [run_callFunc_extern Tryd.func103 (by kernel_rfl) (by kernel_rfl) (by kernel_rfl) (e := Extern.BytealgIndexByte.indexByte) (by kernel_rfl), Lib.run_indexByteString]
  simp only [Result.andThen]
  rw [Oper.upon_value]
  go_wp2
  go_ret
  exact ⟨rfl, rfl⟩
set_option maxHeartbeats 1000000 in
set_option maxRecDepth 100000 in
theorem strings_IndexByte.calls (a0 : ByteArray) (a1 : Int) (r : Int) (w : World) (h : strings_IndexByte.f a0 a1 = some r) :
    Calls Tryd.prog 65 #[.string a0, .int .u8 a1] w fun e w' => e = .returned (.int .i64 r) ∧ Drawn0 w w' := by
  obtain rfl : Lib.indexByte a0.data.toList a1.toNat.toUInt8 = r := Option.some.inj h
  go_enter Tryd.func65, Tryd.ntmps65
  go_wp2_with (go_at_call 84; refine (stringslite_index a0 a1 _).mono ?_; rintro e w' ⟨rfl, hd⟩; subst hd)
  go_ret
  exact ⟨rfl, Drawn0.refl _⟩
end Go.Proofs.YteecekhfpfnepaaDoor.PAll
end

section
namespace Go.Proofs.YteecekhfpfnepaaDoor.PAll
open Go.RowKit Go.Proofs.YteecekhfpfnepaaDoorW.PrintWords Go.Proofs.YteecekhfpfnepaaDoorW.PrintLast Go.Proofs.YteecekhfpfnepaaDoorW.PrintMore
attribute [local go_sem] max2_int min2_int max_two min_two max_three min_three max_four min_four   -- for this text's walks alone
set_option linter.unusedVariables false
set_option linter.unusedSimpArgs false
/-- A state of type 79 at block g of W; what its slices lead to came in by w0. -/
def IsS79 (w0 W : World) (g : Nat) (f0 : ByteArray) (f1 : Int) : Prop := W.heap[g]? = some (.cells #[.string f0, .int .i64 f1] 79 (0, 0)) ∧ w0.heap.size ≤ g
theorem IsS79.grown {w0 W : World} {g : Nat} {f0 : ByteArray} {f1 : Int} {W1 : World} {row : Option Nat} (h : IsS79 w0 W g f0 f1) (hw : W.grownBy W1 row) (hne : some g ≠ row) : IsS79 w0 W1 g f0 f1 := by
  obtain ⟨hb, hg⟩ := h
  exact ⟨blk_grown hb hw hne, hg⟩
theorem IsS79.fresh {w0 W : World} {g : Nat} {f0 : ByteArray} {f1 : Int} (h : IsS79 w0 W g f0 f1) : ∀ k, W.heap.size ≤ k → k ≠ g := by
  obtain ⟨hb, hg⟩ := h
  exact Kd.freshB hb
theorem IsS79.kept {w0 W : World} {g : Nat} {f0 : ByteArray} {f1 : Int} {W1 : World} {S : Nat → Prop} (h : IsS79 w0 W g f0 f1) (hk : Kept W W1 S) (hne : ¬ S g) : IsS79 w0 W1 g f0 f1 := by
  obtain ⟨hb, hg⟩ := h
  exact ⟨blk_kept hb hk hne, hg⟩
theorem IsS79.below {w0 W : World} {g : Nat} {f0 : ByteArray} {f1 : Int} {W1 : World} (h : IsS79 w0 W g f0 f1) (hw : Below W.heap.size W W1) : IsS79 w0 W1 g f0 f1 := h.grown (grown_of_below hw none) (by simp)
theorem IsS79.alloc {w0 W : World} {g : Nat} {f0 : ByteArray} {f1 : Int} (h : IsS79 w0 W g f0 f1) (o : Obj) : IsS79 w0 (W.alloc o) g f0 f1 := h.below (below_alloc (Below.refl _ _) o)
theorem IsS79.drewN {w0 W : World} {g : Nat} {f0 : ByteArray} {f1 : Int} (h : IsS79 w0 W g f0 f1) (m : Nat) : IsS79 w0 (W.drewN m) g f0 f1 := h
theorem IsS79.drew {w0 W : World} {g : Nat} {f0 : ByteArray} {f1 : Int} (h : IsS79 w0 W g f0 f1) : IsS79 w0 W.drew g f0 f1 := h
theorem IsS79.at_ {w0 W : World} {g : Nat} {f0 : ByteArray} {f1 : Int} {w' : World} {m : Nat} (hq : W.drewN m = w') (h : IsS79 w0 W g f0 f1) : IsS79 w0 w' g f0 f1 := by subst hq; exact IsS79.drewN h m
theorem IsS79.apart {w0 W : World} {g : Nat} {f0 : ByteArray} {f1 : Int} {α : Type} {d : Kd α} {e : Nat} {base : Nat} {ok : Nat → Prop} {v : Value} {xs : List α} (h : IsS79 w0 W g f0 f1) (ho : d.R e W base ok v xs) (ht : ∀ q, q ∈ e :: d.E → q ≠ 79) : d.R e W base (fun k => ok k ∧ k ≠ g) v xs := by
  obtain ⟨hb, hg⟩ := h
  exact Kd.R_types ho hb ht
theorem IsS79.own_ne {w0 W : World} {g : Nat} {f0 : ByteArray} {f1 : Int} {α : Type} {d : Kd α} {e : Nat} {base : Nat} {ok : Nat → Prop} {v : Value} {xs : List α} (h : IsS79 w0 W g f0 f1) (ho : d.R e W base ok v xs) (ht : e ≠ 79) : some g ≠ v.ownBlock := by
  obtain ⟨hb, hg⟩ := h
  exact Kd.R_ne ho hb ht
theorem IsS79.ge {w0 W : World} {g : Nat} {f0 : ByteArray} {f1 : Int} (h : IsS79 w0 W g f0 f1) : w0.heap.size ≤ g := by
  obtain ⟨hb, hg⟩ := h
  exact hg
theorem IsS79.far {w0 W : World} {g : Nat} {f0 : ByteArray} {f1 : Int} {p : Addr} (h : IsS79 w0 W g f0 f1) (hne : g ≠ p.block) (u : Value) : IsS79 w0 (W.setCell p u) g f0 f1 := by
  obtain ⟨hb, hg⟩ := h
  exact ⟨blk_far hb hne u, hg⟩
theorem cellS79_0 {W : World} {g : Nat} {f0 : ByteArray} {f1 : Int} (h : W.heap[g]? = some (.cells #[.string f0, .int .i64 f1] 79 (0, 0))) : W.cell? ⟨g, 0, none⟩ = some (.string f0) := (blk_cell h 0).trans rfl
theorem IsS79.set_0 {w0 W : World} {g : Nat} {f0 : ByteArray} {f1 : Int} (h : IsS79 w0 W g f0 f1) (x : ByteArray) : IsS79 w0 (W.setCell ⟨g, 0, none⟩ (.string x)) g x f1 := by
  obtain ⟨hb, hg⟩ := h
  exact ⟨by simpa using blk_set hb 0 (.string x), hg⟩
theorem cellS79_1 {W : World} {g : Nat} {f0 : ByteArray} {f1 : Int} (h : W.heap[g]? = some (.cells #[.string f0, .int .i64 f1] 79 (0, 0))) : W.cell? ⟨g, 1, none⟩ = some (.int .i64 f1) := (blk_cell h 1).trans rfl
theorem IsS79.set_1 {w0 W : World} {g : Nat} {f0 : ByteArray} {f1 : Int} (h : IsS79 w0 W g f0 f1) (x : Int) : IsS79 w0 (W.setCell ⟨g, 1, none⟩ (.int .i64 x)) g f0 x := by
  obtain ⟨hb, hg⟩ := h
  exact ⟨by simpa using blk_set hb 1 (.int .i64 x), hg⟩
theorem IsS79.new (w0 W : World) (f0 : ByteArray) (f1 : Int) (hB : Below w0.heap.size w0 W) : IsS79 w0 (W.alloc (.cells #[.string f0, .int .i64 f1] 79)) W.heap.size f0 f1 := ⟨by simpa using heap_alloc_new W _, hB.size⟩
def single_reader_one.f (s0_0 : ByteArray) (s0_1 : Int) (a1 : ByteArray) : Option (Int × Bool × ByteArray × Int) := if s0_1 < (s0_0.size : Int) then (if 0 ≤ s0_1 then ((strings_IndexByte.f a1 (bt s0_0 s0_1)).bind fun t105 => (if t105 ≥ 0 then (if 0 ≤ (wrap64 ((wrap64 (s0_1 + 1)) - 1)) then (if (wrap64 ((wrap64 (s0_1 + 1)) - 1)) < (s0_0.size : Int) then (some (bt s0_0 (wrap64 ((wrap64 (s0_1 + 1)) - 1)), true, s0_0, wrap64 (s0_1 + 1))) else (none)) else (none)) else (some (0, false, s0_0, s0_1)))) else (none)) else (some (0, false, s0_0, s0_1))
set_option maxHeartbeats 8000000 in
set_option maxRecDepth 100000 in
theorem single_reader_one.calls (g : Nat) (s0_0 : ByteArray) (s0_1 : Int) (a1 : ByteArray) (r1 : Int) (r2 : Bool) (r3 : ByteArray) (r4 : Int) (w0 w : World) (hI : IsS79 w0 w g s0_0 s0_1) (hB : Below w0.heap.size w0 w) (h : single_reader_one.f s0_0 s0_1 a1 = some (r1, r2, r3, r4)) :
    Calls Tryd.prog 45 #[.pointer (some ⟨g, 0, none⟩), .string a1] w fun e w' => e = .returned (.tuple #[.int .u8 r1, .bool r2]) ∧ IsS79 w0 w' g r3 r4 ∧ Below w0.heap.size w0 w' ∧ KeepBut w w' g none := by
  have HI0 := Aside0.mk hI
  have HK := Aside0.mk (KeepBut.refl w g none)
  have HL := Aside0.mk hB.size
  clear hI
  have HW0 := Aside0.mk hB.size
  have HB := Aside0.mk hB
  clear hB
  have H : (if s0_1 < (s0_0.size : Int) then (if 0 ≤ s0_1 then ((strings_IndexByte.f a1 (bt s0_0 s0_1)).bind fun t105 => (if t105 ≥ 0 then (if 0 ≤ (wrap64 ((wrap64 (s0_1 + 1)) - 1)) then (if (wrap64 ((wrap64 (s0_1 + 1)) - 1)) < (s0_0.size : Int) then (some (bt s0_0 (wrap64 ((wrap64 (s0_1 + 1)) - 1)), true, s0_0, wrap64 (s0_1 + 1))) else (none)) else (none)) else (some (0, false, s0_0, s0_1)))) else (none)) else (some (0, false, s0_0, s0_1))) = some (r1, r2, r3, r4) := h
  clear h
  by_cases c3 : s0_1 < (s0_0.size : Int)
  · rw [if_pos c3] at H
    have c3b0 : decide (s0_1 < (s0_0.size : Int)) = true := decide_eq_true c3
    clear c3
    by_cases c4 : 0 ≤ s0_1
    · rw [if_pos c4] at H
      have c4b0 : decide (0 ≤ s0_1) = true := decide_eq_true c4
      clear c4
      replace H := Option.bind_eq_some_iff.mp H
      obtain ⟨t105, A60, H⟩ := H
      replace H : (if t105 ≥ 0 then (if 0 ≤ (wrap64 ((wrap64 (s0_1 + 1)) - 1)) then (if (wrap64 ((wrap64 (s0_1 + 1)) - 1)) < (s0_0.size : Int) then (some (bt s0_0 (wrap64 ((wrap64 (s0_1 + 1)) - 1)), true, s0_0, wrap64 (s0_1 + 1))) else (none)) else (none)) else (some (0, false, s0_0, s0_1))) = some (r1, r2, r3, r4) := H
      have A6 := Aside0.mk A60
      clear A60
      by_cases c7 : t105 ≥ 0
      · rw [if_pos c7] at H
        have c7b0 : decide (0 ≤ t105) = true := decide_eq_true c7
        clear c7
        obtain ⟨ji8, hji8⟩ : ∃ j_ : Int, (wrap64 ((wrap64 (s0_1 + 1)) - 1)) = j_ := ⟨_, rfl⟩
        replace H : (if 0 ≤ (ji8) then (if (ji8) < (s0_0.size : Int) then (some (bt s0_0 (ji8), true, s0_0, wrap64 (s0_1 + 1))) else (none)) else (none)) = some (r1, r2, r3, r4) := by first | (rw [hji8] at H; exact H) | (simp only [hji8] at H ⊢; exact H)
        (try rw [hji8] at A6)
        have hji8w : (IntKind.i64.wrap ((wrap64 (s0_1 + 1)) - 1)) = ji8 := (i64_w _).trans hji8
        by_cases c9 : 0 ≤ (ji8)
        · rw [if_pos c9] at H
          have c9b0 : decide (0 ≤ (ji8)) = true := decide_eq_true c9
          clear c9
          by_cases c10 : (ji8) < (s0_0.size : Int)
          · rw [if_pos c10] at H
            have c10b0 : decide ((ji8) < (s0_0.size : Int)) = true := decide_eq_true c10
            clear c10
            simp only [Option.some.injEq, Prod.mk.injEq] at H
            obtain ⟨rfl, rfl, rfl, rfl⟩ := H
            obtain ⟨HGz12, hgz12⟩ := HI0.out
            have hcz12_0 := cellS79_0 HGz12
            have hcz12_1 := cellS79_1 HGz12
            have hfz12_0 := blk_frozen HGz12 0
            have hfz12_1 := blk_frozen HGz12 1
            clear HGz12 hgz12
            have p5 : 0 ≤ (s0_1 : Int) := of_decide_eq_true (by first | (with_reducible assumption) | assumption)
            have q5 : s0_1 < (s0_0.size : Int) := of_decide_eq_true (by first | (with_reducible assumption) | assumption)
            have hx5 := bt_at s0_0 s0_1
            replace p5 := eq_true p5
            replace q5 := eq_true q5
            go_enter Tryd.func45, Tryd.ntmps45
            go_wp2_with (first | (go_at_call 65; (with_reducible refine (strings_IndexByte.calls a1 (bt s0_0 s0_1) t105 _ A6.out).mono ?_); rintro e w' ⟨rfl, ⟨nd, rfl⟩⟩; (try first | exact ⟨rfl, _, World.drewN_drewN _ _ _⟩ | exact ⟨rfl, _, Eq.trans (World.drewN_drewN _ _ _) (congrArg (World.drewN _) (Nat.add_assoc _ _ _))⟩); have p11 : 0 ≤ ((ji8) : Int) := of_decide_eq_true (by first | (with_reducible assumption) | assumption); have q11 : (ji8) < (s0_0.size : Int) := of_decide_eq_true (by first | (with_reducible assumption) | assumption); have hx11 := bt_at s0_0 (ji8); replace p11 := eq_true p11; replace q11 := eq_true q11))
            repeat (go_quiet (first | (go_at_call 65; (with_reducible refine (strings_IndexByte.calls a1 (bt s0_0 s0_1) t105 _ A6.out).mono ?_); rintro e w' ⟨rfl, ⟨nd, rfl⟩⟩; (try first | exact ⟨rfl, _, World.drewN_drewN _ _ _⟩ | exact ⟨rfl, _, Eq.trans (World.drewN_drewN _ _ _) (congrArg (World.drewN _) (Nat.add_assoc _ _ _))⟩); have p11 : 0 ≤ ((ji8) : Int) := of_decide_eq_true (by first | (with_reducible assumption) | assumption); have q11 : (ji8) < (s0_0.size : Int) := of_decide_eq_true (by first | (with_reducible assumption) | assumption); have hx11 := bt_at s0_0 (ji8); replace p11 := eq_true p11; replace q11 := eq_true q11)); try go_wp2_with (first | (go_at_call 65; (with_reducible refine (strings_IndexByte.calls a1 (bt s0_0 s0_1) t105 _ A6.out).mono ?_); rintro e w' ⟨rfl, ⟨nd, rfl⟩⟩; (try first | exact ⟨rfl, _, World.drewN_drewN _ _ _⟩ | exact ⟨rfl, _, Eq.trans (World.drewN_drewN _ _ _) (congrArg (World.drewN _) (Nat.add_assoc _ _ _))⟩); have p11 : 0 ≤ ((ji8) : Int) := of_decide_eq_true (by first | (with_reducible assumption) | assumption); have q11 : (ji8) < (s0_0.size : Int) := of_decide_eq_true (by first | (with_reducible assumption) | assumption); have hx11 := bt_at s0_0 (ji8); replace p11 := eq_true p11; replace q11 := eq_true q11)))
            go_ret2
            exact ⟨by first | rfl | (simp [errW_none, errW_some] <;> rfl) | (simp only [← hji8]; first | rfl | (simp [errW_none, errW_some] <;> rfl)) | (simp [*, errW_none, errW_some] <;> rfl), by repeat (first | (with_reducible first | exact HI0.out | apply IsS79.alloc | apply IsS79.drewN | apply IsS79.drew | apply IsS79.set_0 | apply IsS79.set_1) | exact HI0.out), by repeat (first | (with_reducible first | exact HB.out | apply below_alloc | apply pw_below_drewN | apply below_drew1 | refine below_set ?_ (IsS79.ge HI0.out)) | exact HB.out), by repeat (first | (with_reducible first | exact HK.out | apply KeepBut.set_ | apply keep_drewN | apply keep_drew | apply keep_alloc) | exact HK.out)⟩
          · rw [if_neg c10] at H
            exact absurd H (by simp)
        · rw [if_neg c9] at H
          exact absurd H (by simp)
      · rw [if_neg c7] at H
        have c7b0 : decide (0 ≤ t105) = false := decide_eq_false c7
        clear c7
        simp only [Option.some.injEq, Prod.mk.injEq] at H
        obtain ⟨rfl, rfl, rfl, rfl⟩ := H
        obtain ⟨HGz13, hgz13⟩ := HI0.out
        have hcz13_0 := cellS79_0 HGz13
        have hcz13_1 := cellS79_1 HGz13
        have hfz13_0 := blk_frozen HGz13 0
        have hfz13_1 := blk_frozen HGz13 1
        clear HGz13 hgz13
        have p5 : 0 ≤ (s0_1 : Int) := of_decide_eq_true (by first | (with_reducible assumption) | assumption)
        have q5 : s0_1 < (s0_0.size : Int) := of_decide_eq_true (by first | (with_reducible assumption) | assumption)
        have hx5 := bt_at s0_0 s0_1
        replace p5 := eq_true p5
        replace q5 := eq_true q5
        go_enter Tryd.func45, Tryd.ntmps45
        go_wp2_with (first | (go_at_call 65; (with_reducible refine (strings_IndexByte.calls a1 (bt s0_0 s0_1) t105 _ A6.out).mono ?_); rintro e w' ⟨rfl, ⟨nd, rfl⟩⟩; (try first | exact ⟨rfl, _, World.drewN_drewN _ _ _⟩ | exact ⟨rfl, _, Eq.trans (World.drewN_drewN _ _ _) (congrArg (World.drewN _) (Nat.add_assoc _ _ _))⟩)))
        repeat (go_quiet (first | (go_at_call 65; (with_reducible refine (strings_IndexByte.calls a1 (bt s0_0 s0_1) t105 _ A6.out).mono ?_); rintro e w' ⟨rfl, ⟨nd, rfl⟩⟩; (try first | exact ⟨rfl, _, World.drewN_drewN _ _ _⟩ | exact ⟨rfl, _, Eq.trans (World.drewN_drewN _ _ _) (congrArg (World.drewN _) (Nat.add_assoc _ _ _))⟩))); try go_wp2_with (first | (go_at_call 65; (with_reducible refine (strings_IndexByte.calls a1 (bt s0_0 s0_1) t105 _ A6.out).mono ?_); rintro e w' ⟨rfl, ⟨nd, rfl⟩⟩; (try first | exact ⟨rfl, _, World.drewN_drewN _ _ _⟩ | exact ⟨rfl, _, Eq.trans (World.drewN_drewN _ _ _) (congrArg (World.drewN _) (Nat.add_assoc _ _ _))⟩))))
        go_ret2
        exact ⟨by first | rfl | (simp [errW_none, errW_some] <;> rfl) | (simp [*, errW_none, errW_some] <;> rfl), by repeat (first | (with_reducible first | exact HI0.out | apply IsS79.alloc | apply IsS79.drewN | apply IsS79.drew | apply IsS79.set_0 | apply IsS79.set_1) | exact HI0.out), by repeat (first | (with_reducible first | exact HB.out | apply below_alloc | apply pw_below_drewN | apply below_drew1 | refine below_set ?_ (IsS79.ge HI0.out)) | exact HB.out), by repeat (first | (with_reducible first | exact HK.out | apply KeepBut.set_ | apply keep_drewN | apply keep_drew | apply keep_alloc) | exact HK.out)⟩
    · rw [if_neg c4] at H
      exact absurd H (by simp)
  · rw [if_neg c3] at H
    have c3b0 : decide (s0_1 < (s0_0.size : Int)) = false := decide_eq_false c3
    clear c3
    simp only [Option.some.injEq, Prod.mk.injEq] at H
    obtain ⟨rfl, rfl, rfl, rfl⟩ := H
    obtain ⟨HGz14, hgz14⟩ := HI0.out
    have hcz14_0 := cellS79_0 HGz14
    have hcz14_1 := cellS79_1 HGz14
    have hfz14_0 := blk_frozen HGz14 0
    have hfz14_1 := blk_frozen HGz14 1
    clear HGz14 hgz14
    go_enter Tryd.func45, Tryd.ntmps45
    go_wp2
    repeat (go_quiet (fail); try go_wp2)
    go_ret2
    exact ⟨by first | rfl | (simp [errW_none, errW_some] <;> rfl) | (simp [*, errW_none, errW_some] <;> rfl), by repeat (first | (with_reducible first | exact HI0.out | apply IsS79.alloc | apply IsS79.drewN | apply IsS79.drew | apply IsS79.set_0 | apply IsS79.set_1) | exact HI0.out), by repeat (first | (with_reducible first | exact HB.out | apply below_alloc | apply pw_below_drewN | apply below_drew1 | refine below_set ?_ (IsS79.ge HI0.out)) | exact HB.out), by repeat (first | (with_reducible first | exact HK.out | apply KeepBut.set_ | apply keep_drewN | apply keep_drew | apply keep_alloc) | exact HK.out)⟩
def single_reader_word.l0 : Nat → ByteArray → Int → ByteArray → Int → Option (Bool × ByteArray × Int)
  | 0, _, _, _, _ => none
  | k + 1, x1, x5, x1000, x1001 => if x5 < (x1.size : Int) then (if x1001 < (x1000.size : Int) then (if 0 ≤ x1001 then (if 0 ≤ x5 then (if (bt x1000 x1001) = (bt x1 x5) then (single_reader_word.l0 k x1 (wrap64 (x5 + 1)) x1000 (wrap64 (x1001 + 1))) else (some ((x5 == (x1.size : Int)), x1000, x1001))) else (none)) else (none)) else (some ((x5 == (x1.size : Int)), x1000, x1001))) else (some ((x5 == (x1.size : Int)), x1000, x1001))
def single_reader_word.f (k : Nat) (s0_0 : ByteArray) (s0_1 : Int) (a1 : ByteArray) : Option (Bool × ByteArray × Int) := single_reader_word.l0 k a1 0 s0_0 s0_1
set_option maxHeartbeats 8000000 in
set_option maxRecDepth 100000 in
theorem single_reader_word.calls (k : Nat) (g : Nat) (s0_0 : ByteArray) (s0_1 : Int) (a1 : ByteArray) (r1 : Bool) (r2 : ByteArray) (r3 : Int) (w0 w : World) (hI : IsS79 w0 w g s0_0 s0_1) (hB : Below w0.heap.size w0 w) (h : single_reader_word.f k s0_0 s0_1 a1 = some (r1, r2, r3)) :
    Calls Tryd.prog 46 #[.pointer (some ⟨g, 0, none⟩), .string a1] w fun e w' => e = .returned (.bool r1) ∧ IsS79 w0 w' g r2 r3 ∧ Below w0.heap.size w0 w' ∧ KeepBut w w' g none := by
  have HI0 := Aside0.mk hI
  have HK := Aside0.mk (KeepBut.refl w g none)
  have HL := Aside0.mk hB.size
  clear hI
  have HW0 := Aside0.mk hB.size
  have HB := Aside0.mk hB
  clear hB
  have H : (single_reader_word.l0 k a1 0 s0_0 s0_1) = some (r1, r2, r3) := h
  clear h
  have H' := Aside0.mk H
  clear H
  go_enter Tryd.func46, Tryd.ntmps46
  go_wp2
  repeat (go_quiet (fail); try go_wp2)
  go_loopg [5] k (fun kq v5 w' => ∃ (x5_1 : Int) (x1001_1 : Int), v5 = .int .i64 x5_1 ∧ Aside0 (single_reader_word.l0 kq a1 x5_1 s0_0 x1001_1 = some (r1, r2, r3)) ∧ Aside0 (kq ≤ k) ∧ Aside0 (IsS79 w0 w' g s0_0 x1001_1) ∧ Aside0 (KeepBut w w' g none) ∧ Aside0 (Below w0.heap.size w0 w'))
  case atStart => exact ⟨(0), (s0_1), (by first | rfl | (simp; done) | (simp [*]; done) | (simp [i64_w]; done) | (simp [*, i64_w]; done)), H', ⟨Nat.le_refl _⟩, ⟨by repeat (first | (with_reducible first | exact HI0.out | apply IsS79.alloc | apply IsS79.drewN | apply IsS79.drew | apply IsS79.set_0 | apply IsS79.set_1) | exact HI0.out)⟩, ⟨by repeat (first | (with_reducible first | exact HK.out | apply KeepBut.set_ | apply keep_drewN | apply keep_drew | apply keep_alloc) | exact HK.out)⟩, ⟨by repeat (first | (with_reducible first | exact HB.out | apply below_alloc | apply pw_below_drewN | apply below_drew1 | refine below_set ?_ (IsS79.ge HI0.out)) | exact HB.out)⟩⟩
  case round =>
    clear H'
    try clear p2
    obtain ⟨x5_1, x1001_1, rfl, HA, HK1, HI0, HK, HB⟩ := hrel
    cases gk with
    | zero => exact absurd HA.out (by simp [single_reader_word.l0])
    | succ k1 =>
      have H := HA.out
      clear HA
      simp only [single_reader_word.l0] at H
      by_cases c3 : x5_1 < (a1.size : Int)
      · rw [if_pos c3] at H
        have c3b0 : decide (x5_1 < (a1.size : Int)) = true := decide_eq_true c3
        clear c3
        by_cases c4 : x1001_1 < (s0_0.size : Int)
        · rw [if_pos c4] at H
          have c4b0 : decide (x1001_1 < (s0_0.size : Int)) = true := decide_eq_true c4
          clear c4
          by_cases c5 : 0 ≤ x1001_1
          · rw [if_pos c5] at H
            have c5b0 : decide (0 ≤ x1001_1) = true := decide_eq_true c5
            clear c5
            by_cases c7 : 0 ≤ x5_1
            · rw [if_pos c7] at H
              have c7b0 : decide (0 ≤ x5_1) = true := decide_eq_true c7
              clear c7
              by_cases c9 : (bt s0_0 x1001_1) = (bt a1 x5_1)
              · rw [if_pos c9] at H
                have c9b0 : ((bt s0_0 x1001_1) == (bt a1 x5_1)) = true := beq_iff_eq.mpr c9
                have c9b1 : ((bt s0_0 x1001_1) != (bt a1 x5_1)) = false := bne_eq_false_iff_eq.mpr c9
                clear c9
                have H' := Aside0.mk H
                clear H
                obtain ⟨HGz10, hgz10⟩ := HI0.out
                have hcz10_0 := cellS79_0 HGz10
                have hcz10_1 := cellS79_1 HGz10
                have hfz10_0 := blk_frozen HGz10 0
                have hfz10_1 := blk_frozen HGz10 1
                clear HGz10 hgz10
                have p6 : 0 ≤ (x1001_1 : Int) := of_decide_eq_true (by first | (with_reducible assumption) | assumption)
                have q6 : x1001_1 < (s0_0.size : Int) := of_decide_eq_true (by first | (with_reducible assumption) | assumption)
                have hx6 := bt_at s0_0 x1001_1
                replace p6 := eq_true p6
                replace q6 := eq_true q6
                have p8 : 0 ≤ (x5_1 : Int) := of_decide_eq_true (by first | (with_reducible assumption) | assumption)
                have q8 : x5_1 < (a1.size : Int) := of_decide_eq_true (by first | (with_reducible assumption) | assumption)
                have hx8 := bt_at a1 x5_1
                replace p8 := eq_true p8
                replace q8 := eq_true q8
                go_wp2
                repeat (go_quiet (fail); try go_wp2)
                go_roundg k1
                case measure => have := HK1.out; omega
                case rel => exact ⟨(wrap64 (x5_1 + 1)), (wrap64 (x1001_1 + 1)), (by first | rfl | (simp; done) | (simp [*]; done) | (simp [i64_w]; done) | (simp [*, i64_w]; done)), H', ⟨by have := HK1.out; omega⟩, ⟨by repeat (first | (with_reducible first | exact HI0.out | apply IsS79.alloc | apply IsS79.drewN | apply IsS79.drew | apply IsS79.set_0 | apply IsS79.set_1) | exact HI0.out)⟩, ⟨by repeat (first | (with_reducible first | exact HK.out | apply KeepBut.set_ | apply keep_drewN | apply keep_drew | apply keep_alloc) | exact HK.out)⟩, ⟨by repeat (first | (with_reducible first | exact HB.out | apply below_alloc | apply pw_below_drewN | apply below_drew1 | refine below_set ?_ (IsS79.ge HI0.out)) | exact HB.out)⟩⟩
              · rw [if_neg c9] at H
                have c9b0 : ((bt s0_0 x1001_1) == (bt a1 x5_1)) = false := beq_eq_false_iff_ne.mpr c9
                have c9b1 : ((bt s0_0 x1001_1) != (bt a1 x5_1)) = true := bne_iff_ne.mpr c9
                simp only [Option.some.injEq, Prod.mk.injEq] at H
                obtain ⟨rfl, rfl, rfl⟩ := H
                obtain ⟨HGz11, hgz11⟩ := HI0.out
                have hcz11_0 := cellS79_0 HGz11
                have hcz11_1 := cellS79_1 HGz11
                have hfz11_0 := blk_frozen HGz11 0
                have hfz11_1 := blk_frozen HGz11 1
                clear HGz11 hgz11
                have p6 : 0 ≤ (x1001_1 : Int) := of_decide_eq_true (by first | (with_reducible assumption) | assumption)
                have q6 : x1001_1 < (s0_0.size : Int) := of_decide_eq_true (by first | (with_reducible assumption) | assumption)
                have hx6 := bt_at s0_0 x1001_1
                replace p6 := eq_true p6
                replace q6 := eq_true q6
                have p8 : 0 ≤ (x5_1 : Int) := of_decide_eq_true (by first | (with_reducible assumption) | assumption)
                have q8 : x5_1 < (a1.size : Int) := of_decide_eq_true (by first | (with_reducible assumption) | assumption)
                have hx8 := bt_at a1 x5_1
                replace p8 := eq_true p8
                replace q8 := eq_true q8
                go_wp2
                repeat (go_quiet (fail); try go_wp2)
                go_ret
                exact ⟨by first | rfl | (simp [errW_none, errW_some] <;> rfl) | (simp [*, errW_none, errW_some] <;> rfl), by repeat (first | (with_reducible first | exact HI0.out | apply IsS79.alloc | apply IsS79.drewN | apply IsS79.drew | apply IsS79.set_0 | apply IsS79.set_1) | exact HI0.out), by repeat (first | (with_reducible first | exact HB.out | apply below_alloc | apply pw_below_drewN | apply below_drew1 | refine below_set ?_ (IsS79.ge HI0.out)) | exact HB.out), by repeat (first | (with_reducible first | exact HK.out | apply KeepBut.set_ | apply keep_drewN | apply keep_drew | apply keep_alloc) | exact HK.out)⟩
            · rw [if_neg c7] at H
              exact absurd H (by simp)
          · rw [if_neg c5] at H
            exact absurd H (by simp)
        · rw [if_neg c4] at H
          have c4b0 : decide (x1001_1 < (s0_0.size : Int)) = false := decide_eq_false c4
          clear c4
          simp only [Option.some.injEq, Prod.mk.injEq] at H
          obtain ⟨rfl, rfl, rfl⟩ := H
          obtain ⟨HGz12, hgz12⟩ := HI0.out
          have hcz12_0 := cellS79_0 HGz12
          have hcz12_1 := cellS79_1 HGz12
          have hfz12_0 := blk_frozen HGz12 0
          have hfz12_1 := blk_frozen HGz12 1
          clear HGz12 hgz12
          go_wp2
          repeat (go_quiet (fail); try go_wp2)
          go_ret
          exact ⟨by first | rfl | (simp [errW_none, errW_some] <;> rfl) | (simp [*, errW_none, errW_some] <;> rfl), by repeat (first | (with_reducible first | exact HI0.out | apply IsS79.alloc | apply IsS79.drewN | apply IsS79.drew | apply IsS79.set_0 | apply IsS79.set_1) | exact HI0.out), by repeat (first | (with_reducible first | exact HB.out | apply below_alloc | apply pw_below_drewN | apply below_drew1 | refine below_set ?_ (IsS79.ge HI0.out)) | exact HB.out), by repeat (first | (with_reducible first | exact HK.out | apply KeepBut.set_ | apply keep_drewN | apply keep_drew | apply keep_alloc) | exact HK.out)⟩
      · rw [if_neg c3] at H
        have c3b0 : decide (x5_1 < (a1.size : Int)) = false := decide_eq_false c3
        clear c3
        simp only [Option.some.injEq, Prod.mk.injEq] at H
        obtain ⟨rfl, rfl, rfl⟩ := H
        go_wp2
        repeat (go_quiet (fail); try go_wp2)
        go_ret
        exact ⟨by first | rfl | (simp [errW_none, errW_some] <;> rfl) | (simp [*, errW_none, errW_some] <;> rfl), by repeat (first | (with_reducible first | exact HI0.out | apply IsS79.alloc | apply IsS79.drewN | apply IsS79.drew | apply IsS79.set_0 | apply IsS79.set_1) | exact HI0.out), by repeat (first | (with_reducible first | exact HB.out | apply below_alloc | apply pw_below_drewN | apply below_drew1 | refine below_set ?_ (IsS79.ge HI0.out)) | exact HB.out), by repeat (first | (with_reducible first | exact HK.out | apply KeepBut.set_ | apply keep_drewN | apply keep_drew | apply keep_alloc) | exact HK.out)⟩
def single_reader_digits.l0 : Nat → Int → ByteArray → Int → Option (ByteArray × Bool × ByteArray × Int)
  | 0, _, _, _ => none
  | k + 1, x4, x1000, x1001 => if x1001 < (x1000.size : Int) then (if 0 ≤ x1001 then (if (bt x1000 x1001) ≥ 48 then (if (bt x1000 x1001) ≤ 57 then (single_reader_digits.l0 k x4 x1000 (wrap64 (x1001 + 1))) else (if 0 ≤ x4 then (if x4 ≤ x1001 then (if x1001 ≤ (x1000.size : Int) then (some (x1000.extract (x4 : Int).toNat (x1001 : Int).toNat, decide (x1001 > x4), x1000, x1001)) else (none)) else (none)) else (none))) else (if 0 ≤ x4 then (if x4 ≤ x1001 then (if x1001 ≤ (x1000.size : Int) then (some (x1000.extract (x4 : Int).toNat (x1001 : Int).toNat, decide (x1001 > x4), x1000, x1001)) else (none)) else (none)) else (none))) else (none)) else (if 0 ≤ x4 then (if x4 ≤ x1001 then (if x1001 ≤ (x1000.size : Int) then (some (x1000.extract (x4 : Int).toNat (x1001 : Int).toNat, decide (x1001 > x4), x1000, x1001)) else (none)) else (none)) else (none))
def single_reader_digits.f (k : Nat) (s0_0 : ByteArray) (s0_1 : Int) : Option (ByteArray × Bool × ByteArray × Int) := single_reader_digits.l0 k s0_1 s0_0 s0_1
set_option maxHeartbeats 8000000 in
set_option maxRecDepth 100000 in
theorem single_reader_digits.calls (k : Nat) (g : Nat) (s0_0 : ByteArray) (s0_1 : Int) (r1 : ByteArray) (r2 : Bool) (r3 : ByteArray) (r4 : Int) (w0 w : World) (hI : IsS79 w0 w g s0_0 s0_1) (hB : Below w0.heap.size w0 w) (h : single_reader_digits.f k s0_0 s0_1 = some (r1, r2, r3, r4)) :
    Calls Tryd.prog 66 #[.pointer (some ⟨g, 0, none⟩)] w fun e w' => e = .returned (.tuple #[.string r1, .bool r2]) ∧ IsS79 w0 w' g r3 r4 ∧ Below w0.heap.size w0 w' ∧ KeepBut w w' g none := by
  have HI0 := Aside0.mk hI
  have HK := Aside0.mk (KeepBut.refl w g none)
  have HL := Aside0.mk hB.size
  clear hI
  have HW0 := Aside0.mk hB.size
  have HB := Aside0.mk hB
  clear hB
  have H : (single_reader_digits.l0 k s0_1 s0_0 s0_1) = some (r1, r2, r3, r4) := h
  clear h
  have H' := Aside0.mk H
  clear H
  obtain ⟨HGz2, hgz2⟩ := HI0.out
  have hcz2_0 := cellS79_0 HGz2
  have hcz2_1 := cellS79_1 HGz2
  have hfz2_0 := blk_frozen HGz2 0
  have hfz2_1 := blk_frozen HGz2 1
  clear HGz2 hgz2
  go_enter Tryd.func66, Tryd.ntmps66
  go_wp2
  repeat (go_quiet (fail); try go_wp2)
  go_loopg [] k (fun kq w' => ∃ (x1001_1 : Int), Aside0 (single_reader_digits.l0 kq s0_1 s0_0 x1001_1 = some (r1, r2, r3, r4)) ∧ Aside0 (kq ≤ k) ∧ Aside0 (IsS79 w0 w' g s0_0 x1001_1) ∧ Aside0 (KeepBut w w' g none) ∧ Aside0 (Below w0.heap.size w0 w'))
  case atStart => exact ⟨(s0_1), H', ⟨Nat.le_refl _⟩, ⟨by repeat (first | (with_reducible first | exact HI0.out | apply IsS79.alloc | apply IsS79.drewN | apply IsS79.drew | apply IsS79.set_0 | apply IsS79.set_1) | exact HI0.out)⟩, ⟨by repeat (first | (with_reducible first | exact HK.out | apply KeepBut.set_ | apply keep_drewN | apply keep_drew | apply keep_alloc) | exact HK.out)⟩, ⟨by repeat (first | (with_reducible first | exact HB.out | apply below_alloc | apply pw_below_drewN | apply below_drew1 | refine below_set ?_ (IsS79.ge HI0.out)) | exact HB.out)⟩⟩
  case round =>
    clear H'
    try clear p2
    try clear hcz2_0
    try clear hcz2_1
    try clear hfz2_0
    try clear hfz2_1
    obtain ⟨x1001_1, HA, HK1, HI0, HK, HB⟩ := hrel
    cases gk with
    | zero => exact absurd HA.out (by simp [single_reader_digits.l0])
    | succ k1 =>
      have H := HA.out
      clear HA
      simp only [single_reader_digits.l0] at H
      by_cases c3 : x1001_1 < (s0_0.size : Int)
      · rw [if_pos c3] at H
        have c3b0 : decide (x1001_1 < (s0_0.size : Int)) = true := decide_eq_true c3
        clear c3
        by_cases c4 : 0 ≤ x1001_1
        · rw [if_pos c4] at H
          have c4b0 : decide (0 ≤ x1001_1) = true := decide_eq_true c4
          clear c4
          by_cases c6 : (bt s0_0 x1001_1) ≥ 48
          · rw [if_pos c6] at H
            have c6b0 : decide (48 ≤ (bt s0_0 x1001_1)) = true := decide_eq_true c6
            clear c6
            by_cases c8 : (bt s0_0 x1001_1) ≤ 57
            · rw [if_pos c8] at H
              have c8b0 : decide ((bt s0_0 x1001_1) ≤ 57) = true := decide_eq_true c8
              clear c8
              have H' := Aside0.mk H
              clear H
              obtain ⟨HGz9, hgz9⟩ := HI0.out
              have hcz9_0 := cellS79_0 HGz9
              have hcz9_1 := cellS79_1 HGz9
              have hfz9_0 := blk_frozen HGz9 0
              have hfz9_1 := blk_frozen HGz9 1
              clear HGz9 hgz9
              have p5 : 0 ≤ (x1001_1 : Int) := of_decide_eq_true (by first | (with_reducible assumption) | assumption)
              have q5 : x1001_1 < (s0_0.size : Int) := of_decide_eq_true (by first | (with_reducible assumption) | assumption)
              have hx5 := bt_at s0_0 x1001_1
              replace p5 := eq_true p5
              replace q5 := eq_true q5
              have p7 : 0 ≤ (x1001_1 : Int) := of_decide_eq_true (by first | (with_reducible assumption) | assumption)
              have q7 : x1001_1 < (s0_0.size : Int) := of_decide_eq_true (by first | (with_reducible assumption) | assumption)
              have hx7 := bt_at s0_0 x1001_1
              replace p7 := eq_true p7
              replace q7 := eq_true q7
              go_wp2
              repeat (go_quiet (fail); try go_wp2)
              go_roundg k1
              case measure => have := HK1.out; omega
              case rel => exact ⟨(wrap64 (x1001_1 + 1)), H', ⟨by have := HK1.out; omega⟩, ⟨by repeat (first | (with_reducible first | exact HI0.out | apply IsS79.alloc | apply IsS79.drewN | apply IsS79.drew | apply IsS79.set_0 | apply IsS79.set_1) | exact HI0.out)⟩, ⟨by repeat (first | (with_reducible first | exact HK.out | apply KeepBut.set_ | apply keep_drewN | apply keep_drew | apply keep_alloc) | exact HK.out)⟩, ⟨by repeat (first | (with_reducible first | exact HB.out | apply below_alloc | apply pw_below_drewN | apply below_drew1 | refine below_set ?_ (IsS79.ge HI0.out)) | exact HB.out)⟩⟩
            · rw [if_neg c8] at H
              have c8b0 : decide ((bt s0_0 x1001_1) ≤ 57) = false := decide_eq_false c8
              clear c8
              by_cases c10 : 0 ≤ s0_1
              · rw [if_pos c10] at H
                have c10b0 := eq_true c10
                have c10b1 : decide (0 ≤ s0_1) = true := decide_eq_true c10
                clear c10
                by_cases c11 : s0_1 ≤ x1001_1
                · rw [if_pos c11] at H
                  have c11b0 := eq_true c11
                  have c11b1 : decide (s0_1 ≤ x1001_1) = true := decide_eq_true c11
                  clear c11
                  by_cases c12 : x1001_1 ≤ (s0_0.size : Int)
                  · rw [if_pos c12] at H
                    have c12b0 := eq_true c12
                    have c12b1 : decide (x1001_1 ≤ (s0_0.size : Int)) = true := decide_eq_true c12
                    clear c12
                    simp only [Option.some.injEq, Prod.mk.injEq] at H
                    obtain ⟨rfl, rfl, rfl, rfl⟩ := H
                    obtain ⟨HGz13, hgz13⟩ := HI0.out
                    have hcz13_0 := cellS79_0 HGz13
                    have hcz13_1 := cellS79_1 HGz13
                    have hfz13_0 := blk_frozen HGz13 0
                    have hfz13_1 := blk_frozen HGz13 1
                    clear HGz13 hgz13
                    have p5 : 0 ≤ (x1001_1 : Int) := of_decide_eq_true (by first | (with_reducible assumption) | assumption)
                    have q5 : x1001_1 < (s0_0.size : Int) := of_decide_eq_true (by first | (with_reducible assumption) | assumption)
                    have hx5 := bt_at s0_0 x1001_1
                    replace p5 := eq_true p5
                    replace q5 := eq_true q5
                    have p7 : 0 ≤ (x1001_1 : Int) := of_decide_eq_true (by first | (with_reducible assumption) | assumption)
                    have q7 : x1001_1 < (s0_0.size : Int) := of_decide_eq_true (by first | (with_reducible assumption) | assumption)
                    have hx7 := bt_at s0_0 x1001_1
                    replace p7 := eq_true p7
                    replace q7 := eq_true q7
                    go_wp2
                    repeat (go_quiet (fail); try go_wp2)
                    go_ret2
                    exact ⟨by first | rfl | (simp [errW_none, errW_some] <;> rfl) | (simp [*, errW_none, errW_some] <;> rfl), by repeat (first | (with_reducible first | exact HI0.out | apply IsS79.alloc | apply IsS79.drewN | apply IsS79.drew | apply IsS79.set_0 | apply IsS79.set_1) | exact HI0.out), by repeat (first | (with_reducible first | exact HB.out | apply below_alloc | apply pw_below_drewN | apply below_drew1 | refine below_set ?_ (IsS79.ge HI0.out)) | exact HB.out), by repeat (first | (with_reducible first | exact HK.out | apply KeepBut.set_ | apply keep_drewN | apply keep_drew | apply keep_alloc) | exact HK.out)⟩
                  · rw [if_neg c12] at H
                    exact absurd H (by simp)
                · rw [if_neg c11] at H
                  exact absurd H (by simp)
              · rw [if_neg c10] at H
                exact absurd H (by simp)
          · rw [if_neg c6] at H
            have c6b0 : decide (48 ≤ (bt s0_0 x1001_1)) = false := decide_eq_false c6
            clear c6
            by_cases c14 : 0 ≤ s0_1
            · rw [if_pos c14] at H
              have c14b0 := eq_true c14
              have c14b1 : decide (0 ≤ s0_1) = true := decide_eq_true c14
              clear c14
              by_cases c15 : s0_1 ≤ x1001_1
              · rw [if_pos c15] at H
                have c15b0 := eq_true c15
                have c15b1 : decide (s0_1 ≤ x1001_1) = true := decide_eq_true c15
                clear c15
                by_cases c16 : x1001_1 ≤ (s0_0.size : Int)
                · rw [if_pos c16] at H
                  have c16b0 := eq_true c16
                  have c16b1 : decide (x1001_1 ≤ (s0_0.size : Int)) = true := decide_eq_true c16
                  clear c16
                  simp only [Option.some.injEq, Prod.mk.injEq] at H
                  obtain ⟨rfl, rfl, rfl, rfl⟩ := H
                  obtain ⟨HGz17, hgz17⟩ := HI0.out
                  have hcz17_0 := cellS79_0 HGz17
                  have hcz17_1 := cellS79_1 HGz17
                  have hfz17_0 := blk_frozen HGz17 0
                  have hfz17_1 := blk_frozen HGz17 1
                  clear HGz17 hgz17
                  have p5 : 0 ≤ (x1001_1 : Int) := of_decide_eq_true (by first | (with_reducible assumption) | assumption)
                  have q5 : x1001_1 < (s0_0.size : Int) := of_decide_eq_true (by first | (with_reducible assumption) | assumption)
                  have hx5 := bt_at s0_0 x1001_1
                  replace p5 := eq_true p5
                  replace q5 := eq_true q5
                  go_wp2
                  repeat (go_quiet (fail); try go_wp2)
                  go_ret2
                  exact ⟨by first | rfl | (simp [errW_none, errW_some] <;> rfl) | (simp [*, errW_none, errW_some] <;> rfl), by repeat (first | (with_reducible first | exact HI0.out | apply IsS79.alloc | apply IsS79.drewN | apply IsS79.drew | apply IsS79.set_0 | apply IsS79.set_1) | exact HI0.out), by repeat (first | (with_reducible first | exact HB.out | apply below_alloc | apply pw_below_drewN | apply below_drew1 | refine below_set ?_ (IsS79.ge HI0.out)) | exact HB.out), by repeat (first | (with_reducible first | exact HK.out | apply KeepBut.set_ | apply keep_drewN | apply keep_drew | apply keep_alloc) | exact HK.out)⟩
                · rw [if_neg c16] at H
                  exact absurd H (by simp)
              · rw [if_neg c15] at H
                exact absurd H (by simp)
            · rw [if_neg c14] at H
              exact absurd H (by simp)
        · rw [if_neg c4] at H
          exact absurd H (by simp)
      · rw [if_neg c3] at H
        have c3b0 : decide (x1001_1 < (s0_0.size : Int)) = false := decide_eq_false c3
        clear c3
        by_cases c18 : 0 ≤ s0_1
        · rw [if_pos c18] at H
          have c18b0 := eq_true c18
          have c18b1 : decide (0 ≤ s0_1) = true := decide_eq_true c18
          clear c18
          by_cases c19 : s0_1 ≤ x1001_1
          · rw [if_pos c19] at H
            have c19b0 := eq_true c19
            have c19b1 : decide (s0_1 ≤ x1001_1) = true := decide_eq_true c19
            clear c19
            by_cases c20 : x1001_1 ≤ (s0_0.size : Int)
            · rw [if_pos c20] at H
              have c20b0 := eq_true c20
              have c20b1 : decide (x1001_1 ≤ (s0_0.size : Int)) = true := decide_eq_true c20
              clear c20
              simp only [Option.some.injEq, Prod.mk.injEq] at H
              obtain ⟨rfl, rfl, rfl, rfl⟩ := H
              obtain ⟨HGz21, hgz21⟩ := HI0.out
              have hcz21_0 := cellS79_0 HGz21
              have hcz21_1 := cellS79_1 HGz21
              have hfz21_0 := blk_frozen HGz21 0
              have hfz21_1 := blk_frozen HGz21 1
              clear HGz21 hgz21
              go_wp2
              repeat (go_quiet (fail); try go_wp2)
              go_ret2
              exact ⟨by first | rfl | (simp [errW_none, errW_some] <;> rfl) | (simp [*, errW_none, errW_some] <;> rfl), by repeat (first | (with_reducible first | exact HI0.out | apply IsS79.alloc | apply IsS79.drewN | apply IsS79.drew | apply IsS79.set_0 | apply IsS79.set_1) | exact HI0.out), by repeat (first | (with_reducible first | exact HB.out | apply below_alloc | apply pw_below_drewN | apply below_drew1 | refine below_set ?_ (IsS79.ge HI0.out)) | exact HB.out), by repeat (first | (with_reducible first | exact HK.out | apply KeepBut.set_ | apply keep_drewN | apply keep_drew | apply keep_alloc) | exact HK.out)⟩
            · rw [if_neg c20] at H
              exact absurd H (by simp)
          · rw [if_neg c19] at H
            exact absurd H (by simp)
        · rw [if_neg c18] at H
          exact absurd H (by simp)
end Go.Proofs.YteecekhfpfnepaaDoor.PAll
end

section
namespace Go.Proofs.YteecekhfpfnepaaDoor.PAll
open Go.RowKit Go.Proofs.YteecekhfpfnepaaDoorW.PrintWords Go.Proofs.YteecekhfpfnepaaDoorW.PrintLast Go.Proofs.YteecekhfpfnepaaDoorW.PrintMore
set_option linter.unusedVariables false
set_option linter.unusedSimpArgs false
def conv_bytes.f (s : ByteArray) : Option (List Int) := if s.size ≤ 9223372036854775807 then some (bytesOf s) else none
theorem conv_cells (W W' : World) (e : TypeId) (s : ByteArray) {fr : Nat × Nat} (h : W'.heap[W.heap.size]? = some (.cells (Lib.bytesCells W e s) e fr)) (j : Nat) (hj : j < s.size) : W'.cell? ⟨W.heap.size, j, none⟩ = some (.int .u8 ((bytesOf s).getD j 0)) := by
  have h' : j < s.data.toList.length := by rw [data_length]; exact hj
  have h2 : j < s.data.size := hj
  have h3 : s.data[j]? = some s.data[j] := Array.getElem?_eq_getElem h2
  simp [World.cell?, h, Lib.bytesCells, Array.getElem?_append, hj, h3, bytesOf, List.getD_eq_getElem?_getD, List.getElem?_eq_getElem h']
theorem conv_row (W : World) (e : TypeId) (s : ByteArray) (hs : s.size ≤ 9223372036854775807) :
    Kd.V (Kd.int .u8) e (Lib.bytesWorld W e s) W.heap.size (fun k => True ∧ W.heap.size ≤ k ∧ True) (.slice (some ⟨W.heap.size, 0, none⟩) s.size (grownCap W s.size 0 e)) (bytesOf s) := by
  have hlen := bytesOf_length s
  have hcap : s.size ≤ grownCap W s.size 0 e := by
    exact grownCap_ge _ _ _ _
  have hC : ∀ W' : World, W'.heap[W.heap.size]? = (Lib.bytesWorld W e s).heap[W.heap.size]? → (Kd.int .u8).C W' (some ⟨W.heap.size, 0, none⟩) s.size (bytesOf s) := by
    intro W' hW
    rw [Lib.bytesWorld_at_new] at hW
    refine Kd.C_of_reads (d := (0 : Int)) (h1 := fun _ => rfl) ⟨hlen, hs, fun _ => ⟨_, rfl, fun j hj => ?_⟩⟩
    rw [add_plain]
    exact conv_cells W W' e s hW j hj
  refine ⟨_, _, by rw [hlen], by rw [hlen]; exact hcap, ?_⟩
  rw [hlen]
  refine fun W' hW => hC W' (hW _ ⟨trivial, Nat.le_refl _, trivial⟩ ?_)
  rw [Lib.bytesWorld_size]; omega
theorem conv_event {ops : Array Oper} {rest : List Oper} {o : Oper} {a : Act} {Q : Exit → Act → World → Prop} {W : World} {x : Operand} {s : ByteArray} {r : List Int} (ho : o.op = .convert 9 109 x) (hgd : o.guard = none) (hx : a.eval x = .string s) (hf : conv_bytes.f s = some r)
    (h : ∀ v w1, Kd.V (Kd.int .u8) 5 w1 W.heap.size (fun k => True ∧ W.heap.size ≤ k ∧ True) v r → Below W.heap.size W w1 → wpList Tryd.prog ops Q rest (a.put o.dst v) w1) : wpList Tryd.prog ops Q (o :: rest) a W := by
  unfold conv_bytes.f at hf
  split at hf
  case isFalse => simp at hf
  case isTrue hs =>
  obtain rfl := Option.some.inj hf
  refine Kd.event_run hgd (w1 := Lib.bytesWorld W 5 s) (v := .slice (some ⟨W.heap.size, 0, none⟩) s.size (grownCap W s.size 0 5)) ?_ (h _ _ (conv_row W 5 s hs) (bytes_below (Below.refl _ _) (Nat.le_refl _) 5 s))
  unfold execOp
  simp only [ho]
  have := print_bytes (P := Tryd.prog) 9 109 5 Tryd.underlying9 Tryd.underlying109 Tryd.underlying5 s W
  simp [hx, this]
end Go.Proofs.YteecekhfpfnepaaDoor.PAll
end

section
namespace Go.Proofs.YteecekhfpfnepaaDoor.PAll
open Go.RowKit Go.Proofs.YteecekhfpfnepaaDoorW.PrintWords Go.Proofs.YteecekhfpfnepaaDoorW.PrintLast Go.Proofs.YteecekhfpfnepaaDoorW.PrintMore
attribute [local go_sem] max2_int min2_int max_two min_two max_three min_three max_four min_four   -- for this text's walks alone
set_option linter.unusedVariables false
set_option linter.unusedSimpArgs false
mutual
def single_reader_number.j0 : Nat → ByteArray → ByteArray → ByteArray → Int → Option (ByteArray × Int × Bool × ByteArray × Int)
  | 0, _, _, _, _ => none
  | k + 1, x5, x7, x1000, x1001 => (single_reader_one.f x1000 x1001 (⟨#[101, 69]⟩ : ByteArray)).bind fun bt118 => (if bt118.2.1 = true then ((single_reader_one.f bt118.2.2.1 bt118.2.2.2 (⟨#[43, 45]⟩ : ByteArray)).bind fun bt122 => ((single_reader_digits.f k bt122.2.2.1 bt122.2.2.2).bind fun bt126 => (if bt126.2.1 = true then ((conv_bytes.f bt126.1).bind fun t130 => (single_reader_number.l0 k x5 x7 0 bt122.1 t130 (t130.length : Int) 0 bt126.2.2.1 bt126.2.2.2)) else (some ((⟨#[]⟩ : ByteArray), 0, false, bt126.2.2.1, bt126.2.2.2))))) else (if x5.size + x7.size ≤ 9223372036854775807 then (some (x5 ++ x7, wrap64 (-(x7.size : Int)), true, bt118.2.2.1, bt118.2.2.2)) else (none)))
def single_reader_number.l0 : Nat → ByteArray → ByteArray → Int → Int → List Int → Int → Int → ByteArray → Int → Option (ByteArray × Int × Bool × ByteArray × Int)
  | 0, _, _, _, _, _, _, _, _, _ => none
  | k + 1, x5, x7, x10, x13, x58, x59, x60, x1000, x1001 => if x60 < x59 then (if 0 ≤ x60 then (if x60 < (x58.length : Int) then (single_reader_number.l0 k x5 x7 (mn 1000000 (wrap64 ((wrap64 (10 * x10)) + (((rd x58 x60) - 48) % 256)))) x13 x58 x59 (wrap64 (x60 + 1)) x1000 x1001) else (none)) else (none)) else (if x13 = 45 then (if x5.size + x7.size ≤ 9223372036854775807 then (some (x5 ++ x7, wrap64 ((wrap64 (-x10)) - (x7.size : Int)), true, x1000, x1001)) else (none)) else (if x5.size + x7.size ≤ 9223372036854775807 then (some (x5 ++ x7, wrap64 (x10 - (x7.size : Int)), true, x1000, x1001)) else (none)))
end
def single_reader_number.f (k : Nat) (s0_0 : ByteArray) (s0_1 : Int) : Option (ByteArray × Int × Bool × ByteArray × Int) := (single_reader_digits.f k s0_0 s0_1).bind fun bt106 => (if bt106.2.1 = true then ((single_reader_one.f bt106.2.2.1 bt106.2.2.2 (⟨#[46]⟩ : ByteArray)).bind fun bt110 => (if bt110.2.1 = true then ((single_reader_digits.f k bt110.2.2.1 bt110.2.2.2).bind fun bt114 => (if bt114.2.1 = true then (single_reader_number.j0 k bt106.1 bt114.1 bt114.2.2.1 bt114.2.2.2) else (some ((⟨#[]⟩ : ByteArray), 0, false, bt114.2.2.1, bt114.2.2.2)))) else (single_reader_number.j0 k bt106.1 (⟨#[]⟩ : ByteArray) bt110.2.2.1 bt110.2.2.2))) else (some ((⟨#[]⟩ : ByteArray), 0, false, bt106.2.2.1, bt106.2.2.2)))
set_option maxHeartbeats 8000000 in
set_option maxRecDepth 100000 in
theorem single_reader_number.calls (k : Nat) (g : Nat) (s0_0 : ByteArray) (s0_1 : Int) (r1 : ByteArray) (r2 : Int) (r3 : Bool) (r4 : ByteArray) (r5 : Int) (w0 w : World) (hI : IsS79 w0 w g s0_0 s0_1) (hB : Below w0.heap.size w0 w) (h : single_reader_number.f k s0_0 s0_1 = some (r1, r2, r3, r4, r5)) :
    Calls Tryd.prog 47 #[.pointer (some ⟨g, 0, none⟩)] w fun e w' => e = .returned (.tuple #[.string r1, .int .i64 r2, .bool r3]) ∧ IsS79 w0 w' g r4 r5 ∧ Below w0.heap.size w0 w' ∧ KeepBut w w' g none := by
  have HI0 := Aside0.mk hI
  have HK := Aside0.mk (KeepBut.refl w g none)
  have HL := Aside0.mk hB.size
  clear hI
  have HW0 := Aside0.mk hB.size
  have HB := Aside0.mk hB
  clear hB
  have H : ((single_reader_digits.f k s0_0 s0_1).bind fun bt106 => (if bt106.2.1 = true then ((single_reader_one.f bt106.2.2.1 bt106.2.2.2 (⟨#[46]⟩ : ByteArray)).bind fun bt110 => (if bt110.2.1 = true then ((single_reader_digits.f k bt110.2.2.1 bt110.2.2.2).bind fun bt114 => (if bt114.2.1 = true then (single_reader_number.j0 k bt106.1 bt114.1 bt114.2.2.1 bt114.2.2.2) else (some ((⟨#[]⟩ : ByteArray), 0, false, bt114.2.2.1, bt114.2.2.2)))) else (single_reader_number.j0 k bt106.1 (⟨#[]⟩ : ByteArray) bt110.2.2.1 bt110.2.2.2))) else (some ((⟨#[]⟩ : ByteArray), 0, false, bt106.2.2.1, bt106.2.2.2)))) = some (r1, r2, r3, r4, r5) := h
  clear h
  replace H := Option.bind_eq_some_iff.mp H
  obtain ⟨⟨t106, t107, t108, t109⟩, A20, H⟩ := H
  replace H : (if t107 = true then ((single_reader_one.f t108 t109 (⟨#[46]⟩ : ByteArray)).bind fun bt110 => (if bt110.2.1 = true then ((single_reader_digits.f k bt110.2.2.1 bt110.2.2.2).bind fun bt114 => (if bt114.2.1 = true then (single_reader_number.j0 k t106 bt114.1 bt114.2.2.1 bt114.2.2.2) else (some ((⟨#[]⟩ : ByteArray), 0, false, bt114.2.2.1, bt114.2.2.2)))) else (single_reader_number.j0 k t106 (⟨#[]⟩ : ByteArray) bt110.2.2.1 bt110.2.2.2))) else (some ((⟨#[]⟩ : ByteArray), 0, false, t108, t109))) = some (r1, r2, r3, r4, r5) := H
  have A2 := Aside0.mk A20
  clear A20
  by_cases c3 : t107 = true
  · subst c3
    have H1 : ((single_reader_one.f t108 t109 (⟨#[46]⟩ : ByteArray)).bind fun bt110 => (if bt110.2.1 = true then ((single_reader_digits.f k bt110.2.2.1 bt110.2.2.2).bind fun bt114 => (if bt114.2.1 = true then (single_reader_number.j0 k t106 bt114.1 bt114.2.2.1 bt114.2.2.2) else (some ((⟨#[]⟩ : ByteArray), 0, false, bt114.2.2.1, bt114.2.2.2)))) else (single_reader_number.j0 k t106 (⟨#[]⟩ : ByteArray) bt110.2.2.1 bt110.2.2.2))) = some (r1, r2, r3, r4, r5) := by rw [if_pos rfl] at H; exact H
    clear H
    have H := H1
    clear H1
    replace H := Option.bind_eq_some_iff.mp H
    obtain ⟨⟨t110, t111, t112, t113⟩, A40, H⟩ := H
    replace H : (if t111 = true then ((single_reader_digits.f k t112 t113).bind fun bt114 => (if bt114.2.1 = true then (single_reader_number.j0 k t106 bt114.1 bt114.2.2.1 bt114.2.2.2) else (some ((⟨#[]⟩ : ByteArray), 0, false, bt114.2.2.1, bt114.2.2.2)))) else (single_reader_number.j0 k t106 (⟨#[]⟩ : ByteArray) t112 t113)) = some (r1, r2, r3, r4, r5) := H
    have A4 := Aside0.mk A40
    clear A40
    have HC5 := Aside0.mk H
    clear H
    go_enter Tryd.func47, Tryd.ntmps47
    go_upto_if 31 with (first | ((with_reducible refine gate_callee (f := 66) rfl ?_); refine goesL_ (some 21) rfl rfl Tryd.func66 (by kernel_rfl) rfl #[.pointer (some ⟨g, 0, none⟩)] rfl (by (try simp only [List.map_toArray, List.map_cons, List.map_nil]); first | done | rfl | (simp only [List.length_drop, List.length_take]; rfl)) ?_; (with_reducible refine (single_reader_digits.calls k g s0_0 s0_1 t106 true t108 t109 w0 _ ?side1 ?side2 A2.out).mono ?_); (case side1 => repeat (first | (with_reducible first | exact HI0.out | apply IsS79.alloc | apply IsS79.drewN | apply IsS79.drew | apply IsS79.set_0 | apply IsS79.set_1) | exact HI0.out)); (case side2 => repeat (first | (with_reducible first | exact HB.out | apply below_alloc | apply pw_below_drewN | apply below_drew1 | refine below_set ?_ (IsS79.ge HI0.out)) | exact HB.out)); rintro e w6 ⟨rfl, hi, hb, hk⟩; refine ⟨_, rfl, ?_⟩; have n0_ := Aside0.mk (KeepBut.trans (by repeat (first | (with_reducible first | exact HK.out | apply KeepBut.set_ | apply keep_drewN | apply keep_drew | apply keep_alloc) | exact HK.out)) hk (.inl rfl)); have n1_ := Aside0.mk (hb); have n2_ := Aside0.mk (hi); clear HK; clear HB; clear HI0; have HK := n0_; have HB := n1_; have HI0 := n2_; clear n0_ n1_ n2_; (try clear hb); (try clear hb2); (try clear hk); (try clear hi)) | ((with_reducible refine gate_callee (f := 45) rfl ?_); refine goesL_ (some 28) rfl rfl Tryd.func45 (by kernel_rfl) rfl #[.pointer (some ⟨g, 0, none⟩), .string (⟨#[46]⟩ : ByteArray)] rfl (by (try simp only [List.map_toArray, List.map_cons, List.map_nil]); first | done | rfl | (simp only [List.length_drop, List.length_take]; rfl)) ?_; (with_reducible refine (single_reader_one.calls g t108 t109 (⟨#[46]⟩ : ByteArray) t110 t111 t112 t113 w0 _ ?side1 ?side2 A4.out).mono ?_); (case side1 => repeat (first | (with_reducible first | exact HI0.out | apply IsS79.alloc | apply IsS79.drewN | apply IsS79.drew | apply IsS79.set_0 | apply IsS79.set_1) | exact HI0.out)); (case side2 => repeat (first | (with_reducible first | exact HB.out | apply below_alloc | apply pw_below_drewN | apply below_drew1 | refine below_set ?_ (IsS79.ge HI0.out)) | exact HB.out)); rintro e w7 ⟨rfl, hi, hb, hk⟩; refine ⟨_, rfl, ?_⟩; have n0_ := Aside0.mk (KeepBut.trans (by repeat (first | (with_reducible first | exact HK.out | apply KeepBut.set_ | apply keep_drewN | apply keep_drew | apply keep_alloc) | exact HK.out)) hk (.inl rfl)); have n1_ := Aside0.mk (hb); have n2_ := Aside0.mk (hi); clear HK; clear HB; clear HI0; have HK := n0_; have HB := n1_; have HI0 := n2_; clear n0_ n1_ n2_; (try clear hb); (try clear hb2); (try clear hk); (try clear hi)))
    (try simp only [Act.put, List.setIfInBounds_toArray, List.set_cons_zero, List.set_cons_succ])
    go_cut [7] (fun v7 wc => ∃ (kq : Nat) (x7_4 : ByteArray) (x1000_4 : ByteArray) (x1001_4 : Int), v7 = .string x7_4 ∧ Aside0 (single_reader_number.j0 kq t106 x7_4 x1000_4 x1001_4 = some (r1, r2, r3, r4, r5)) ∧ Aside0 (kq ≤ k) ∧ Aside0 (IsS79 w0 wc g x1000_4 x1001_4) ∧ Aside0 (KeepBut w wc g none) ∧ Aside0 (Below w0.heap.size w0 wc))
    case first =>
      have H := HC5.out
      clear HC5
      by_cases c8 : t111 = true
      · subst c8
        have H1 : ((single_reader_digits.f k t112 t113).bind fun bt114 => (if bt114.2.1 = true then (single_reader_number.j0 k t106 bt114.1 bt114.2.2.1 bt114.2.2.2) else (some ((⟨#[]⟩ : ByteArray), 0, false, bt114.2.2.1, bt114.2.2.2)))) = some (r1, r2, r3, r4, r5) := by rw [if_pos rfl] at H; exact H
        clear H
        have H := H1
        clear H1
        replace H := Option.bind_eq_some_iff.mp H
        obtain ⟨⟨t114, t115, t116, t117⟩, A90, H⟩ := H
        replace H : (if t115 = true then (single_reader_number.j0 k t106 t114 t116 t117) else (some ((⟨#[]⟩ : ByteArray), 0, false, t116, t117))) = some (r1, r2, r3, r4, r5) := H
        have A9 := Aside0.mk A90
        clear A90
        by_cases c10 : t115 = true
        · subst c10
          have H1 : (single_reader_number.j0 k t106 t114 t116 t117) = some (r1, r2, r3, r4, r5) := by rw [if_pos rfl] at H; exact H
          clear H
          have H := H1
          clear H1
          have H' := Aside0.mk H
          clear H
          go_wp2_with (first | ((with_reducible refine gate_callee (f := 66) rfl ?_); refine goesL_ (some 34) rfl rfl Tryd.func66 (by kernel_rfl) rfl #[.pointer (some ⟨g, 0, none⟩)] rfl (by (try simp only [List.map_toArray, List.map_cons, List.map_nil]); first | done | rfl | (simp only [List.length_drop, List.length_take]; rfl)) ?_; (with_reducible refine (single_reader_digits.calls k g t112 t113 t114 true t116 t117 w0 _ ?side1 ?side2 A9.out).mono ?_); (case side1 => repeat (first | (with_reducible first | exact HI0.out | apply IsS79.alloc | apply IsS79.drewN | apply IsS79.drew | apply IsS79.set_0 | apply IsS79.set_1) | exact HI0.out)); (case side2 => repeat (first | (with_reducible first | exact HB.out | apply below_alloc | apply pw_below_drewN | apply below_drew1 | refine below_set ?_ (IsS79.ge HI0.out)) | exact HB.out)); rintro e w11 ⟨rfl, hi, hb, hk⟩; refine ⟨_, rfl, ?_⟩; have n0_ := Aside0.mk (KeepBut.trans (by repeat (first | (with_reducible first | exact HK.out | apply KeepBut.set_ | apply keep_drewN | apply keep_drew | apply keep_alloc) | exact HK.out)) hk (.inl rfl)); have n1_ := Aside0.mk (hb); have n2_ := Aside0.mk (hi); clear HK; clear HB; clear HI0; have HK := n0_; have HB := n1_; have HI0 := n2_; clear n0_ n1_ n2_; (try clear hb); (try clear hb2); (try clear hk); (try clear hi)))
          go_meet
          case rel => exact ⟨_, (t114), (t116), (t117), (by first | rfl | (simp; done) | (simp [*]; done) | (simp [i64_w]; done) | (simp [*, i64_w]; done)), H', ⟨by first | omega | exact Nat.le_refl _⟩, ⟨by repeat (first | (with_reducible first | exact HI0.out | apply IsS79.alloc | apply IsS79.drewN | apply IsS79.drew | apply IsS79.set_0 | apply IsS79.set_1) | exact HI0.out)⟩, ⟨by repeat (first | (with_reducible first | exact HK.out | apply KeepBut.set_ | apply keep_drewN | apply keep_drew | apply keep_alloc) | exact HK.out)⟩, ⟨by repeat (first | (with_reducible first | exact HB.out | apply below_alloc | apply pw_below_drewN | apply below_drew1 | refine below_set ?_ (IsS79.ge HI0.out)) | exact HB.out)⟩⟩
        · replace c10 := Bool.eq_false_iff.mpr c10
          subst c10
          have H1 : (some ((⟨#[]⟩ : ByteArray), 0, false, t116, t117)) = some (r1, r2, r3, r4, r5) := by rw [if_neg (show ¬ (false = true) by decide)] at H; exact H
          clear H
          have H := H1
          clear H1
          simp only [Option.some.injEq, Prod.mk.injEq] at H
          obtain ⟨rfl, rfl, rfl, rfl, rfl⟩ := H
          go_wp2_with (first | ((with_reducible refine gate_callee (f := 66) rfl ?_); refine goesL_ (some 34) rfl rfl Tryd.func66 (by kernel_rfl) rfl #[.pointer (some ⟨g, 0, none⟩)] rfl (by (try simp only [List.map_toArray, List.map_cons, List.map_nil]); first | done | rfl | (simp only [List.length_drop, List.length_take]; rfl)) ?_; (with_reducible refine (single_reader_digits.calls k g t112 t113 t114 false t116 t117 w0 _ ?side1 ?side2 A9.out).mono ?_); (case side1 => repeat (first | (with_reducible first | exact HI0.out | apply IsS79.alloc | apply IsS79.drewN | apply IsS79.drew | apply IsS79.set_0 | apply IsS79.set_1) | exact HI0.out)); (case side2 => repeat (first | (with_reducible first | exact HB.out | apply below_alloc | apply pw_below_drewN | apply below_drew1 | refine below_set ?_ (IsS79.ge HI0.out)) | exact HB.out)); rintro e w12 ⟨rfl, hi, hb, hk⟩; refine ⟨_, rfl, ?_⟩; have n0_ := Aside0.mk (KeepBut.trans (by repeat (first | (with_reducible first | exact HK.out | apply KeepBut.set_ | apply keep_drewN | apply keep_drew | apply keep_alloc) | exact HK.out)) hk (.inl rfl)); have n1_ := Aside0.mk (hb); have n2_ := Aside0.mk (hi); clear HK; clear HB; clear HI0; have HK := n0_; have HB := n1_; have HI0 := n2_; clear n0_ n1_ n2_; (try clear hb); (try clear hb2); (try clear hk); (try clear hi)))
          go_ret3
          exact ⟨by first | rfl | (simp [errW_none, errW_some] <;> rfl) | (simp [*, errW_none, errW_some] <;> rfl) | (simp [*, errW_none, errW_some] <;> (first | done | rfl | (unfold wrap64; omega))), by repeat (first | (with_reducible first | exact HI0.out | apply IsS79.alloc | apply IsS79.drewN | apply IsS79.drew | apply IsS79.set_0 | apply IsS79.set_1) | exact HI0.out), by repeat (first | (with_reducible first | exact HB.out | apply below_alloc | apply pw_below_drewN | apply below_drew1 | refine below_set ?_ (IsS79.ge HI0.out)) | exact HB.out), by repeat (first | (with_reducible first | exact HK.out | apply KeepBut.set_ | apply keep_drewN | apply keep_drew | apply keep_alloc) | exact HK.out)⟩
      · replace c8 := Bool.eq_false_iff.mpr c8
        subst c8
        have H1 : (single_reader_number.j0 k t106 (⟨#[]⟩ : ByteArray) t112 t113) = some (r1, r2, r3, r4, r5) := by rw [if_neg (show ¬ (false = true) by decide)] at H; exact H
        clear H
        have H := H1
        clear H1
        have H' := Aside0.mk H
        clear H
        go_wp2
        go_meet
        case rel => exact ⟨_, ((⟨#[]⟩ : ByteArray)), (t112), (t113), (by first | rfl | (simp; done) | (simp [*]; done) | (simp [i64_w]; done) | (simp [*, i64_w]; done)), H', ⟨by first | omega | exact Nat.le_refl _⟩, ⟨by repeat (first | (with_reducible first | exact HI0.out | apply IsS79.alloc | apply IsS79.drewN | apply IsS79.drew | apply IsS79.set_0 | apply IsS79.set_1) | exact HI0.out)⟩, ⟨by repeat (first | (with_reducible first | exact HK.out | apply KeepBut.set_ | apply keep_drewN | apply keep_drew | apply keep_alloc) | exact HK.out)⟩, ⟨by repeat (first | (with_reducible first | exact HB.out | apply below_alloc | apply pw_below_drewN | apply below_drew1 | refine below_set ?_ (IsS79.ge HI0.out)) | exact HB.out)⟩⟩
    case rest =>
      clear HC5
      try clear c1
      try clear p2
      try clear c3
      try clear c4
      try clear c6
      try clear c8
      try clear c10
      obtain ⟨kq, x7_4, x1000_4, x1001_4, rfl, HA, HJ4, HI0, HK, HB⟩ := hcut
      cases kq with
      | zero => exact absurd HA.out (by simp [single_reader_number.j0])
      | succ kj4 =>
        have H := HA.out
        clear HA
        simp only [single_reader_number.j0] at H
        replace H := Option.bind_eq_some_iff.mp H
        obtain ⟨⟨t118, t119, t120, t121⟩, A130, H⟩ := H
        replace H : (if t119 = true then ((single_reader_one.f t120 t121 (⟨#[43, 45]⟩ : ByteArray)).bind fun bt122 => ((single_reader_digits.f kj4 bt122.2.2.1 bt122.2.2.2).bind fun bt126 => (if bt126.2.1 = true then ((conv_bytes.f bt126.1).bind fun t130 => (single_reader_number.l0 kj4 t106 x7_4 0 bt122.1 t130 (t130.length : Int) 0 bt126.2.2.1 bt126.2.2.2)) else (some ((⟨#[]⟩ : ByteArray), 0, false, bt126.2.2.1, bt126.2.2.2))))) else (if t106.size + x7_4.size ≤ 9223372036854775807 then (some (t106 ++ x7_4, wrap64 (-(x7_4.size : Int)), true, t120, t121)) else (none))) = some (r1, r2, r3, r4, r5) := H
        have A13 := Aside0.mk A130
        clear A130
        by_cases c14 : t119 = true
        · subst c14
          have H1 : ((single_reader_one.f t120 t121 (⟨#[43, 45]⟩ : ByteArray)).bind fun bt122 => ((single_reader_digits.f kj4 bt122.2.2.1 bt122.2.2.2).bind fun bt126 => (if bt126.2.1 = true then ((conv_bytes.f bt126.1).bind fun t130 => (single_reader_number.l0 kj4 t106 x7_4 0 bt122.1 t130 (t130.length : Int) 0 bt126.2.2.1 bt126.2.2.2)) else (some ((⟨#[]⟩ : ByteArray), 0, false, bt126.2.2.1, bt126.2.2.2))))) = some (r1, r2, r3, r4, r5) := by rw [if_pos rfl] at H; exact H
          clear H
          have H := H1
          clear H1
          replace H := Option.bind_eq_some_iff.mp H
          obtain ⟨⟨t122, t123, t124, t125⟩, A150, H⟩ := H
          replace H : ((single_reader_digits.f kj4 t124 t125).bind fun bt126 => (if bt126.2.1 = true then ((conv_bytes.f bt126.1).bind fun t130 => (single_reader_number.l0 kj4 t106 x7_4 0 t122 t130 (t130.length : Int) 0 bt126.2.2.1 bt126.2.2.2)) else (some ((⟨#[]⟩ : ByteArray), 0, false, bt126.2.2.1, bt126.2.2.2)))) = some (r1, r2, r3, r4, r5) := H
          have A15 := Aside0.mk A150
          clear A150
          replace H := Option.bind_eq_some_iff.mp H
          obtain ⟨⟨t126, t127, t128, t129⟩, A160, H⟩ := H
          replace H : (if t127 = true then ((conv_bytes.f t126).bind fun t130 => (single_reader_number.l0 kj4 t106 x7_4 0 t122 t130 (t130.length : Int) 0 t128 t129)) else (some ((⟨#[]⟩ : ByteArray), 0, false, t128, t129))) = some (r1, r2, r3, r4, r5) := H
          have A16 := Aside0.mk A160
          clear A160
          by_cases c17 : t127 = true
          · subst c17
            have H1 : ((conv_bytes.f t126).bind fun t130 => (single_reader_number.l0 kj4 t106 x7_4 0 t122 t130 (t130.length : Int) 0 t128 t129)) = some (r1, r2, r3, r4, r5) := by rw [if_pos rfl] at H; exact H
            clear H
            have H := H1
            clear H1
            replace H := Option.bind_eq_some_iff.mp H
            obtain ⟨t130, A180, H⟩ := H
            replace H : (single_reader_number.l0 kj4 t106 x7_4 0 t122 t130 (t130.length : Int) 0 t128 t129) = some (r1, r2, r3, r4, r5) := H
            have A18 := Aside0.mk A180
            clear A180
            have H' := Aside0.mk H
            clear H
            go_wp2_with (first | ((with_reducible refine gate_callee (f := 45) rfl ?_); refine goesL_ (some 41) rfl rfl Tryd.func45 (by kernel_rfl) rfl #[.pointer (some ⟨g, 0, none⟩), .string (⟨#[101, 69]⟩ : ByteArray)] rfl (by (try simp only [List.map_toArray, List.map_cons, List.map_nil]); first | done | rfl | (simp only [List.length_drop, List.length_take]; rfl)) ?_; (with_reducible refine (single_reader_one.calls g x1000_4 x1001_4 (⟨#[101, 69]⟩ : ByteArray) t118 true t120 t121 w0 _ ?side1 ?side2 A13.out).mono ?_); (case side1 => repeat (first | (with_reducible first | exact HI0.out | apply IsS79.alloc | apply IsS79.drewN | apply IsS79.drew | apply IsS79.set_0 | apply IsS79.set_1) | exact HI0.out)); (case side2 => repeat (first | (with_reducible first | exact HB.out | apply below_alloc | apply pw_below_drewN | apply below_drew1 | refine below_set ?_ (IsS79.ge HI0.out)) | exact HB.out)); rintro e w19 ⟨rfl, hi, hb, hk⟩; refine ⟨_, rfl, ?_⟩; have n0_ := Aside0.mk (KeepBut.trans (by repeat (first | (with_reducible first | exact HK.out | apply KeepBut.set_ | apply keep_drewN | apply keep_drew | apply keep_alloc) | exact HK.out)) hk (.inl rfl)); have n1_ := Aside0.mk (hb); have n2_ := Aside0.mk (hi); clear HK; clear HB; clear HI0; have HK := n0_; have HB := n1_; have HI0 := n2_; clear n0_ n1_ n2_; (try clear hb); (try clear hb2); (try clear hk); (try clear hi)) | ((with_reducible refine gate_callee (f := 45) rfl ?_); refine goesL_ (some 47) rfl rfl Tryd.func45 (by kernel_rfl) rfl #[.pointer (some ⟨g, 0, none⟩), .string (⟨#[43, 45]⟩ : ByteArray)] rfl (by (try simp only [List.map_toArray, List.map_cons, List.map_nil]); first | done | rfl | (simp only [List.length_drop, List.length_take]; rfl)) ?_; (with_reducible refine (single_reader_one.calls g t120 t121 (⟨#[43, 45]⟩ : ByteArray) t122 t123 t124 t125 w0 _ ?side1 ?side2 A15.out).mono ?_); (case side1 => repeat (first | (with_reducible first | exact HI0.out | apply IsS79.alloc | apply IsS79.drewN | apply IsS79.drew | apply IsS79.set_0 | apply IsS79.set_1) | exact HI0.out)); (case side2 => repeat (first | (with_reducible first | exact HB.out | apply below_alloc | apply pw_below_drewN | apply below_drew1 | refine below_set ?_ (IsS79.ge HI0.out)) | exact HB.out)); rintro e w20 ⟨rfl, hi, hb, hk⟩; refine ⟨_, rfl, ?_⟩; have n0_ := Aside0.mk (KeepBut.trans (by repeat (first | (with_reducible first | exact HK.out | apply KeepBut.set_ | apply keep_drewN | apply keep_drew | apply keep_alloc) | exact HK.out)) hk (.inl rfl)); have n1_ := Aside0.mk (hb); have n2_ := Aside0.mk (hi); clear HK; clear HB; clear HI0; have HK := n0_; have HB := n1_; have HI0 := n2_; clear n0_ n1_ n2_; (try clear hb); (try clear hb2); (try clear hk); (try clear hi)) | ((with_reducible refine gate_callee (f := 66) rfl ?_); refine goesL_ (some 52) rfl rfl Tryd.func66 (by kernel_rfl) rfl #[.pointer (some ⟨g, 0, none⟩)] rfl (by (try simp only [List.map_toArray, List.map_cons, List.map_nil]); first | done | rfl | (simp only [List.length_drop, List.length_take]; rfl)) ?_; (with_reducible refine (single_reader_digits.calls kj4 g t124 t125 t126 true t128 t129 w0 _ ?side1 ?side2 A16.out).mono ?_); (case side1 => repeat (first | (with_reducible first | exact HI0.out | apply IsS79.alloc | apply IsS79.drewN | apply IsS79.drew | apply IsS79.set_0 | apply IsS79.set_1) | exact HI0.out)); (case side2 => repeat (first | (with_reducible first | exact HB.out | apply below_alloc | apply pw_below_drewN | apply below_drew1 | refine below_set ?_ (IsS79.ge HI0.out)) | exact HB.out)); rintro e w21 ⟨rfl, hi, hb, hk⟩; refine ⟨_, rfl, ?_⟩; have n0_ := Aside0.mk (KeepBut.trans (by repeat (first | (with_reducible first | exact HK.out | apply KeepBut.set_ | apply keep_drewN | apply keep_drew | apply keep_alloc) | exact HK.out)) hk (.inl rfl)); have n1_ := Aside0.mk (hb); have n2_ := Aside0.mk (hi); clear HK; clear HB; clear HI0; have HK := n0_; have HB := n1_; have HI0 := n2_; clear n0_ n1_ n2_; (try clear hb); (try clear hb2); (try clear hk); (try clear hi)) | ((with_reducible refine gate_ (.convert 9 109 (.tmp 57)) rfl ?_); refine conv_event (s := t126) rfl rfl rfl A18.out ?_; intro v131 w22 ho0 hb; have n0_ := Aside0.mk (Kd.V_lower (Kd.V_mono (ok' := fun k_ => k_ ≠ g) (ho0) (fun k_ hk_ => (IsS79.fresh (by repeat (first | (with_reducible first | exact HI0.out | apply IsS79.alloc | apply IsS79.drewN | apply IsS79.drew | apply IsS79.set_0 | apply IsS79.set_1) | exact HI0.out)) k_ hk_.2.1))) (keep_size (w := w) (g := g) (row := none) (by repeat (first | (with_reducible first | exact HK.out | apply KeepBut.set_ | apply keep_drewN | apply keep_drew | apply keep_alloc) | exact HK.out)))); have n1_ := Aside0.mk (IsS79.below (by repeat (first | (with_reducible first | exact HI0.out | apply IsS79.alloc | apply IsS79.drewN | apply IsS79.drew | apply IsS79.set_0 | apply IsS79.set_1) | exact HI0.out)) hb); have n2_ := Aside0.mk (KeepBut.trans (by repeat (first | (with_reducible first | exact HK.out | apply KeepBut.set_ | apply keep_drewN | apply keep_drew | apply keep_alloc) | exact HK.out)) (KeepBut.of_below hb g none) (.inl rfl)); have n3_ := Aside0.mk (below_step (by repeat (first | (with_reducible first | exact HB.out | apply below_alloc | apply pw_below_drewN | apply below_drew1 | refine below_set ?_ (IsS79.ge HI0.out)) | exact HB.out)) hb); clear HI0; clear HK; clear HB; have HO132 := n0_; have HI0 := n1_; have HK := n2_; have HB := n3_; clear n0_ n1_ n2_ n3_; (try clear hb); (try clear hb2); (try clear hk); (try clear hi); (try clear ho0); obtain ⟨Ao23, co23, eo23⟩ := Kd.V_slice HO132.out; subst eo23))
            go_loopg [10, 60] kj4 (fun kq v10 v60 w' => ∃ (x10_2 : Int) (x60_2 : Int), v10 = .int .i64 x10_2 ∧ v60 = .int .i64 x60_2 ∧ Aside0 (single_reader_number.l0 kq t106 x7_4 x10_2 t122 t130 (t130.length : Int) x60_2 t128 t129 = some (r1, r2, r3, r4, r5)) ∧ Aside0 (kq ≤ kj4) ∧ Aside0 (Kd.V (Kd.int .u8) 5 w' w.heap.size (fun k_ => k_ ≠ g) (.slice Ao23 t130.length co23) t130) ∧ Aside0 (IsS79 w0 w' g t128 t129) ∧ Aside0 (KeepBut w w' g none) ∧ Aside0 (Below w0.heap.size w0 w'))
            case atStart => exact ⟨(0), (0), (by first | rfl | (simp; done) | (simp [*]; done) | (simp [i64_w]; done) | (simp [*, i64_w]; done)), (by first | rfl | (simp; done) | (simp [*]; done) | (simp [i64_w]; done) | (simp [*, i64_w]; done)), H', ⟨Nat.le_refl _⟩, ⟨by (with_reducible repeat (first | apply Kd.V_alloc | apply Kd.V_drewN | apply Kd.V_drew)); exact HO132.out⟩, ⟨by repeat (first | (with_reducible first | exact HI0.out | apply IsS79.alloc | apply IsS79.drewN | apply IsS79.drew | apply IsS79.set_0 | apply IsS79.set_1) | exact HI0.out)⟩, ⟨by repeat (first | (with_reducible first | exact HK.out | apply KeepBut.set_ | apply keep_drewN | apply keep_drew | apply keep_alloc) | exact HK.out)⟩, ⟨by repeat (first | (with_reducible first | exact HB.out | apply below_alloc | apply pw_below_drewN | apply below_drew1 | refine below_set ?_ (IsS79.ge HI0.out)) | exact HB.out)⟩⟩
            case round =>
              clear H'
              try clear c1
              try clear p2
              try clear c3
              try clear c4
              try clear c6
              try clear p6
              try clear c8
              try clear c9
              try clear c10
              try clear c14
              try clear c17
              try clear p2
              obtain ⟨x10_2, x60_2, rfl, rfl, HA, HK2, HO_58, HI0, HK, HB⟩ := hrel
              cases gk with
              | zero => exact absurd HA.out (by simp [single_reader_number.l0])
              | succ k2 =>
                have H := HA.out
                clear HA
                simp only [single_reader_number.l0] at H
                by_cases c24 : x60_2 < (t130.length : Int)
                · rw [if_pos c24] at H
                  have c24b0 : decide (x60_2 < (t130.length : Int)) = true := decide_eq_true c24
                  clear c24
                  by_cases c25 : 0 ≤ x60_2
                  · rw [if_pos c25] at H
                    have c25b0 : decide (0 ≤ x60_2) = true := decide_eq_true c25
                    clear c25
                    by_cases c26 : x60_2 < (t130.length : Int)
                    · rw [if_pos c26] at H
                      have c26b0 : decide (x60_2 < (t130.length : Int)) = true := decide_eq_true c26
                      clear c26
                      obtain ⟨ji27, hji27⟩ : ∃ j_ : Int, (mn 1000000 (wrap64 ((wrap64 (10 * x10_2)) + (((rd t130 x60_2) - 48) % 256)))) = j_ := ⟨_, rfl⟩
                      replace H : (single_reader_number.l0 k2 t106 x7_4 ji27 t122 t130 (t130.length : Int) (wrap64 (x60_2 + 1)) t128 t129) = some (r1, r2, r3, r4, r5) := by first | (rw [hji27] at H; exact H) | (simp only [hji27] at H ⊢; exact H)
                      have hji27_ : (if (wrap64 ((wrap64 (10 * x10_2)) + (((rd t130 x60_2) - 48) % 256))) < 1000000 then (wrap64 ((wrap64 (10 * x10_2)) + (((rd t130 x60_2) - 48) % 256))) else 1000000) = ji27 := hji27
                      have H' := Aside0.mk H
                      clear H
                      have p133 : 0 ≤ (x60_2 : Int) := of_decide_eq_true (by first | (with_reducible assumption) | assumption)
                      have q133 : x60_2 < (t130.length : Int) := of_decide_eq_true (by first | (with_reducible assumption) | assumption)
                      obtain ⟨ad133, e133, hx133_0⟩ := Kd.at_int (Kd.V_reads' HO_58.out).2.2 x60_2 p133 q133
                      cases e133
                      replace p133 := eq_true p133
                      replace q133 := eq_true q133
                      go_wp2
                      go_roundg k2
                      case measure => have := HJ4.out; have := HK2.out; omega
                      case rel => exact ⟨(ji27), (wrap64 (x60_2 + 1)), (by first | rfl | (simp; done) | (simp only [← hji27] <;> (first | rfl | simp)) | (simp [*]; done)), (by first | rfl | (simp; done) | (simp [*]; done) | (simp [i64_w]; done) | (simp [*, i64_w]; done)), H', ⟨by have := HJ4.out; have := HK2.out; omega⟩, ⟨by (with_reducible repeat (first | apply Kd.V_alloc | apply Kd.V_drewN | apply Kd.V_drew)); exact HO_58.out⟩, ⟨by repeat (first | (with_reducible first | exact HI0.out | apply IsS79.alloc | apply IsS79.drewN | apply IsS79.drew | apply IsS79.set_0 | apply IsS79.set_1) | exact HI0.out)⟩, ⟨by repeat (first | (with_reducible first | exact HK.out | apply KeepBut.set_ | apply keep_drewN | apply keep_drew | apply keep_alloc) | exact HK.out)⟩, ⟨by repeat (first | (with_reducible first | exact HB.out | apply below_alloc | apply pw_below_drewN | apply below_drew1 | refine below_set ?_ (IsS79.ge HI0.out)) | exact HB.out)⟩⟩
                    · rw [if_neg c26] at H
                      exact absurd H (by simp)
                  · rw [if_neg c25] at H
                    exact absurd H (by simp)
                · rw [if_neg c24] at H
                  have c24b0 : decide (x60_2 < (t130.length : Int)) = false := decide_eq_false c24
                  clear c24
                  by_cases c28 : t122 = 45
                  · rw [if_pos c28] at H
                    have c28b0 : (t122 == 45) = true := beq_iff_eq.mpr c28
                    have c28b1 : (t122 != 45) = false := bne_eq_false_iff_eq.mpr c28
                    clear c28
                    by_cases c29 : t106.size + x7_4.size ≤ 9223372036854775807
                    · rw [if_pos c29] at H
                      have c29b0 := eq_true c29
                      have c29b1 : decide (t106.size + x7_4.size ≤ 9223372036854775807) = true := decide_eq_true c29
                      try have c29b2 : (9223372036854775807 < t106.size + x7_4.size) = False := eq_false (Nat.not_lt.2 c29)
                      simp only [Option.some.injEq, Prod.mk.injEq] at H
                      obtain ⟨rfl, rfl, rfl, rfl, rfl⟩ := H
                      go_wp2
                      go_ret3
                      exact ⟨by first | rfl | (simp [errW_none, errW_some] <;> rfl) | (simp [*, errW_none, errW_some] <;> rfl) | (simp [*, errW_none, errW_some] <;> (first | done | rfl | (unfold wrap64; omega))), by repeat (first | (with_reducible first | exact HI0.out | apply IsS79.alloc | apply IsS79.drewN | apply IsS79.drew | apply IsS79.set_0 | apply IsS79.set_1) | exact HI0.out), by repeat (first | (with_reducible first | exact HB.out | apply below_alloc | apply pw_below_drewN | apply below_drew1 | refine below_set ?_ (IsS79.ge HI0.out)) | exact HB.out), by repeat (first | (with_reducible first | exact HK.out | apply KeepBut.set_ | apply keep_drewN | apply keep_drew | apply keep_alloc) | exact HK.out)⟩
                    · rw [if_neg c29] at H
                      exact absurd H (by simp)
                  · rw [if_neg c28] at H
                    have c28b0 : (t122 == 45) = false := beq_eq_false_iff_ne.mpr c28
                    have c28b1 : (t122 != 45) = true := bne_iff_ne.mpr c28
                    by_cases c30 : t106.size + x7_4.size ≤ 9223372036854775807
                    · rw [if_pos c30] at H
                      have c30b0 := eq_true c30
                      have c30b1 : decide (t106.size + x7_4.size ≤ 9223372036854775807) = true := decide_eq_true c30
                      try have c30b2 : (9223372036854775807 < t106.size + x7_4.size) = False := eq_false (Nat.not_lt.2 c30)
                      simp only [Option.some.injEq, Prod.mk.injEq] at H
                      obtain ⟨rfl, rfl, rfl, rfl, rfl⟩ := H
                      go_wp2
                      go_ret3
                      exact ⟨by first | rfl | (simp [errW_none, errW_some] <;> rfl) | (simp [*, errW_none, errW_some] <;> rfl) | (simp [*, errW_none, errW_some] <;> (first | done | rfl | (unfold wrap64; omega))), by repeat (first | (with_reducible first | exact HI0.out | apply IsS79.alloc | apply IsS79.drewN | apply IsS79.drew | apply IsS79.set_0 | apply IsS79.set_1) | exact HI0.out), by repeat (first | (with_reducible first | exact HB.out | apply below_alloc | apply pw_below_drewN | apply below_drew1 | refine below_set ?_ (IsS79.ge HI0.out)) | exact HB.out), by repeat (first | (with_reducible first | exact HK.out | apply KeepBut.set_ | apply keep_drewN | apply keep_drew | apply keep_alloc) | exact HK.out)⟩
                    · rw [if_neg c30] at H
                      exact absurd H (by simp)
          · replace c17 := Bool.eq_false_iff.mpr c17
            subst c17
            have H1 : (some ((⟨#[]⟩ : ByteArray), 0, false, t128, t129)) = some (r1, r2, r3, r4, r5) := by rw [if_neg (show ¬ (false = true) by decide)] at H; exact H
            clear H
            have H := H1
            clear H1
            simp only [Option.some.injEq, Prod.mk.injEq] at H
            obtain ⟨rfl, rfl, rfl, rfl, rfl⟩ := H
            go_wp2_with (first | ((with_reducible refine gate_callee (f := 45) rfl ?_); refine goesL_ (some 41) rfl rfl Tryd.func45 (by kernel_rfl) rfl #[.pointer (some ⟨g, 0, none⟩), .string (⟨#[101, 69]⟩ : ByteArray)] rfl (by (try simp only [List.map_toArray, List.map_cons, List.map_nil]); first | done | rfl | (simp only [List.length_drop, List.length_take]; rfl)) ?_; (with_reducible refine (single_reader_one.calls g x1000_4 x1001_4 (⟨#[101, 69]⟩ : ByteArray) t118 true t120 t121 w0 _ ?side1 ?side2 A13.out).mono ?_); (case side1 => repeat (first | (with_reducible first | exact HI0.out | apply IsS79.alloc | apply IsS79.drewN | apply IsS79.drew | apply IsS79.set_0 | apply IsS79.set_1) | exact HI0.out)); (case side2 => repeat (first | (with_reducible first | exact HB.out | apply below_alloc | apply pw_below_drewN | apply below_drew1 | refine below_set ?_ (IsS79.ge HI0.out)) | exact HB.out)); rintro e w31 ⟨rfl, hi, hb, hk⟩; refine ⟨_, rfl, ?_⟩; have n0_ := Aside0.mk (KeepBut.trans (by repeat (first | (with_reducible first | exact HK.out | apply KeepBut.set_ | apply keep_drewN | apply keep_drew | apply keep_alloc) | exact HK.out)) hk (.inl rfl)); have n1_ := Aside0.mk (hb); have n2_ := Aside0.mk (hi); clear HK; clear HB; clear HI0; have HK := n0_; have HB := n1_; have HI0 := n2_; clear n0_ n1_ n2_; (try clear hb); (try clear hb2); (try clear hk); (try clear hi)) | ((with_reducible refine gate_callee (f := 45) rfl ?_); refine goesL_ (some 47) rfl rfl Tryd.func45 (by kernel_rfl) rfl #[.pointer (some ⟨g, 0, none⟩), .string (⟨#[43, 45]⟩ : ByteArray)] rfl (by (try simp only [List.map_toArray, List.map_cons, List.map_nil]); first | done | rfl | (simp only [List.length_drop, List.length_take]; rfl)) ?_; (with_reducible refine (single_reader_one.calls g t120 t121 (⟨#[43, 45]⟩ : ByteArray) t122 t123 t124 t125 w0 _ ?side1 ?side2 A15.out).mono ?_); (case side1 => repeat (first | (with_reducible first | exact HI0.out | apply IsS79.alloc | apply IsS79.drewN | apply IsS79.drew | apply IsS79.set_0 | apply IsS79.set_1) | exact HI0.out)); (case side2 => repeat (first | (with_reducible first | exact HB.out | apply below_alloc | apply pw_below_drewN | apply below_drew1 | refine below_set ?_ (IsS79.ge HI0.out)) | exact HB.out)); rintro e w32 ⟨rfl, hi, hb, hk⟩; refine ⟨_, rfl, ?_⟩; have n0_ := Aside0.mk (KeepBut.trans (by repeat (first | (with_reducible first | exact HK.out | apply KeepBut.set_ | apply keep_drewN | apply keep_drew | apply keep_alloc) | exact HK.out)) hk (.inl rfl)); have n1_ := Aside0.mk (hb); have n2_ := Aside0.mk (hi); clear HK; clear HB; clear HI0; have HK := n0_; have HB := n1_; have HI0 := n2_; clear n0_ n1_ n2_; (try clear hb); (try clear hb2); (try clear hk); (try clear hi)) | ((with_reducible refine gate_callee (f := 66) rfl ?_); refine goesL_ (some 52) rfl rfl Tryd.func66 (by kernel_rfl) rfl #[.pointer (some ⟨g, 0, none⟩)] rfl (by (try simp only [List.map_toArray, List.map_cons, List.map_nil]); first | done | rfl | (simp only [List.length_drop, List.length_take]; rfl)) ?_; (with_reducible refine (single_reader_digits.calls kj4 g t124 t125 t126 false t128 t129 w0 _ ?side1 ?side2 A16.out).mono ?_); (case side1 => repeat (first | (with_reducible first | exact HI0.out | apply IsS79.alloc | apply IsS79.drewN | apply IsS79.drew | apply IsS79.set_0 | apply IsS79.set_1) | exact HI0.out)); (case side2 => repeat (first | (with_reducible first | exact HB.out | apply below_alloc | apply pw_below_drewN | apply below_drew1 | refine below_set ?_ (IsS79.ge HI0.out)) | exact HB.out)); rintro e w33 ⟨rfl, hi, hb, hk⟩; refine ⟨_, rfl, ?_⟩; have n0_ := Aside0.mk (KeepBut.trans (by repeat (first | (with_reducible first | exact HK.out | apply KeepBut.set_ | apply keep_drewN | apply keep_drew | apply keep_alloc) | exact HK.out)) hk (.inl rfl)); have n1_ := Aside0.mk (hb); have n2_ := Aside0.mk (hi); clear HK; clear HB; clear HI0; have HK := n0_; have HB := n1_; have HI0 := n2_; clear n0_ n1_ n2_; (try clear hb); (try clear hb2); (try clear hk); (try clear hi)))
            go_ret3
            exact ⟨by first | rfl | (simp [errW_none, errW_some] <;> rfl) | (simp [*, errW_none, errW_some] <;> rfl) | (simp [*, errW_none, errW_some] <;> (first | done | rfl | (unfold wrap64; omega))), by repeat (first | (with_reducible first | exact HI0.out | apply IsS79.alloc | apply IsS79.drewN | apply IsS79.drew | apply IsS79.set_0 | apply IsS79.set_1) | exact HI0.out), by repeat (first | (with_reducible first | exact HB.out | apply below_alloc | apply pw_below_drewN | apply below_drew1 | refine below_set ?_ (IsS79.ge HI0.out)) | exact HB.out), by repeat (first | (with_reducible first | exact HK.out | apply KeepBut.set_ | apply keep_drewN | apply keep_drew | apply keep_alloc) | exact HK.out)⟩
        · replace c14 := Bool.eq_false_iff.mpr c14
          subst c14
          have H1 : (if t106.size + x7_4.size ≤ 9223372036854775807 then (some (t106 ++ x7_4, wrap64 (-(x7_4.size : Int)), true, t120, t121)) else (none)) = some (r1, r2, r3, r4, r5) := by rw [if_neg (show ¬ (false = true) by decide)] at H; exact H
          clear H
          have H := H1
          clear H1
          by_cases c34 : t106.size + x7_4.size ≤ 9223372036854775807
          · rw [if_pos c34] at H
            have c34b0 := eq_true c34
            have c34b1 : decide (t106.size + x7_4.size ≤ 9223372036854775807) = true := decide_eq_true c34
            try have c34b2 : (9223372036854775807 < t106.size + x7_4.size) = False := eq_false (Nat.not_lt.2 c34)
            simp only [Option.some.injEq, Prod.mk.injEq] at H
            obtain ⟨rfl, rfl, rfl, rfl, rfl⟩ := H
            go_wp2_with (first | ((with_reducible refine gate_callee (f := 45) rfl ?_); refine goesL_ (some 41) rfl rfl Tryd.func45 (by kernel_rfl) rfl #[.pointer (some ⟨g, 0, none⟩), .string (⟨#[101, 69]⟩ : ByteArray)] rfl (by (try simp only [List.map_toArray, List.map_cons, List.map_nil]); first | done | rfl | (simp only [List.length_drop, List.length_take]; rfl)) ?_; (with_reducible refine (single_reader_one.calls g x1000_4 x1001_4 (⟨#[101, 69]⟩ : ByteArray) t118 false t120 t121 w0 _ ?side1 ?side2 A13.out).mono ?_); (case side1 => repeat (first | (with_reducible first | exact HI0.out | apply IsS79.alloc | apply IsS79.drewN | apply IsS79.drew | apply IsS79.set_0 | apply IsS79.set_1) | exact HI0.out)); (case side2 => repeat (first | (with_reducible first | exact HB.out | apply below_alloc | apply pw_below_drewN | apply below_drew1 | refine below_set ?_ (IsS79.ge HI0.out)) | exact HB.out)); rintro e w35 ⟨rfl, hi, hb, hk⟩; refine ⟨_, rfl, ?_⟩; have n0_ := Aside0.mk (KeepBut.trans (by repeat (first | (with_reducible first | exact HK.out | apply KeepBut.set_ | apply keep_drewN | apply keep_drew | apply keep_alloc) | exact HK.out)) hk (.inl rfl)); have n1_ := Aside0.mk (hb); have n2_ := Aside0.mk (hi); clear HK; clear HB; clear HI0; have HK := n0_; have HB := n1_; have HI0 := n2_; clear n0_ n1_ n2_; (try clear hb); (try clear hb2); (try clear hk); (try clear hi)))
            go_ret3
            exact ⟨by first | rfl | (simp [errW_none, errW_some] <;> rfl) | (simp [*, errW_none, errW_some] <;> rfl) | (simp [*, errW_none, errW_some] <;> (first | done | rfl | (unfold wrap64; omega))), by repeat (first | (with_reducible first | exact HI0.out | apply IsS79.alloc | apply IsS79.drewN | apply IsS79.drew | apply IsS79.set_0 | apply IsS79.set_1) | exact HI0.out), by repeat (first | (with_reducible first | exact HB.out | apply below_alloc | apply pw_below_drewN | apply below_drew1 | refine below_set ?_ (IsS79.ge HI0.out)) | exact HB.out), by repeat (first | (with_reducible first | exact HK.out | apply KeepBut.set_ | apply keep_drewN | apply keep_drew | apply keep_alloc) | exact HK.out)⟩
          · rw [if_neg c34] at H
            exact absurd H (by simp)
  · replace c3 := Bool.eq_false_iff.mpr c3
    subst c3
    have H1 : (some ((⟨#[]⟩ : ByteArray), 0, false, t108, t109)) = some (r1, r2, r3, r4, r5) := by rw [if_neg (show ¬ (false = true) by decide)] at H; exact H
    clear H
    have H := H1
    clear H1
    simp only [Option.some.injEq, Prod.mk.injEq] at H
    obtain ⟨rfl, rfl, rfl, rfl, rfl⟩ := H
    go_enter Tryd.func47, Tryd.ntmps47
    go_wp2_with (first | ((with_reducible refine gate_callee (f := 66) rfl ?_); refine goesL_ (some 21) rfl rfl Tryd.func66 (by kernel_rfl) rfl #[.pointer (some ⟨g, 0, none⟩)] rfl (by (try simp only [List.map_toArray, List.map_cons, List.map_nil]); first | done | rfl | (simp only [List.length_drop, List.length_take]; rfl)) ?_; (with_reducible refine (single_reader_digits.calls k g s0_0 s0_1 t106 false t108 t109 w0 _ ?side1 ?side2 A2.out).mono ?_); (case side1 => repeat (first | (with_reducible first | exact HI0.out | apply IsS79.alloc | apply IsS79.drewN | apply IsS79.drew | apply IsS79.set_0 | apply IsS79.set_1) | exact HI0.out)); (case side2 => repeat (first | (with_reducible first | exact HB.out | apply below_alloc | apply pw_below_drewN | apply below_drew1 | refine below_set ?_ (IsS79.ge HI0.out)) | exact HB.out)); rintro e w36 ⟨rfl, hi, hb, hk⟩; refine ⟨_, rfl, ?_⟩; have n0_ := Aside0.mk (KeepBut.trans (by repeat (first | (with_reducible first | exact HK.out | apply KeepBut.set_ | apply keep_drewN | apply keep_drew | apply keep_alloc) | exact HK.out)) hk (.inl rfl)); have n1_ := Aside0.mk (hb); have n2_ := Aside0.mk (hi); clear HK; clear HB; clear HI0; have HK := n0_; have HB := n1_; have HI0 := n2_; clear n0_ n1_ n2_; (try clear hb); (try clear hb2); (try clear hk); (try clear hi)))
    go_ret3
    exact ⟨by first | rfl | (simp [errW_none, errW_some] <;> rfl) | (simp [*, errW_none, errW_some] <;> rfl) | (simp [*, errW_none, errW_some] <;> (first | done | rfl | (unfold wrap64; omega))), by repeat (first | (with_reducible first | exact HI0.out | apply IsS79.alloc | apply IsS79.drewN | apply IsS79.drew | apply IsS79.set_0 | apply IsS79.set_1) | exact HI0.out), by repeat (first | (with_reducible first | exact HB.out | apply below_alloc | apply pw_below_drewN | apply below_drew1 | refine below_set ?_ (IsS79.ge HI0.out)) | exact HB.out), by repeat (first | (with_reducible first | exact HK.out | apply KeepBut.set_ | apply keep_drewN | apply keep_drew | apply keep_alloc) | exact HK.out)⟩
end Go.Proofs.YteecekhfpfnepaaDoor.PAll
end

section
namespace Go.Proofs.YteecekhfpfnepaaDoor.PAll
open Go.RowKit Go.Proofs.YteecekhfpfnepaaDoorW.PrintWords Go.Proofs.YteecekhfpfnepaaDoorW.PrintLast Go.Proofs.YteecekhfpfnepaaDoorW.PrintMore
set_option linter.unusedVariables false
set_option linter.unusedSimpArgs false
set_option maxRecDepth 20000 in
set_option maxRecDepth 20000 in
set_option maxRecDepth 20000 in
def bits_Len32.f (a0 : Int) : Option Int := if 0 ≤ a0 ∧ a0 < 4294967296 then some (lenI a0) else none
set_option maxRecDepth 20000 in
set_option maxHeartbeats 1600000 in
theorem bits_Len32.calls (a0 : Int) (r : Int) (w : World) (h : bits_Len32.f a0 = some r) :
    Calls Tryd.prog 105 #[.int .u32 a0] w fun e w' => e = .returned (.int .i64 r) ∧ Drawn0 w w' := by
  unfold bits_Len32.f at h
  split at h
  case isFalse => simp at h
  case isTrue hr =>
  obtain ⟨h0, h1⟩ := hr
  obtain rfl := Option.some.inj h
  clear h
  go_enter Tryd.func105, Tryd.ntmps105
  have r0 := lenI_range a0 (by omega)
  go_wp2
  all_goals
    rw [tab_get _ _ (by omega)]
    go_ret
    refine ⟨?_, Drawn0.refl _⟩
    have e2 := d16 a0
    have e4 := d8 a0
    have e6 := d8 (a0 / 65536)
    refine congrArg (fun z => Ending.returned (Value.int .i64 z)) (?_ : _ = lenI a0)
    have e8 := lenI_range (a0 / 256) (by omega)
    have e9 := lenI_range (a0 / 65536) (by omega)
    unfold wrap64
    omega
end Go.Proofs.YteecekhfpfnepaaDoor.PAll
end

section
namespace Go.Proofs.YteecekhfpfnepaaDoor.PAll
open Go.RowKit Go.Proofs.YteecekhfpfnepaaDoorW.PrintWords Go.Proofs.YteecekhfpfnepaaDoorW.PrintLast Go.Proofs.YteecekhfpfnepaaDoorW.PrintMore
attribute [local go_sem] max2_int min2_int max_two min_two max_three min_three max_four min_four   -- for this text's walks alone
set_option linter.unusedVariables false
set_option linter.unusedSimpArgs false
def single_wide_long.f (l0 : List Int) : Option (Int) := if (l0.length : Int) = 0 then (some 0) else (if 0 ≤ (wrap64 ((l0.length : Int) - 1)) then (if (wrap64 ((l0.length : Int) - 1)) < (l0.length : Int) then ((bits_Len32.f (rd l0 (wrap64 ((l0.length : Int) - 1)))).bind fun t152 => (some (wrap64 ((wrap64 ((wrap64 ((l0.length : Int) - 1)) * 32)) + t152)))) else (none)) else (none))
set_option maxHeartbeats 8000000 in
set_option maxRecDepth 100000 in
theorem single_wide_long.calls (A0 : Option Addr) (c0 : Nat) (l0 : List Int) (r : Int) (w : World) (hr0 : Kd.C (Kd.int .u32) w A0 l0.length l0) (hc0 : l0.length ≤ c0) (h : single_wide_long.f l0 = some r) :
    Calls Tryd.prog 89 #[.slice A0 l0.length c0] w fun e w' => e = .returned (.int .i64 r) ∧ Drawn0 w w' := by
  have HR0 := Aside0.mk hr0
  have HC0 := Aside0.mk hc0
  clear hr0 hc0
  have H : (if (l0.length : Int) = 0 then (some 0) else (if 0 ≤ (wrap64 ((l0.length : Int) - 1)) then (if (wrap64 ((l0.length : Int) - 1)) < (l0.length : Int) then ((bits_Len32.f (rd l0 (wrap64 ((l0.length : Int) - 1)))).bind fun t152 => (some (wrap64 ((wrap64 ((wrap64 ((l0.length : Int) - 1)) * 32)) + t152)))) else (none)) else (none))) = some r := h
  clear h
  by_cases c2 : (l0.length : Int) = 0
  · rw [if_pos c2] at H
    have c2b0 : ((l0.length : Int) == 0) = true := beq_iff_eq.mpr c2
    have c2b1 : ((l0.length : Int) != 0) = false := bne_eq_false_iff_eq.mpr c2
    clear c2
    obtain rfl := Option.some.inj H
    go_enter Tryd.func89, Tryd.ntmps89
    go_wp2
    go_ret
    exact ⟨by first | rfl | (simp; done) | (simp [*]; done), by repeat (first | exact Drawn0.refl _ | apply Drawn0.step)⟩
  · rw [if_neg c2] at H
    have c2b0 : ((l0.length : Int) == 0) = false := beq_eq_false_iff_ne.mpr c2
    have c2b1 : ((l0.length : Int) != 0) = true := bne_iff_ne.mpr c2
    have c2b2 : ¬ (l0 = []) := fun h_ => c2 (by rw [h_]; rfl)
    obtain ⟨ji3, hji3⟩ : ∃ j_ : Int, (wrap64 ((l0.length : Int) - 1)) = j_ := ⟨_, rfl⟩
    replace H : (if 0 ≤ (ji3) then (if (ji3) < (l0.length : Int) then ((bits_Len32.f (rd l0 (ji3))).bind fun t152 => (some (wrap64 ((wrap64 ((ji3) * 32)) + t152)))) else (none)) else (none)) = some r := by first | (rw [hji3] at H; exact H) | (simp only [hji3] at H ⊢; exact H)
    have hji3w : (IntKind.i64.wrap ((l0.length : Int) - 1)) = ji3 := (i64_w _).trans hji3
    by_cases c4 : 0 ≤ (ji3)
    · rw [if_pos c4] at H
      have c4b0 : decide (0 ≤ (ji3)) = true := decide_eq_true c4
      clear c4
      by_cases c5 : (ji3) < (l0.length : Int)
      · rw [if_pos c5] at H
        have c5b0 : decide ((ji3) < (l0.length : Int)) = true := decide_eq_true c5
        clear c5
        replace H := Option.bind_eq_some_iff.mp H
        obtain ⟨t152, A60, H⟩ := H
        replace H : (some (wrap64 ((wrap64 ((ji3) * 32)) + t152))) = some r := H
        have A6 := Aside0.mk A60
        clear A60
        obtain rfl := Option.some.inj H
        have p151 : 0 ≤ ((ji3) : Int) := of_decide_eq_true (by first | (with_reducible assumption) | assumption)
        have q151 : (ji3) < (l0.length : Int) := of_decide_eq_true (by first | (with_reducible assumption) | assumption)
        obtain ⟨ad151, e151, hx151_0⟩ := Kd.at_int HR0.out (ji3) p151 q151
        cases e151
        replace p151 := eq_true p151
        replace q151 := eq_true q151
        go_enter Tryd.func89, Tryd.ntmps89
        go_wp2_with (first | ((with_reducible refine gate_callee (f := 105) rfl ?_); refine goesL_ (some 16) rfl rfl Tryd.func105 (by kernel_rfl) rfl #[.int .u32 (rd l0 (ji3))] rfl (by (try simp only [List.map_toArray, List.map_cons, List.map_nil]); first | done | (simp only [hji3]; rfl) | rfl | (simp only [List.length_drop, List.length_take]; rfl)) ?_; (with_reducible refine (bits_Len32.calls (rd l0 (ji3)) t152 _ A6.out).mono ?_); rintro e w' ⟨rfl, ⟨nd, rfl⟩⟩; refine ⟨_, rfl, ?_⟩))
        go_ret
        exact ⟨by first | rfl | (simp; done) | (simp only [← hji3] <;> (first | rfl | simp)) | (simp [*]; done), by repeat (first | exact Drawn0.refl _ | apply Drawn0.step)⟩
      · rw [if_neg c5] at H
        exact absurd H (by simp)
    · rw [if_neg c4] at H
      exact absurd H (by simp)
end Go.Proofs.YteecekhfpfnepaaDoor.PAll
end
