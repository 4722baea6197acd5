/- Texts of this session and printed texts, merged, what is not needed left out: PAllx17, NmC, HTrim, PAllx2, NmD, HConv, PAllx13, NmE, PAllx18, NmF, PAllx4, PAllx5, PAllx9, NmG, NmH. -/
import Derived.Test.YtgcngbmkgjphpaaDoorNpI0
import Derived.Test.YtgcngbmkgjphpaaDoorNpI1
section
namespace Go.Proofs.YtgcngbmkgjphpaaDoor.PAll
open Go.RowKit Go.Proofs.YtgcngbmkgjphpaaDoorW.PrintWords Go.Proofs.YtgcngbmkgjphpaaDoorW.PrintLast Go.Proofs.YtgcngbmkgjphpaaDoorW.PrintMore
attribute [local go_sem] max2_int min2_int max_two min_two max_three min_three max_four min_four   -- for this text's walks alone
set_option linter.unusedVariables false
set_option linter.unusedSimpArgs false
def heraldref04_Words.l0 : Nat → List Int → List Int → Int → Int → Option (List Int)
  | 0, _, _, _, _ => none
  | k + 1, x3, x7, x8, x9 => if x9 < x8 then (if 0 ≤ x9 then (if x9 < (x7.length : Int) then ((some (([wrap64 (Int.tmod (rd x7 x9) 65536), (Int.tdiv (rd x7 x9) 65536) % 4294967296] : List Int) : List Int)).bind fun y364 => (if x3.length + y364.length < 17592186044416 then (heraldref04_Words.l0 k (x3 ++ y364) x7 x8 (wrap64 (x9 + 1))) else (none))) else (none)) else (none)) else ((heraldref04_cut.f k x3).bind fun t370 => (some t370))
def heraldref04_Words.f (k : Nat) (l0 : List Int) : Option (List Int) := heraldref04_Words.l0 k (([] : List Int)) l0 (l0.length : Int) 0
set_option maxHeartbeats 8000000 in
set_option maxRecDepth 100000 in
theorem heraldref04_Words.calls (k : Nat) (A0 : Option Addr) (c0 : Nat) (l0 : List Int) (r : List Int) (w : World) (hr0 : Kd.C (Kd.int .u32) w A0 l0.length l0) (hc0 : l0.length ≤ c0) (h : heraldref04_Words.f k l0 = some r) :
    Calls Tryd.prog 53 #[.slice A0 l0.length c0] w fun e w' => ∃ v0_ : Value, e = .returned (v0_) ∧ Kd.V (Kd.int .i64) 3 w' w.heap.size (fun k_ => (w.heap.size ≤ k_)) v0_ r ∧ Below w.heap.size w w' := by
  have HR0 := Aside0.mk hr0
  have HC0 := Aside0.mk hc0
  clear hr0 hc0
  have HB := Aside0.mk (Below.refl w.heap.size w)
  have H : (heraldref04_Words.l0 k (([] : List Int)) l0 (l0.length : Int) 0) = some r := h
  clear h
  obtain ⟨y360, hy360⟩ : ∃ y_ : List Int, y_ = (([] : List Int)) := ⟨_, rfl⟩
  replace H : (heraldref04_Words.l0 k y360 l0 (l0.length : Int) 0) = some r := by first | (rw [hy360]; with_reducible exact H) | (have H2_ := (Option.bind_some _ _).symm.trans H; rw [hy360]; with_reducible exact H2_) | (have H2_ := (Option.bind_some _ _).symm.trans H; with_reducible exact H2_) | with_reducible exact H | (rw [hy360]; exact H) | exact H
  have Ny360 := Aside0.mk hy360
  clear hy360
  have H' := Aside0.mk H
  clear H
  go_enter Tryd.func53, Tryd.ntmps53
  go_wp2_with (first | ((with_reducible refine gate_dst (N := 6) rfl ?_); refine Kd.R_lit (Kd.int .i64) _ 3 ?hg (N := 6) ?hd (xs := ([] : List Int)) (inner := []) (ok := fun _ => True) (okp := fun _ => True) ?hr ?hp (fun _ hk => hk) trivial (Below.refl _ _) (Nat.le_refl _) (by simp) ?_; (case hd => rfl); (case hg => rfl); (case hr => first | (go_simp; done) | (go_simp; rfl)); (case hp => exact (Reps.none _ _)); intro v361 w2 ho3 hb hg_ hnew_; clear hg_ hnew_; (first | rw [← Ny360.out] at ho3 | (simp only [Int.reduceToNat] at ho3; rw [← Ny360.out] at ho3)); have n0_ := Aside0.mk (Kd.R_lower (Kd.R_newM (M := fun k_ => (w.heap.size ≤ k_)) ho3 (below_size (by repeat (first | (with_reducible first | exact HB.out | apply below_alloc | apply pw_below_drewN | apply below_drew1) | exact HB.out))) (fun k_ h_ => h_)) (below_size (by repeat (first | (with_reducible first | exact HB.out | apply below_alloc | apply pw_below_drewN | apply below_drew1) | exact HB.out)))); have n1_ := Aside0.mk (below_step (by repeat (first | (with_reducible first | exact HB.out | apply below_alloc | apply pw_below_drewN | apply below_drew1) | exact HB.out)) hb); clear HB; have HO362 := n0_; have HB := n1_; clear n0_ n1_; clear hb ho3))
  go_loopg [3, 9] k (fun kq v3 v9 w' => ∃ (x3_1 : List Int) (x9_1 : Int), v9 = .int .i64 x9_1 ∧ Aside0 (heraldref04_Words.l0 kq x3_1 l0 (l0.length : Int) x9_1 = some r) ∧ Aside0 (kq ≤ k) ∧ Aside0 (Kd.R (Kd.int .i64) 3 w' w.heap.size (fun k_ => (w.heap.size ≤ k_)) v3 x3_1) ∧ Aside0 (Below w.heap.size w w'))
  case atStart => exact ⟨(y360), (0), (by first | rfl | (simp; done) | (simp [*]; done) | (simp [i64_w]; done) | (simp [*, i64_w]; done)), H', ⟨Nat.le_refl _⟩, ⟨by (with_reducible repeat (first | apply Kd.R_alloc | apply Kd.R_drewN | apply Kd.R_drew)); exact Kd.R_mono HO362.out (fun _ hk => hk.1)⟩, ⟨by repeat (first | (with_reducible first | exact HB.out | apply below_alloc | apply pw_below_drewN | apply below_drew1) | exact HB.out)⟩⟩
  case round =>
    clear H'
    try clear p2
    obtain ⟨x3_1, x9_1, rfl, HA, HK1, HO_3, HB⟩ := hrel
    cases gk with
    | zero => exact absurd HA.out (by simp [heraldref04_Words.l0])
    | succ k1 =>
      have H := HA.out
      clear HA
      simp only [heraldref04_Words.l0] at H
      by_cases c4 : x9_1 < (l0.length : Int)
      · rw [if_pos c4] at H
        have c4b0 : decide (x9_1 < (l0.length : Int)) = true := decide_eq_true c4
        clear c4
        by_cases c5 : 0 ≤ x9_1
        · rw [if_pos c5] at H
          have c5b0 : decide (0 ≤ x9_1) = true := decide_eq_true c5
          clear c5
          by_cases c6 : x9_1 < (l0.length : Int)
          · rw [if_pos c6] at H
            have c6b0 : decide (x9_1 < (l0.length : Int)) = true := decide_eq_true c6
            clear c6
            obtain ⟨y364, hy364⟩ : ∃ y_ : List Int, y_ = (([wrap64 (Int.tmod (rd l0 x9_1) 65536), (Int.tdiv (rd l0 x9_1) 65536) % 4294967296] : List Int)) := ⟨_, rfl⟩
            replace H : (if x3_1.length + y364.length < 17592186044416 then (heraldref04_Words.l0 k1 (x3_1 ++ y364) l0 (l0.length : Int) (wrap64 (x9_1 + 1))) else (none)) = some r := by first | (rw [hy364]; with_reducible exact H) | (have H2_ := (Option.bind_some _ _).symm.trans H; rw [hy364]; with_reducible exact H2_) | (have H2_ := (Option.bind_some _ _).symm.trans H; with_reducible exact H2_) | with_reducible exact H | (rw [hy364]; exact H) | exact H
            have Ny364 := Aside0.mk hy364
            clear hy364
            by_cases c7 : x3_1.length + y364.length < 17592186044416
            · rw [if_pos c7] at H
              have LMc7 := Aside0.mk c7
              clear c7
              obtain ⟨y367, hy367⟩ : ∃ y_ : List Int, y_ = (x3_1 ++ y364) := ⟨_, rfl⟩
              replace H : (heraldref04_Words.l0 k1 y367 l0 (l0.length : Int) (wrap64 (x9_1 + 1))) = some r := by first | (rw [hy367]; with_reducible exact H) | (have H2_ := (Option.bind_some _ _).symm.trans H; rw [hy367]; with_reducible exact H2_) | (have H2_ := (Option.bind_some _ _).symm.trans H; with_reducible exact H2_) | with_reducible exact H | (rw [hy367]; exact H) | exact H
              have Ny367 := Aside0.mk hy367
              clear hy367
              have H' := Aside0.mk H
              clear H
              have p363 : 0 ≤ (x9_1 : Int) := of_decide_eq_true (by first | (with_reducible assumption) | assumption)
              have q363 : x9_1 < (l0.length : Int) := of_decide_eq_true (by first | (with_reducible assumption) | assumption)
              obtain ⟨ad363, e363, hx363_0⟩ := Kd.at_int HR0.out x9_1 p363 q363
              cases e363
              replace hx363_0 := (HB.out.cell (World.block_lt_of_cell? w _ hx363_0)).trans hx363_0
              replace p363 := eq_true p363
              replace q363 := eq_true q363
              go_wp2_with (first | ((with_reducible refine gate_dst (N := 20) rfl ?_); refine Kd.R_lit (Kd.int .i64) _ 3 ?hg (N := 20) ?hd (xs := ([wrap64 (Int.tmod (rd l0 x9_1) 65536), (Int.tdiv (rd l0 x9_1) 65536) % 4294967296] : List Int)) (inner := [.int .i64 (wrap64 (Int.tmod (rd l0 x9_1) 65536)), .int .i64 ((Int.tdiv (rd l0 x9_1) 65536) % 4294967296)]) (ok := fun _ => True) (okp := fun _ => True) ?hr ?hp (fun _ hk => hk) trivial (Below.refl _ _) (Nat.le_refl _) (by simp) ?_; (case hd => rfl); (case hg => rfl); (case hr => first | (go_simp; done) | (go_simp; rfl)); (case hp => exact (Reps.one (show Kd.M (Kd.int .i64) _ _ _ (wrap64 (Int.tmod (rd l0 x9_1) 65536)) [.int .i64 (wrap64 (Int.tmod (rd l0 x9_1) 65536))] from rfl) (Reps.one (show Kd.M (Kd.int .i64) _ _ _ ((Int.tdiv (rd l0 x9_1) 65536) % 4294967296) [.int .i64 ((Int.tdiv (rd l0 x9_1) 65536) % 4294967296)] from rfl) (Reps.none _ _)))); intro v365 w8 ho9 hb hg_ hnew_; clear hg_ hnew_; (first | rw [← Ny364.out] at ho9 | (simp only [Int.reduceToNat] at ho9; rw [← Ny364.out] at ho9)); have n0_ := Aside0.mk (Kd.R_elder' (by (with_reducible repeat (first | apply Kd.R_alloc | apply Kd.R_drewN | apply Kd.R_drew)); exact HO_3.out) (Kd.R_base ho9) hb); have n1_ := Aside0.mk (Kd.R_lower (Kd.R_new' (Kd.R_newM (M := fun k_ => (w.heap.size ≤ k_)) ho9 (below_size (by repeat (first | (with_reducible first | exact HB.out | apply below_alloc | apply pw_below_drewN | apply below_drew1) | exact HB.out))) (fun k_ h_ => h_)) (Kd.R_lt (by (with_reducible repeat (first | apply Kd.R_alloc | apply Kd.R_drewN | apply Kd.R_drew)); exact HO_3.out))) (below_size (by repeat (first | (with_reducible first | exact HB.out | apply below_alloc | apply pw_below_drewN | apply below_drew1) | exact HB.out)))); have n2_ := Aside0.mk (below_step (by repeat (first | (with_reducible first | exact HB.out | apply below_alloc | apply pw_below_drewN | apply below_drew1) | exact HB.out)) hb); clear HO_3; clear HB; have HO_3 := n0_; have HO366 := n1_; have HB := n2_; clear n0_ n1_ n2_; clear hb ho9; obtain ⟨Ao11, co11, eo11⟩ := Kd.R_slice HO366.out; subst eo11) | ((with_reducible refine gate_builtin (b := .append) (xs := #[.tmp 13, .tmp 20]) rfl ?_); at_builtin; refine Kd.R_append_rows (Kd.int .i64) (w0 := w) w.heap.size rfl (.tmp 13) (.tmp 20) 32 3 (.int .i64 0) 8 rfl Tryd.underlying32 info3 rfl (by decide) (by omega) u3 x3_1 y364 _ _ _ (fun k_ => (w.heap.size ≤ k_) ∧ some k_ ≠ (.slice Ao11 y364.length co11 : Value).ownBlock) (fun _ => False) rfl rfl ?aO ?aR (fun _ _ h => h) (fun _ h => h.elim) ?aF ?aB ?aS ?aL ?_; (case aR => repeat (first | exact (Kd.R_reads' HO366.out).2.2 | (with_reducible refine Kd.C_alloc ?_ _) | (with_reducible refine Kd.C_drewN ?_ _) | (with_reducible refine Kd.C_drew ?_))); (case aB => exact (by repeat (first | (with_reducible first | exact HB.out | apply below_alloc | apply pw_below_drewN | apply below_drew1) | exact HB.out))); (case aF => exact (fun k_ hk => ⟨(Nat.le_trans (below_size (by repeat (first | (with_reducible first | exact HB.out | apply below_alloc | apply pw_below_drewN | apply below_drew1) | exact HB.out))) hk), Kd.fresh' (Kd.R_lt (by (with_reducible repeat (first | apply Kd.R_alloc | apply Kd.R_drewN | apply Kd.R_drew)); exact HO366.out)) k_ hk⟩)); (case aO => exact (by (with_reducible repeat (first | apply Kd.R_alloc | apply Kd.R_drewN | apply Kd.R_drew)); exact HO_3.out)); (case aS => exact (below_size (by repeat (first | (with_reducible first | exact HB.out | apply below_alloc | apply pw_below_drewN | apply below_drew1) | exact HB.out)))); (case aL => have := LMc7.out; omega); intro v368 w10 ho hb hg hat; rw [← Ny367.out] at ho; have n0_ := Aside0.mk (Kd.R_after (ok := (fun k_ => (w.heap.size ≤ k_))) (by (with_reducible repeat (first | apply Kd.R_alloc | apply Kd.R_drewN | apply Kd.R_drew)); exact Kd.R_mono HO366.out (fun _ hk => ⟨hk.1.1, hk.2⟩)) hg hat); have n1_ := Aside0.mk (hb); have n2_ := Aside0.mk (ho); clear HO366; clear HB; clear HO_3; have HO366 := n0_; have HB := n1_; have HO369 := n2_; clear n0_ n1_ n2_; clear ho hb hg hat))
              go_roundg k1
              case measure => have := HK1.out; omega
              case rel => exact ⟨(y367), (wrap64 (x9_1 + 1)), (by first | rfl | (simp; done) | (simp [*]; done) | (simp [i64_w]; done) | (simp [*, i64_w]; done)), H', ⟨by have := HK1.out; omega⟩, ⟨by (with_reducible repeat (first | apply Kd.R_alloc | apply Kd.R_drewN | apply Kd.R_drew)); exact Kd.R_mono HO369.out (fun _ hk => hk.1)⟩, ⟨by repeat (first | (with_reducible first | exact HB.out | apply below_alloc | apply pw_below_drewN | apply below_drew1) | exact HB.out)⟩⟩
            · rw [if_neg c7] at H
              exact absurd H (by simp)
          · rw [if_neg c6] at H
            exact absurd H (by simp)
        · rw [if_neg c5] at H
          exact absurd H (by simp)
      · rw [if_neg c4] at H
        have c4b0 : decide (x9_1 < (l0.length : Int)) = false := decide_eq_false c4
        clear c4
        replace H := Option.bind_eq_some_iff.mp H
        obtain ⟨t370, A120, H⟩ := H
        replace H : (some t370) = some r := H
        have A12 := Aside0.mk A120
        clear A120
        obtain rfl := Option.some.inj H
        obtain ⟨Ao13, co13, eo13⟩ := Kd.R_slice HO_3.out
        subst eo13
        go_wp2_with (first | ((with_reducible refine gate_callee (f := 50) rfl ?_); refine goesL_ (some 24) rfl rfl Tryd.func50 (by kernel_rfl) rfl #[.slice Ao13 x3_1.length co13] rfl (by (try simp only [List.map_toArray, List.map_cons, List.map_nil]); first | done | rfl | (simp only [List.length_drop, List.length_take]; rfl)) ?_; (with_reducible refine (heraldref04_cut.calls k1 (fun k_ => some k_ = (.slice Ao13 x3_1.length co13 : Value).ownBlock) _ _ x3_1 t370 _ ?side1 A12.out).mono ?_); (case side1 => exact Kd.R_V (Kd.R_tight rfl (HO_3.out))); rintro e w14 ⟨v371, rfl, ho0, hb⟩; refine ⟨_, rfl, ?_⟩; have n0_ := Aside0.mk (Kd.R_below (by (with_reducible repeat (first | apply Kd.R_alloc | apply Kd.R_drewN | apply Kd.R_drew)); exact HO_3.out) hb); have n1_ := Aside0.mk (Kd.V_lower (Kd.V_mono (ok' := fun k_ => (w.heap.size ≤ k_)) ho0 (fun k_ hk_ => Or.elim hk_ (fun hs_ => ((HO_3.out).1 k_ hs_.symm)) (fun hn_ => (Nat.le_trans (below_size (by repeat (first | (with_reducible first | exact HB.out | apply below_alloc | apply pw_below_drewN | apply below_drew1) | exact HB.out))) hn_)))) (below_size (by repeat (first | (with_reducible first | exact HB.out | apply below_alloc | apply pw_below_drewN | apply below_drew1) | exact HB.out)))); have n2_ := Aside0.mk (below_step (by repeat (first | (with_reducible first | exact HB.out | apply below_alloc | apply pw_below_drewN | apply below_drew1) | exact HB.out)) hb); clear HO_3; clear HB; have HO_3 := n0_; have HO372 := n1_; have HB := n2_; clear n0_ n1_ n2_; (try clear hb); (try clear hb2); (try clear hk); (try clear hi); (try clear ho0)))
        go_ret
        exact ⟨_, by first | rfl | (simp [errW_none, errW_some] <;> rfl) | (simp [*, errW_none, errW_some] <;> rfl), by (with_reducible repeat (first | apply Kd.V_alloc | apply Kd.V_drewN | apply Kd.V_drew)); exact HO372.out, by repeat (first | (with_reducible first | exact HB.out | apply below_alloc | apply pw_below_drewN | apply below_drew1) | exact HB.out)⟩
def heraldref04_Fit.f (k : Nat) (l0 : List Int) : Option (List Int × Int) := (heraldref04_Bits.f k l0).bind fun t373 => (if t373 > 65536 then (some (([] : List Int), 41)) else (some (l0, 0)))
set_option maxHeartbeats 8000000 in
set_option maxRecDepth 100000 in
theorem heraldref04_Fit.calls (k : Nat) (P0_ : Nat → Prop) (A0 : Option Addr) (c0 : Nat) (l0 : List Int) (r1 : List Int) (r2 : Int) (w : World) (hs0 : Kd.V (Kd.int .i64) 3 w w.heap.size (fun k_ => P0_ k_) (.slice A0 l0.length c0) l0) (h : heraldref04_Fit.f k l0 = some (r1, r2)) :
    Calls Tryd.prog 54 #[.slice A0 l0.length c0] w fun e w' => ∃ v0_ : Value, e = .returned (.tuple #[v0_, .int .i64 r2]) ∧ Kd.V (Kd.int .i64) 3 w' w.heap.size (fun k_ => (P0_ k_ ∨ w.heap.size ≤ k_)) v0_ r1 ∧ Below w.heap.size w w' := by
  have HO0 := Aside0.mk (show Kd.V (Kd.int .i64) 3 w w.heap.size (fun k_ => (P0_ k_ ∨ w.heap.size ≤ k_)) (.slice A0 l0.length c0) l0 from Kd.V_mono hs0 (fun k_ hk => .inl hk))
  have HB := Aside0.mk (Below.refl w.heap.size w)
  have H : ((heraldref04_Bits.f k l0).bind fun t373 => (if t373 > 65536 then (some (([] : List Int), 41)) else (some (l0, 0)))) = some (r1, r2) := h
  clear h
  replace H := Option.bind_eq_some_iff.mp H
  obtain ⟨t373, A20, H⟩ := H
  replace H : (if t373 > 65536 then (some (([] : List Int), 41)) else (some (l0, 0))) = some (r1, r2) := H
  have A2 := Aside0.mk A20
  clear A20
  by_cases c3 : t373 > 65536
  · rw [if_pos c3] at H
    have c3b0 : decide (65536 < t373) = true := decide_eq_true c3
    clear c3
    simp only [Option.some.injEq, Prod.mk.injEq] at H
    obtain ⟨rfl, rfl⟩ := H
    go_enter Tryd.func54, Tryd.ntmps54
    go_wp2_with (first | ((with_reducible refine gate_callee (f := 26) rfl ?_); refine goesL_ (some 5) rfl rfl Tryd.func26 (by kernel_rfl) rfl #[.slice A0 l0.length c0] rfl (by (try simp only [List.map_toArray, List.map_cons, List.map_nil]); first | done | rfl | (simp only [List.length_drop, List.length_take]; rfl)) ?_; (with_reducible refine (heraldref04_Bits.calls k _ _ l0 t373 _ ?side1 ?side2 A2.out).mono ?_); (case side1 => repeat (first | exact (Kd.V_reads' HO0.out).2.2 | (with_reducible refine Kd.C_alloc ?_ _) | (with_reducible refine Kd.C_drewN ?_ _) | (with_reducible refine Kd.C_drew ?_))); (case side2 => exact (Kd.V_reads' HO0.out).2.1); rintro e w' ⟨rfl, ⟨nd, rfl⟩⟩; refine ⟨_, rfl, ?_⟩))
    go_ret2
    exact ⟨_, by first | rfl | (simp [errW_none, errW_some] <;> rfl) | (simp [*, errW_none, errW_some] <;> rfl), Kd.V_mono (Kd.R_V (base := w.heap.size) (by first | exact Kd.R_nil _ _ _ _ (fun _ => False) | exact Kd.R_nil _ _ _ _ _ | exact Kd.N_nil _ _ _ _ _ | exact Kd.V_nil _ _ _ _ _ | exact Kd.Q_nil _ _ _ _ _ | exact Kd.S_nil _ _ _ _ _)) (fun k_ hk => by first | exact False.elim hk | exact ⟨(.inr (hk.1)), hk.2⟩ | exact (.inr (hk))), by repeat (first | (with_reducible first | exact HB.out | apply below_alloc | apply pw_below_drewN | apply below_drew1) | exact HB.out)⟩
  · rw [if_neg c3] at H
    have c3b0 : decide (65536 < t373) = false := decide_eq_false c3
    clear c3
    simp only [Option.some.injEq, Prod.mk.injEq] at H
    obtain ⟨rfl, rfl⟩ := H
    go_enter Tryd.func54, Tryd.ntmps54
    go_wp2_with (first | ((with_reducible refine gate_callee (f := 26) rfl ?_); refine goesL_ (some 5) rfl rfl Tryd.func26 (by kernel_rfl) rfl #[.slice A0 l0.length c0] rfl (by (try simp only [List.map_toArray, List.map_cons, List.map_nil]); first | done | rfl | (simp only [List.length_drop, List.length_take]; rfl)) ?_; (with_reducible refine (heraldref04_Bits.calls k _ _ l0 t373 _ ?side1 ?side2 A2.out).mono ?_); (case side1 => repeat (first | exact (Kd.V_reads' HO0.out).2.2 | (with_reducible refine Kd.C_alloc ?_ _) | (with_reducible refine Kd.C_drewN ?_ _) | (with_reducible refine Kd.C_drew ?_))); (case side2 => exact (Kd.V_reads' HO0.out).2.1); rintro e w' ⟨rfl, ⟨nd, rfl⟩⟩; refine ⟨_, rfl, ?_⟩))
    go_ret2
    exact ⟨_, by first | rfl | (simp [errW_none, errW_some] <;> rfl) | (simp [*, errW_none, errW_some] <;> rfl), by (with_reducible repeat (first | apply Kd.V_alloc | apply Kd.V_drewN | apply Kd.V_drew)); exact HO0.out, by repeat (first | (with_reducible first | exact HB.out | apply below_alloc | apply pw_below_drewN | apply below_drew1) | exact HB.out)⟩
end Go.Proofs.YtgcngbmkgjphpaaDoor.PAll
end

section
namespace Go.Proofs.YtgcngbmkgjphpaaDoor.Nums
open Go.RowKit Go.Proofs.YtgcngbmkgjphpaaDoor.PAll Go.Proofs.YtgcngbmkgjphpaaDoorW.PrintWords Go.Proofs.YtgcngbmkgjphpaaDoorW.PrintLast Go.Proofs.YtgcngbmkgjphpaaDoorW.PrintMore
set_option linter.unusedVariables false
set_option linter.unusedSimpArgs false
theorem bl_mul {x y : Nat} (hx : x ≠ 0) (hy : y ≠ 0) : bl x + bl y ≤ bl (x * y) + 1 := by
  have h1 := bl_pos.mpr hx
  have h2 := bl_pos.mpr hy
  have a1 : 2 ^ (bl x - 1) ≤ x := lt_bl.mp (by omega)
  have a2 : 2 ^ (bl y - 1) ≤ y := lt_bl.mp (by omega)
  have a3 := Nat.mul_le_mul a1 a2
  rw [← Nat.pow_add] at a3
  have := lt_bl.mpr a3
  omega
theorem bl_half {t : Nat} (h : t ≠ 0) : bl t = 1 + bl (t / 2) := by
  by_cases g : t / 2 = 0
  · have : t = 1 := by omega
    subst this; rfl
  · have := bl_split (n := t) (w := 1) (p := 1) (by rw [Nat.pow_one]; exact g)
    rwa [Nat.pow_one] at this
/-- One row of the program's product. -/
theorem mul_row (x y i Lt V W p : Nat) (R : List Int × Int) (hp : p < 4294967296) (hW : W = V + 4294967296 ^ i * (p * y)) (hV : V < 4294967296 ^ (i + (dgs 4294967296 y).length)) (hWlt : W < 4294967296 ^ (i + (dgs 4294967296 y).length + 1)) (hLt : i + (dgs 4294967296 y).length < Lt) (hsz : Lt ≤ 72057594037927936)
    (hR : Ev (fun k => nat_Nat_Mul.l0 k (dn 4294967296 Lt W) (dgs 4294967296 x) ((dgs 4294967296 x).length : Int) ((i + 1 : Nat) : Int) (dgs 4294967296 y)) R) : ∀ (jj j c : Nat), jj = (dgs 4294967296 y).length - j → j ≤ (dgs 4294967296 y).length → c < 4294967296 → W / 4294967296 ^ (i + j) = V / 4294967296 ^ (i + j) + p * (y / 4294967296 ^ j) + c →
    Ev (fun k => nat_Nat_Mul.l1 k (dn 4294967296 Lt (mix 4294967296 (i + j) W V)) (i : Int) (p : Int) (c : Int) (dgs 4294967296 x) ((dgs 4294967296 x).length : Int) (i : Int) (dgs 4294967296 y) ((dgs 4294967296 y).length : Int) (j : Int) (dgs 4294967296 y)) R := by
  intro jj
  induction jj with
  | zero =>
    intro j c hj hjl hc hv
    obtain rfl : j = (dgs 4294967296 y).length := by omega
    have hz : y / 4294967296 ^ (dgs 4294967296 y).length = 0 := Nat.div_eq_of_lt (lt_pow_len (by omega))
    rw [hz, Nat.mul_zero, Nat.add_zero, Nat.div_eq_of_lt hV, Nat.zero_add] at hv
    refine Ev.step (fun k => ?_) hR
    have hs := dn_mix (b := 4294967296) (by omega) (i + (dgs 4294967296 y).length) Lt W V hLt
    rw [hv, Nat.mod_eq_of_lt hc, mix_all hWlt (Nat.lt_of_lt_of_le hV (Nat.pow_le_pow_right (by omega) (by omega)))] at hs
    rw [nat_Nat_Mul.l1, if_neg (by omega), wrap_in (a := (i : Int) + ((dgs 4294967296 y).length : Int)) (by omega) (by omega), dn_length, if_pos (by omega), if_pos (by omega), wrap_in (a := (i : Int) + 1) (by omega) (by omega)]
    rw [show ((i : Int) + ((dgs 4294967296 y).length : Int)).toNat = i + (dgs 4294967296 y).length by omega, show (c : Int) % 4294967296 = (c : Int) by omega, hs]
    rfl
  | succ jj ih =>
    intro j c hj hjl hc hv
    have hx := Nat.mod_lt (y / 4294967296 ^ j) (show 0 < 4294967296 by omega)
    have ho := Nat.mod_lt (V / 4294967296 ^ (i + j)) (show 0 < 4294967296 by omega)
    have hb := mac_small (o := V / 4294967296 ^ (i + j) % 4294967296) (p := p) (n := y / 4294967296 ^ j % 4294967296) (c := c) (show 0 < 4294967296 by omega) ho hp hx hc
    have e1 : W / 4294967296 ^ (i + (j + 1)) = W / 4294967296 ^ (i + j) / 4294967296 := by rw [Nat.div_div_eq_div_mul, ← Nat.pow_succ]; rfl
    have e2 : y / 4294967296 ^ (j + 1) = y / 4294967296 ^ j / 4294967296 := by rw [Nat.div_div_eq_div_mul, ← Nat.pow_succ]
    have e3 : V / 4294967296 ^ (i + (j + 1)) = V / 4294967296 ^ (i + j) / 4294967296 := by rw [Nat.div_div_eq_div_mul, ← Nat.pow_succ]; rfl
    have hmod := mac_mod (V / 4294967296 ^ (i + j)) p (y / 4294967296 ^ j) c 4294967296
    have hdiv := mac_div (b := 4294967296) (by omega) (V / 4294967296 ^ (i + j)) p (y / 4294967296 ^ j) c
    rw [← hv] at hmod
    rw [← hv, ← e1, ← e2, ← e3] at hdiv
    refine Ev.step (fun k => ?_) (ih (j + 1) ((V / 4294967296 ^ (i + j) % 4294967296 + p * (y / 4294967296 ^ j % 4294967296) + c) / 4294967296) (by omega) (by omega) (div_lt_of hb) hdiv.symm)
    rw [nat_Nat_Mul.l1, if_pos (by omega), if_pos (by omega), if_pos (by omega), wrap_in (a := (i : Int) + (j : Int)) (by omega) (by omega), dn_length, if_pos (by omega), if_pos (by omega), rd_dgs (by omega), wrap_in (a := (j : Int) + 1) (by omega) (by omega)]
    rw [show (i : Int) + (j : Int) = ((i + j : Nat) : Int) by omega, rd_dn (by omega), mix_get (by omega), Int.toNat_natCast]
    generalize hx' : y / 4294967296 ^ j % 4294967296 = X at *
    generalize hy' : V / 4294967296 ^ (i + j) % 4294967296 = O at *
    have hc2 : (p : Int) * (X : Int) = ((p * X : Nat) : Int) := by push_cast; rfl
    rw [u64_in (a := (X : Int)) (by omega) (by omega), u64_in (a := (p : Int)) (by omega) (by omega), u64_in (a := (O : Int)) (by omega) (by omega), hc2, u64_in (a := ((p * X : Nat) : Int)) (by omega) (by omega), u64_in (a := ((p * X : Nat) : Int) + (O : Int)) (by omega) (by omega), u64_in (a := (c : Int) + _) (by omega) (by omega)]
    rw [show (c : Int) + (((p * X : Nat) : Int) + (O : Int)) = ((O + p * X + c : Nat) : Int) by omega]
    rw [show ((O + p * X + c : Nat) : Int) % 4294967296 = (((O + p * X + c) % 4294967296 : Nat) : Int) by omega, show ((O + p * X + c : Nat) : Int) / 4294967296 = (((O + p * X + c) / 4294967296 : Nat) : Int) by omega, hmod]
    rw [dn_mix (b := 4294967296) (by omega) (i + j) Lt W V (by omega)]
    rfl
theorem mul_loop (x y Lt : Nat) (R : List Int × Int) (hLt : Lt = (dgs 4294967296 x).length + (dgs 4294967296 y).length) (hsz : Lt ≤ 72057594037927936)
    (hR : Ev (fun k => (nat_cut.f k (dn 4294967296 Lt (x * y))).bind fun t157 => ((nat_checked.f t157).bind fun bt160 => some (bt160.1, bt160.2))) R) : ∀ (m i : Nat), m = (dgs 4294967296 x).length - i → i ≤ (dgs 4294967296 x).length →
    Ev (fun k => nat_Nat_Mul.l0 k (dn 4294967296 Lt (x % 4294967296 ^ i * y)) (dgs 4294967296 x) ((dgs 4294967296 x).length : Int) (i : Int) (dgs 4294967296 y)) R := by
  intro m
  induction m with
  | zero =>
    intro i hm hi
    obtain rfl : i = (dgs 4294967296 x).length := by omega
    refine Ev.step (fun k => ?_) hR
    rw [nat_Nat_Mul.l0, if_neg (by omega), Nat.mod_eq_of_lt (lt_pow_len (by omega))]
  | succ m ih =>
    intro i hm hi
    have hx := Nat.mod_lt (x / 4294967296 ^ i) (show 0 < 4294967296 by omega)
    have hp : 0 < 4294967296 ^ i := Nat.pow_pos (by omega)
    have hp1 : 0 < 4294967296 ^ (i + 1) := Nat.pow_pos (by omega)
    have hV := mul_lt_pow (b := 4294967296) (Nat.mod_lt x hp) (lt_pow_len (b := 4294967296) (n := y) (by omega))
    have hW := mul_lt_pow (b := 4294967296) (Nat.mod_lt x hp1) (lt_pow_len (b := 4294967296) (n := y) (by omega))
    have hWV : x % 4294967296 ^ (i + 1) * y = x % 4294967296 ^ i * y + 4294967296 ^ i * (x / 4294967296 ^ i % 4294967296 * y) := by
      rw [Nat.mod_pow_succ, Nat.add_mul, Nat.mul_assoc]
    have h := mul_row x y i Lt (x % 4294967296 ^ i * y) (x % 4294967296 ^ (i + 1) * y) (x / 4294967296 ^ i % 4294967296) R hx hWV hV (by rw [show i + (dgs 4294967296 y).length + 1 = i + 1 + (dgs 4294967296 y).length by omega]; exact hW) (by omega) hsz (ih (i + 1) (by omega) (by omega)) (dgs 4294967296 y).length 0 0 (by omega) (by omega) (by omega)
      (by rw [Nat.add_zero i, Nat.add_zero, hWV, Nat.add_mul_div_left _ _ hp, Nat.pow_zero, Nat.div_one, Nat.add_zero])
    refine Ev.step (fun k => ?_) h
    rw [nat_Nat_Mul.l0, if_pos (by omega), if_pos (by omega), if_pos (by omega), rd_dgs (by omega)]
    congr 1
    rw [Nat.add_zero]
    congr 1
    unfold mix
    rw [hWV, Nat.add_mul_mod_self_left]
    exact (Nat.mod_add_div _ _).symm
theorem mul_len (b x y : Nat) (hb : 2 ≤ b) : (dgs b (x * y)).length ≤ (dgs b x).length + (dgs b y).length := (dgs_len_le hb).mpr (mul_lt_pow (lt_pow_len hb) (lt_pow_len hb))
theorem cut_mul (x y : Nat) (h : (dgs 4294967296 x).length + (dgs 4294967296 y).length ≤ 9223372036854775807) : Ev (fun k => nat_cut.f k (dn 4294967296 ((dgs 4294967296 x).length + (dgs 4294967296 y).length) (x * y))) (dgs 4294967296 (x * y)) := cut_dn h (mul_lt_pow (lt_pow_len (by omega)) (lt_pow_len (by omega)))
/-- The program's product. -/
theorem mul_f (k : Nat) (l0 l1 : List Int) (a b : Int) (h0 : nat_Nat_Bits.f l0 = some a) (h1 : nat_Nat_Bits.f l1 = some b) (hw : wrap64 (a + b) = a + b) (hn : wrap64 ((l0.length : Int) + (l1.length : Int)) = (l0.length : Int) + (l1.length : Int)) (hm : l0.length + l1.length ≤ 4096) :
    nat_Nat_Mul.f k l0 l1 = if a + b > 65537 then some ([], 41) else nat_Nat_Mul.l0 k (List.replicate (((l0.length : Int) + (l1.length : Int)).toNat) 0) l0 (l0.length : Int) 0 l1 := by
  unfold nat_Nat_Mul.f
  rw [h0, h1]
  simp only [Option.bind_some]
  rw [hw, hn, if_pos (c := (0 : Int) ≤ _) (by omega), if_pos (c := Int.toNat _ ≤ _) (by omega)]
theorem mul_head {x y : Nat} (hx : bl x ≤ 65536) (hy : bl y ≤ 65536) (k : Nat) : nat_Nat_Mul.f k (dgs 4294967296 x) (dgs 4294967296 y) = if ((bl x : Nat) : Int) + ((bl y : Nat) : Int) > 65537 then some ([], 41) else nat_Nat_Mul.l0 k (dn 4294967296 ((dgs 4294967296 x).length + (dgs 4294967296 y).length) 0) (dgs 4294967296 x) ((dgs 4294967296 x).length : Int) 0 (dgs 4294967296 y) := by
  have lx := pd_len (n := x) (k := 2048) (by omega)
  have ly := pd_len (n := y) (k := 2048) (by omega)
  rw [mul_f k _ _ _ _ (bits_some (by omega)) (bits_some (by omega)) (wrap_in (by omega) (by omega)) (wrap_in (by omega) (by omega)) (by omega), rep_dn 4294967296 ((dgs 4294967296 x).length + (dgs 4294967296 y).length) _ (by omega)]
theorem mul_checked (x y : Nat) (h : (dgs 4294967296 x).length + (dgs 4294967296 y).length ≤ 4096) (g : bl (x * y) ≤ 65536) : Ev (fun k => (nat_cut.f k (dn 4294967296 ((dgs 4294967296 x).length + (dgs 4294967296 y).length) (x * y))).bind fun t157 => ((nat_checked.f t157).bind fun bt160 => some (bt160.1, bt160.2))) (dgs 4294967296 (x * y), 0) := by
  have hlen := mul_len 4294967296 x y (by omega)
  refine (cut_mul x y (by omega)).bind ?_
  refine Ev.congr (fun k => ?_) (Ev.now _)
  rw [checked_some (by omega), if_pos g]
  rfl
theorem mul_over (x y : Nat) (h : (dgs 4294967296 x).length + (dgs 4294967296 y).length ≤ 4096) (g : ¬ bl (x * y) ≤ 65536) : Ev (fun k => (nat_cut.f k (dn 4294967296 ((dgs 4294967296 x).length + (dgs 4294967296 y).length) (x * y))).bind fun t157 => ((nat_checked.f t157).bind fun bt160 => some (bt160.1, bt160.2))) ([], 41) := by
  have hlen := mul_len 4294967296 x y (by omega)
  refine (cut_mul x y (by omega)).bind ?_
  refine Ev.congr (fun k => ?_) (Ev.now _)
  rw [checked_some (by omega), if_neg g]
  rfl
theorem mul_all (x y : Nat) (R : List Int × Int) (h : (dgs 4294967296 x).length + (dgs 4294967296 y).length ≤ 4096) (hR : Ev (fun k => (nat_cut.f k (dn 4294967296 ((dgs 4294967296 x).length + (dgs 4294967296 y).length) (x * y))).bind fun t157 => ((nat_checked.f t157).bind fun bt160 => some (bt160.1, bt160.2))) R) : Ev (fun k => nat_Nat_Mul.l0 k (dn 4294967296 ((dgs 4294967296 x).length + (dgs 4294967296 y).length) 0) (dgs 4294967296 x) ((dgs 4294967296 x).length : Int) 0 (dgs 4294967296 y)) R := by
  have h := mul_loop x y ((dgs 4294967296 x).length + (dgs 4294967296 y).length) R rfl (by omega) hR (dgs 4294967296 x).length 0 (by omega) (by omega)
  rw [Nat.pow_zero, Nat.mod_one, Nat.zero_mul] at h
  exact h
theorem mul_fits {x y : Nat} (hx : bl x ≤ 65536) (hy : bl y ≤ 65536) (g : bl (x * y) ≤ 65536) : Ev (fun k => nat_Nat_Mul.f k (dgs 4294967296 x) (dgs 4294967296 y)) (dgs 4294967296 (x * y), 0) := by
  have lx := pd_len (n := x) (k := 2048) (by omega)
  have ly := pd_len (n := y) (k := 2048) (by omega)
  refine Ev.congr (fun k => ?_) (mul_all x y _ (by omega) (mul_checked x y (by omega) g))
  rw [mul_head hx hy, if_neg]
  intro hbig
  have h1 : x ≠ 0 := by rintro rfl; rw [bl_zero] at hbig; omega
  have h2 : y ≠ 0 := by rintro rfl; rw [bl_zero] at hbig; omega
  have := bl_mul h1 h2
  omega
theorem mul_big {x y : Nat} (hx : bl x ≤ 65536) (hy : bl y ≤ 65536) (g : ¬ bl (x * y) ≤ 65536) : Ev (fun k => nat_Nat_Mul.f k (dgs 4294967296 x) (dgs 4294967296 y)) ([], 41) := by
  have lx := pd_len (n := x) (k := 2048) (by omega)
  have ly := pd_len (n := y) (k := 2048) (by omega)
  by_cases c : ((bl x : Nat) : Int) + ((bl y : Nat) : Int) > 65537
  · refine Ev.congr (fun k => ?_) (Ev.now _)
    rw [mul_head hx hy, if_pos c]
  · refine Ev.congr (fun k => ?_) (mul_all x y _ (by omega) (mul_over x y (by omega) g))
    rw [mul_head hx hy, if_neg c]
/-- The reference's bits. -/
theorem rbits_loop : ∀ (t : Nat) (a : Int), t < 4294967296 → 0 ≤ a → a + (bl t : Nat) ≤ 4611686018427387904 → Ev (fun k => heraldref04_Bits.l0 k a (t : Int)) (a + (bl t : Nat)) := by
  intro t
  induction t using Nat.strongRecOn with
  | ind t ih =>
    intro a ht h0 h1
    by_cases h : t = 0
    · subst h
      refine Ev.step (f := fun _ => some (a + (bl 0 : Nat))) (fun k => ?_) (Ev.now _)
      rw [heraldref04_Bits.l0, if_neg (by omega)]
      simp [bl_zero]
    · have hh := bl_half h
      refine Ev.step (fun k => ?_) (by
        have := ih (t / 2) (by omega) (a + 1) (by omega) (by omega) (by omega)
        rw [show a + 1 + ((bl (t / 2) : Nat) : Int) = a + ((bl t : Nat) : Int) by omega] at this
        exact this)
      rw [heraldref04_Bits.l0, if_pos (by omega), wrap_in (by omega) (by omega), show (2 : Int) = ((2 : Nat) : Int) from rfl, ← Int.ofNat_tdiv, wrap_in (by omega) (by omega)]
theorem rbits_ev {n : Nat} (hsz : (dgs 65536 n).length ≤ 72057594037927936) : Ev (fun k => heraldref04_Bits.f k (dgs 65536 n)) ((bl n : Nat) : Int) := by
  by_cases hn : n = 0
  · subst hn
    refine Ev.congr (fun k => ?_) (Ev.now _)
    unfold heraldref04_Bits.f
    rw [if_pos (by simp [dgs_zero])]
    rfl
  · have h0 := dgs_len_pos (b := 65536) (n := n) (by omega) hn
    have hbl := bl_dgs (w := 16) (n := n) (by omega) hn
    rw [show (2 : Nat) ^ 16 = 65536 from rfl] at hbl
    have hlt := Nat.mod_lt (n / 65536 ^ ((dgs 65536 n).length - 1)) (show 0 < 65536 by omega)
    obtain ⟨T, hT⟩ : ∃ T, n / 65536 ^ ((dgs 65536 n).length - 1) % 65536 = T := ⟨_, rfl⟩
    rw [hT] at hbl hlt
    have hb16 : bl T ≤ 16 := bl_le.mpr (by rw [show (2 : Nat) ^ 16 = 65536 from rfl]; exact hlt)
    have h := rbits_loop T (((16 * ((dgs 65536 n).length - 1) : Nat)) : Int) (by omega) (by omega) (by omega)
    rw [show (((16 * ((dgs 65536 n).length - 1) : Nat)) : Int) + ((bl T : Nat) : Int) = ((bl n : Nat) : Int) by omega] at h
    refine Ev.congr (fun k => ?_) h
    have hw : wrap64 (((dgs 65536 n).length : Int) - 1) = (((dgs 65536 n).length - 1 : Nat) : Int) := by rw [wrap_in (by omega) (by omega)]; omega
    unfold heraldref04_Bits.f
    rw [if_neg (by omega), hw, if_pos (by omega), if_pos (by omega), rd_dgs (by omega), hT, wrap_in (by omega) (by omega)]
    congr 1
theorem fit_ev {n : Nat} (hsz : (dgs 65536 n).length ≤ 72057594037927936) : Ev (fun k => heraldref04_Fit.f k (dgs 65536 n)) (if bl n ≤ 65536 then (dgs 65536 n, 0) else ([], 41)) := by
  refine (rbits_ev hsz).bind ?_
  refine Ev.congr (fun k => ?_) (Ev.now _)
  by_cases g : bl n ≤ 65536
  · rw [if_neg (by omega), if_pos g]
  · rw [if_pos (by omega), if_neg g]
end Go.Proofs.YtgcngbmkgjphpaaDoor.Nums
end

section
namespace Go.Proofs.YtgcngbmkgjphpaaDoor.PAll
open Go.RowKit Go.Proofs.YtgcngbmkgjphpaaDoorW.PrintWords Go.Proofs.YtgcngbmkgjphpaaDoorW.PrintLast Go.Proofs.YtgcngbmkgjphpaaDoorW.PrintMore
set_option linter.unusedVariables false
set_option linter.unusedSimpArgs false
def strings_TrimLeft.f (k : Nat) (a0 a1 : ByteArray) : Option ByteArray := if a1 = (⟨#[48]⟩ : ByteArray) then strings_trimLeftByte.f k a0 48 else none
set_option maxRecDepth 20000 in
set_option maxHeartbeats 800000 in
theorem strings_TrimLeft.calls (k : Nat) (a0 a1 : ByteArray) (r : ByteArray) (w : World) (h : strings_TrimLeft.f k a0 a1 = some r) :
    Calls Tryd.prog 52 #[.string a0, .string a1] w fun e w' => e = .returned (.string r) ∧ Drawn0 w w' := by
  unfold strings_TrimLeft.f at h
  split at h
  case isFalse => simp at h
  case isTrue hr =>
  subst hr
  by_cases c : a0.toList = ([] : List UInt8)
  · obtain rfl : a0 = (⟨#[]⟩ : ByteArray) := by
      rw [ByteArray.toList_eq] at c
      cases a0 with | mk d => cases d with | mk l => simp at c; rw [c]
    obtain rfl : (⟨#[]⟩ : ByteArray) = r := by
      cases k with
      | zero => exact absurd h (by simp [strings_trimLeftByte.f, strings_trimLeftByte.l0])
      | succ k =>
        have h2 : strings_trimLeftByte.l0 (k + 1) (⟨#[]⟩ : ByteArray) 48 = some r := h
        rw [strings_trimLeftByte.l0, if_neg (by decide)] at h2
        exact Option.some.inj h2
    clear h
    go_enter Tryd.func52, Tryd.ntmps52
    go_wp2
    go_ret
    exact ⟨rfl, by repeat (first | exact Drawn0.refl _ | apply Drawn0.step)⟩
  · have c0 : (a0.toList == ([] : List UInt8)) = false := beq_eq_false_iff_ne.mpr c
    have H := Aside0.mk h
    clear h c
    go_enter Tryd.func52, Tryd.ntmps52
    go_wp2_with (go_at_call 64; refine (strings_trimLeftByte.calls k a0 48 r _ H.out).mono ?_; rintro e w' ⟨rfl, hd⟩)
    go_ret
    exact ⟨rfl, by first | exact hd | (repeat (first | exact Drawn0.refl _ | exact hd | apply Drawn0.step))⟩
end Go.Proofs.YtgcngbmkgjphpaaDoor.PAll
end

section
namespace Go.Proofs.YtgcngbmkgjphpaaDoor.PAll
open Go.RowKit Go.Proofs.YtgcngbmkgjphpaaDoorW.PrintWords Go.Proofs.YtgcngbmkgjphpaaDoorW.PrintLast Go.Proofs.YtgcngbmkgjphpaaDoorW.PrintMore
attribute [local go_sem] max2_int min2_int max_two min_two max_three min_three max_four min_four   -- for this text's walks alone
set_option linter.unusedVariables false
set_option linter.unusedSimpArgs false
mutual
def nat_Nat_Text.l0 : Nat → List Int → List Int → Option (ByteArray)
  | 0, _, _ => none
  | k + 1, x3, x130000 => if (x130000.length : Int) > 0 then ((nat_Nat_by.f k x130000 1000000000).bind fun bt130 => (nat_Nat_Text.l1 k x3 bt130.2 0 bt130.1)) else (if 0 ≤ (x3.length : Int) then (if ((x3.length : Int) : Int).toNat ≤ 281474976710656 then (nat_Nat_Text.l2 k x3 (List.replicate ((x3.length : Int) : Int).toNat 0) x3 (x3.length : Int) 0) else (none)) else (none))
def nat_Nat_Text.l1 : Nat → List Int → Int → Int → List Int → Option (ByteArray)
  | 0, _, _, _, _ => none
  | k + 1, x3, x4, x21, x130000 => if x21 < 9 then (if x3.length < 140737488355328 then (nat_Nat_Text.l1 k (x3 ++ [(48 + ((Int.tmod x4 10) % 256)) % 256]) ((Int.tdiv x4 10) % 4294967296) (wrap64 (x21 + 1)) x130000) else (none)) else (nat_Nat_Text.l0 k x3 x130000)
def nat_Nat_Text.l2 : Nat → List Int → List Int → List Int → Int → Int → Option (ByteArray)
  | 0, _, _, _, _, _ => none
  | k + 1, x3, x5, x36, x37, x38 => if x38 < x37 then (if 0 ≤ x38 then (if x38 < (x36.length : Int) then (if 0 ≤ (wrap64 ((wrap64 ((x3.length : Int) - 1)) - x38)) then (if (wrap64 ((wrap64 ((x3.length : Int) - 1)) - x38)) < (x5.length : Int) then (nat_Nat_Text.l2 k x3 (x5.set ((wrap64 ((wrap64 ((x3.length : Int) - 1)) - x38)) : Int).toNat (rd x36 x38)) x36 x37 (wrap64 (x38 + 1))) else (none)) else (none)) else (none)) else (none)) else ((strings_TrimLeft.f k (strOfNums x5) (⟨#[48]⟩ : ByteArray)).bind fun t142 => (some t142))
end
def nat_Nat_Text.f (k : Nat) (l0_0 : List Int) : Option (ByteArray) := if (l0_0.length : Int) = 0 then (some (⟨#[48]⟩ : ByteArray)) else (nat_Nat_Text.l0 k ([] : List Int) l0_0)
set_option maxHeartbeats 8000000 in
set_option maxRecDepth 100000 in
theorem nat_Nat_Text.calls (k : Nat) (P0_0_ : Nat → Prop) (A0_0 : Option Addr) (c0_0 : Nat) (l0_0 : List Int) (r : ByteArray) (w : World) (hs0_0 : Kd.V (Kd.int .u32) 79 w w.heap.size (fun k_ => P0_0_ k_) (.slice A0_0 l0_0.length c0_0) l0_0) (h : nat_Nat_Text.f k l0_0 = some r) :
    Calls Tryd.prog 20 #[.agg #[.slice A0_0 l0_0.length c0_0]] w fun e w' => e = .returned (.string r) ∧ Below w.heap.size w w' := by
  have hu26 := Tryd.underlying26
  have HO0_0 := Aside0.mk (show Kd.V (Kd.int .u32) 79 w w.heap.size (fun k_ => (P0_0_ k_ ∨ w.heap.size ≤ k_)) (.slice A0_0 l0_0.length c0_0) l0_0 from Kd.V_mono hs0_0 (fun k_ hk => .inl hk))
  have HB := Aside0.mk (Below.refl w.heap.size w)
  have H : (if (l0_0.length : Int) = 0 then (some (⟨#[48]⟩ : ByteArray)) else (nat_Nat_Text.l0 k ([] : List Int) l0_0)) = some r := h
  clear h
  by_cases c2 : (l0_0.length : Int) = 0
  · rw [if_pos c2] at H
    have c2b0 : ((l0_0.length : Int) == 0) = true := beq_iff_eq.mpr c2
    have c2b1 : ((l0_0.length : Int) != 0) = false := bne_eq_false_iff_eq.mpr c2
    clear c2
    obtain rfl := Option.some.inj H
    go_enter Tryd.func20, Tryd.ntmps20
    go_wp2_with (first | ((with_reducible refine gate_dst (N := 1) rfl ?_); refine box_event ?hg (N := 1) ?hd (cs := #[.slice A0_0 l0_0.length c0_0]) (t := 26) ?hr ?_; (case hd => rfl); (case hg => rfl); (case hr => first | (go_simp; done) | (go_simp; rfl)); intro gb129 hg w3 hbox hb; have n0_ := Aside0.mk (Kd.V_below (Kd.V_elderB (by (with_reducible repeat (first | apply Kd.V_alloc | apply Kd.V_drewN | apply Kd.V_drew)); exact HO0_0.out) gb129 (Nat.le_of_eq hg.symm)) hb); have n1_ := Aside0.mk (below_step (by repeat (first | (with_reducible first | exact HB.out | apply below_alloc | apply pw_below_drewN | apply below_drew1) | exact HB.out)) hb); have n2_ := Aside0.mk (hbox); have n3_ := Aside0.mk ((by rw [hg]; exact (below_size (by repeat (first | (with_reducible first | exact HB.out | apply below_alloc | apply pw_below_drewN | apply below_drew1) | exact HB.out))) : w.heap.size ≤ gb129)); have n4_ := Aside0.mk ((by rw [hg]; exact (below_size (by repeat (first | (with_reducible first | exact HB.out | apply below_alloc | apply pw_below_drewN | apply below_drew1) | exact HB.out))) : w.heap.size ≤ gb129)); clear HO0_0; clear HB; have HO0_0 := n0_; have HB := n1_; have BK129 := n2_; have GW129 := n3_; have GE129 := n4_; clear n0_ n1_ n2_ n3_ n4_; clear hb hbox hg; have hcz4_0 : w3.cell? ⟨gb129, 0, none⟩ = some (.slice A0_0 l0_0.length c0_0) := (blk_cell BK129.out 0).trans rfl; have hfz4_0 := blk_frozen BK129.out 0))
    go_ret
    exact ⟨by first | rfl | (simp [errW_none, errW_some] <;> rfl) | (simp [*, errW_none, errW_some] <;> rfl), by repeat (first | (with_reducible first | exact HB.out | apply below_alloc | apply pw_below_drewN | apply below_drew1 | refine below_set ?_ GE129.out) | exact HB.out)⟩
  · rw [if_neg c2] at H
    have c2b0 : ((l0_0.length : Int) == 0) = false := beq_eq_false_iff_ne.mpr c2
    have c2b1 : ((l0_0.length : Int) != 0) = true := bne_iff_ne.mpr c2
    have c2b2 : ¬ (l0_0 = []) := fun h_ => c2 (by rw [h_]; rfl)
    have H' := Aside0.mk H
    clear H
    go_enter Tryd.func20, Tryd.ntmps20
    go_wp2_with (first | ((with_reducible refine gate_dst (N := 1) rfl ?_); refine box_event ?hg (N := 1) ?hd (cs := #[.slice A0_0 l0_0.length c0_0]) (t := 26) ?hr ?_; (case hd => rfl); (case hg => rfl); (case hr => first | (go_simp; done) | (go_simp; rfl)); intro gb129 hg w5 hbox hb; have n0_ := Aside0.mk (Kd.V_below (Kd.V_elderB (by (with_reducible repeat (first | apply Kd.V_alloc | apply Kd.V_drewN | apply Kd.V_drew)); exact HO0_0.out) gb129 (Nat.le_of_eq hg.symm)) hb); have n1_ := Aside0.mk (below_step (by repeat (first | (with_reducible first | exact HB.out | apply below_alloc | apply pw_below_drewN | apply below_drew1) | exact HB.out)) hb); have n2_ := Aside0.mk (hbox); have n3_ := Aside0.mk ((by rw [hg]; exact (below_size (by repeat (first | (with_reducible first | exact HB.out | apply below_alloc | apply pw_below_drewN | apply below_drew1) | exact HB.out))) : w.heap.size ≤ gb129)); have n4_ := Aside0.mk ((by rw [hg]; exact (below_size (by repeat (first | (with_reducible first | exact HB.out | apply below_alloc | apply pw_below_drewN | apply below_drew1) | exact HB.out))) : w.heap.size ≤ gb129)); clear HO0_0; clear HB; have HO0_0 := n0_; have HB := n1_; have BK129 := n2_; have GW129 := n3_; have GE129 := n4_; clear n0_ n1_ n2_ n3_ n4_; clear hb hbox hg; have hcz6_0 : w5.cell? ⟨gb129, 0, none⟩ = some (.slice A0_0 l0_0.length c0_0) := (blk_cell BK129.out 0).trans rfl; have hfz6_0 := blk_frozen BK129.out 0))
    go_loopg [3] k (fun kq v3 w' => ∃ (x3_1 : List Int) (x130000_1 : List Int) (u130000 : Value), Aside0 (nat_Nat_Text.l0 kq x3_1 x130000_1 = some r) ∧ Aside0 (kq ≤ k) ∧ Aside0 (Kd.R (Kd.int .u8) 5 w' w.heap.size (fun k_ => (w.heap.size ≤ k_)) v3 x3_1) ∧ Aside0 (Kd.V (Kd.int .u32) 79 w' w.heap.size (fun k_ => (P0_0_ k_ ∨ w.heap.size ≤ k_) ∧ some k_ ≠ (v3 : Value).ownBlock ∧ k_ ≠ gb129) u130000 x130000_1) ∧ Aside0 (w'.heap[gb129]? = some (.cells #[u130000] 26 (0, 0))) ∧ Aside0 (Below w.heap.size w w'))
    case atStart => exact ⟨(([] : List Int)), (l0_0), (.slice A0_0 l0_0.length c0_0), H', ⟨Nat.le_refl _⟩, ⟨by first | exact Kd.R_nil _ _ _ _ _ | exact Kd.N_nil _ _ _ _ _ | exact Kd.V_nil _ _ _ _ _ | exact Kd.Q_nil _ _ _ _ _ | exact Kd.S_nil _ _ _ _ _⟩, ⟨by (with_reducible repeat (first | apply Kd.V_alloc | apply Kd.V_drewN | apply Kd.V_drew)); exact Kd.V_mono HO0_0.out (fun _ hk => ⟨hk.1, ⟨(by simp [Value.ownBlock]), hk.2⟩⟩)⟩, ⟨by (with_reducible repeat (first | refine blk_drewN ?_ _ | refine blk_drew ?_ | refine blk_alloc ?_ _)); exact BK129.out⟩, ⟨by repeat (first | (with_reducible first | exact HB.out | apply below_alloc | apply pw_below_drewN | apply below_drew1 | refine below_set ?_ GE129.out) | exact HB.out)⟩⟩
    case round =>
      clear H'
      try clear c2
      try clear c2b0
      try clear c2b1
      try clear c2b2
      try clear p2
      try clear hcz4_0
      try clear hcz6_0
      try clear hfz4_0
      try clear hfz6_0
      obtain ⟨x3_1, x130000_1, u130000, HA, HK1, HO_3, HO_130000, BK129, HB⟩ := hrel
      cases gk with
      | zero => exact absurd HA.out (by simp [nat_Nat_Text.l0])
      | succ k1 =>
        have H := HA.out
        clear HA
        simp only [nat_Nat_Text.l0] at H
        by_cases c7 : (x130000_1.length : Int) > 0
        · rw [if_pos c7] at H
          have c7b0 : decide (0 < (x130000_1.length : Int)) = true := decide_eq_true c7
          have c7b1 : decide (0 < x130000_1.length) = true := decide_eq_true (by omega)
          clear c7
          replace H := Option.bind_eq_some_iff.mp H
          obtain ⟨⟨t130, t133⟩, A80, H⟩ := H
          replace H : (nat_Nat_Text.l1 k1 x3_1 t133 0 t130) = some r := H
          have A8 := Aside0.mk A80
          clear A80
          have H' := Aside0.mk H
          clear H
          have hcz9_0 : wr.cell? ⟨gb129, 0, none⟩ = some (u130000) := (blk_cell BK129.out 0).trans rfl
          have hfz9_0 := blk_frozen BK129.out 0
          obtain ⟨Ao10, co10, eo10⟩ := Kd.V_slice HO_130000.out
          subst eo10
          go_wp2_with (first | ((with_reducible refine gate_callee (f := 51) rfl ?_); refine goesL_ (some 18) rfl rfl Tryd.func51 (by kernel_rfl) rfl #[.agg #[.slice Ao10 x130000_1.length co10], .int .u32 1000000000] rfl (by (try simp only [List.map_toArray, List.map_cons, List.map_nil]); first | done | rfl | (simp only [List.length_drop, List.length_take]; rfl)) ?_; (with_reducible refine (nat_Nat_by.calls k1 _ _ x130000_1 1000000000 t130 t133 _ ?side1 ?side2 A8.out).mono ?_); (case side1 => repeat (first | exact (Kd.V_reads' HO_130000.out).2.2 | (with_reducible refine Kd.C_alloc ?_ _) | (with_reducible refine Kd.C_drewN ?_ _) | (with_reducible refine Kd.C_drew ?_))); (case side2 => exact (Kd.V_reads' HO_130000.out).2.1); rintro e w11 ⟨v131, rfl, ho0, hb⟩; refine ⟨_, rfl, ?_⟩; have n0_ := Aside0.mk (Kd.R_below (by (with_reducible repeat (first | apply Kd.R_alloc | apply Kd.R_drewN | apply Kd.R_drew)); exact HO_3.out) hb); have n1_ := Aside0.mk (Kd.V_below (by (with_reducible repeat (first | apply Kd.V_alloc | apply Kd.V_drewN | apply Kd.V_drew)); exact HO_130000.out) hb); have n2_ := Aside0.mk (Kd.V_lower (Kd.V_mono (ok' := fun k_ => (P0_0_ k_ ∨ w.heap.size ≤ k_) ∧ some k_ ≠ (u3 : Value).ownBlock ∧ k_ ≠ gb129) ho0 (fun k_ hk_ => ⟨(.inr (Nat.le_trans (below_size (by repeat (first | (with_reducible first | exact HB.out | apply below_alloc | apply pw_below_drewN | apply below_drew1 | refine below_set ?_ GE129.out) | exact HB.out))) hk_)), (Kd.fresh' (Kd.R_lt (by (with_reducible repeat (first | apply Kd.R_alloc | apply Kd.R_drewN | apply Kd.R_drew)); exact HO_3.out)) k_ hk_), (Kd.freshB (g := gb129) (o := .cells #[.slice Ao10 x130000_1.length co10] 26 (0, 0)) (by (with_reducible repeat (first | refine blk_drewN ?_ _ | refine blk_drew ?_ | refine blk_alloc ?_ _)); exact BK129.out) k_ hk_)⟩)) (below_size (by repeat (first | (with_reducible first | exact HB.out | apply below_alloc | apply pw_below_drewN | apply below_drew1 | refine below_set ?_ GE129.out) | exact HB.out)))); have n3_ := Aside0.mk (blk_below (g := gb129) (o := .cells #[.slice Ao10 x130000_1.length co10] 26 (0, 0)) (by (with_reducible repeat (first | refine blk_drewN ?_ _ | refine blk_drew ?_ | refine blk_alloc ?_ _)); exact BK129.out) hb); have n4_ := Aside0.mk (below_step (by repeat (first | (with_reducible first | exact HB.out | apply below_alloc | apply pw_below_drewN | apply below_drew1 | refine below_set ?_ GE129.out) | exact HB.out)) hb); clear HO_3; clear HO_130000; clear BK129; clear HB; have HO_3 := n0_; have HO_130000 := n1_; have HO132 := n2_; have BK129 := n3_; have HB := n4_; clear n0_ n1_ n2_ n3_ n4_; (try clear hb); (try clear hb2); (try clear hk); (try clear hi); (try clear ho0); obtain ⟨Ao12, co12, eo12⟩ := Kd.V_slice HO132.out; subst eo12; have hcz13_0 : w11.cell? ⟨gb129, 0, none⟩ = some (.slice Ao10 x130000_1.length co10) := (blk_cell BK129.out 0).trans rfl; have hfz13_0 := blk_frozen BK129.out 0))
          go_loopg [3, 4, 21] k1 (fun kq v3 v4 v21 w' => ∃ (x3_2 : List Int) (x4_2 : Int) (x21_2 : Int), v4 = .int .u32 x4_2 ∧ v21 = .int .i64 x21_2 ∧ Aside0 (nat_Nat_Text.l1 kq x3_2 x4_2 x21_2 t130 = some r) ∧ Aside0 (kq ≤ k1) ∧ Aside0 (Kd.R (Kd.int .u8) 5 w' w.heap.size (fun k_ => (w.heap.size ≤ k_)) v3 x3_2) ∧ Aside0 (Kd.V (Kd.int .u32) 79 w' w.heap.size (fun k_ => (P0_0_ k_ ∨ w.heap.size ≤ k_) ∧ some k_ ≠ (v3 : Value).ownBlock ∧ k_ ≠ gb129) (.slice Ao12 t130.length co12) t130) ∧ Aside0 (w'.heap[gb129]? = some (.cells #[(.slice Ao12 t130.length co12)] 26 (0, 0))) ∧ Aside0 (Below w.heap.size w w'))
          case atStart => exact ⟨(x3_1), (t133), (0), (by first | rfl | (simp; done) | (simp [*]; done) | (simp [i64_w]; done) | (simp [*, i64_w]; done)), (by first | rfl | (simp; done) | (simp [*]; done) | (simp [i64_w]; done) | (simp [*, i64_w]; done)), H', ⟨Nat.le_refl _⟩, ⟨by (with_reducible repeat (first | apply Kd.R_alloc | apply Kd.R_drewN | apply Kd.R_drew)); exact Kd.R_mono (Kd.R_far (p := ⟨gb129, 0, none⟩) (Kd.R_types HO_3.out BK129.out (by decide)) (fun _ hk => hk.2) (.slice Ao12 t130.length co12)) (fun _ hk => hk.1)⟩, ⟨by (with_reducible repeat (first | apply Kd.V_alloc | apply Kd.V_drewN | apply Kd.V_drew)); exact Kd.V_mono (Kd.V_far (p := ⟨gb129, 0, none⟩) (Kd.V_mono HO132.out (fun k_ hk => (⟨hk, hk.2.2⟩ : _ ∧ k_ ≠ gb129))) (fun _ hk => hk.2) (.slice Ao12 t130.length co12)) (fun _ hk => ⟨hk.1.1, ⟨hk.1.2.1, hk.1.2.2⟩⟩)⟩, ⟨by (with_reducible repeat (first | refine blk_drewN ?_ _ | refine blk_drew ?_ | refine blk_alloc ?_ _)); refine blk_put (cs := #[.slice Ao10 x130000_1.length co10]) ?_ 0 _ rfl; (with_reducible repeat (first | refine blk_drewN ?_ _ | refine blk_drew ?_ | refine blk_alloc ?_ _)); exact BK129.out⟩, ⟨by repeat (first | (with_reducible first | exact HB.out | apply below_alloc | apply pw_below_drewN | apply below_drew1 | refine below_set ?_ GE129.out) | exact HB.out)⟩⟩
          case round =>
            clear H'
            try clear c2
            try clear c2b0
            try clear c2b1
            try clear c2b2
            try clear p2
            try clear c5
            try clear c7
            try clear c7b0
            try clear c7b1
            try clear hcz13_0
            try clear hcz4_0
            try clear hcz6_0
            try clear hcz9_0
            try clear hfz13_0
            try clear hfz4_0
            try clear hfz6_0
            try clear hfz9_0
            try clear p2
            obtain ⟨x3_2, x4_2, x21_2, rfl, rfl, HA, HK2, HO_3, HO_130000, BK129, HB⟩ := hrel
            cases gk with
            | zero => exact absurd HA.out (by simp [nat_Nat_Text.l1])
            | succ k2 =>
              have H := HA.out
              clear HA
              simp only [nat_Nat_Text.l1] at H
              by_cases c14 : x21_2 < 9
              · rw [if_pos c14] at H
                have c14b0 : decide (x21_2 < 9) = true := decide_eq_true c14
                clear c14
                by_cases c15 : x3_2.length < 140737488355328
                · rw [if_pos c15] at H
                  have LMc15 := Aside0.mk c15
                  clear c15
                  obtain ⟨y134, hy134⟩ : ∃ y_ : List Int, y_ = (x3_2 ++ [(48 + ((Int.tmod x4_2 10) % 256)) % 256]) := ⟨_, rfl⟩
                  replace H : (nat_Nat_Text.l1 k2 y134 ((Int.tdiv x4_2 10) % 4294967296) (wrap64 (x21_2 + 1)) t130) = some r := by first | (rw [hy134]; with_reducible exact H) | (have H2_ := (Option.bind_some _ _).symm.trans H; rw [hy134]; with_reducible exact H2_) | (have H2_ := (Option.bind_some _ _).symm.trans H; with_reducible exact H2_) | with_reducible exact H | (rw [hy134]; exact H) | exact H
                  have Ny134 := Aside0.mk hy134
                  clear hy134
                  have H' := Aside0.mk H
                  clear H
                  go_wp2_with (first | ((with_reducible refine gate_builtin (b := .append) (xs := #[.tmp 23, .tmp 28]) rfl ?_); at_builtin; refine Kd.R_append (Kd.int .u8) (w0 := w) w.heap.size rfl (.tmp 23) (.tmp 28) 77 5 (.int .u8 0) 1 rfl Tryd.underlying77 info5 rfl (by decide) (by omega) u3 x3_2 ((48 + (Int.tmod x4_2 10)) % 256) [.int .u8 ((48 + (Int.tmod x4_2 10)) % 256)] (fun k_ => (w.heap.size ≤ k_)) (fun _ => False) rfl rfl ?aP (fun _ hk => hk.elim) ?aF ?aO ?aB ?aS ?aL ?_; (case aP => exact rfl); (case aB => exact (by repeat (first | (with_reducible first | exact HB.out | apply below_alloc | apply pw_below_drewN | apply below_drew1 | refine below_set ?_ GE129.out) | exact HB.out))); (case aF => exact (fun k_ hk => (Nat.le_trans (below_size (by repeat (first | (with_reducible first | exact HB.out | apply below_alloc | apply pw_below_drewN | apply below_drew1 | refine below_set ?_ GE129.out) | exact HB.out))) hk))); (case aO => exact (by (with_reducible repeat (first | apply Kd.R_alloc | apply Kd.R_drewN | apply Kd.R_drew)); exact HO_3.out)); (case aS => exact (below_size (by repeat (first | (with_reducible first | exact HB.out | apply below_alloc | apply pw_below_drewN | apply below_drew1 | refine below_set ?_ GE129.out) | exact HB.out)))); (case aL => have := LMc15.out; omega); intro v135 w16 ho hb hg hat; rw [show (48 + Int.tmod x4_2 10) % 256 = (48 + ((Int.tmod x4_2 10) % 256)) % 256 from by omega, ← Ny134.out] at ho; have n0_ := Aside0.mk (Kd.V_afterv (ok := (fun k_ => (P0_0_ k_ ∨ w.heap.size ≤ k_) ∧ k_ ≠ gb129)) (by (with_reducible repeat (first | apply Kd.V_alloc | apply Kd.V_drewN | apply Kd.V_drew)); exact Kd.V_mono HO_130000.out (fun _ hk => ⟨⟨hk.1, hk.2.2⟩, hk.2.1⟩)) hg hat); have n1_ := Aside0.mk (blk_grown (g := gb129) (o := .cells #[.slice Ao12 t130.length co12] 26 (0, 0)) (by (with_reducible repeat (first | refine blk_drewN ?_ _ | refine blk_drew ?_ | refine blk_alloc ?_ _)); exact BK129.out) hg (Kd.R_ne HO_3.out BK129.out (by decide))); have n2_ := Aside0.mk (hb); have n3_ := Aside0.mk (ho); clear HO_130000; clear BK129; clear HB; clear HO_3; have HO_130000 := n0_; have BK129 := n1_; have HB := n2_; have HO136 := n3_; clear n0_ n1_ n2_ n3_; clear ho hb hg hat))
                  go_roundg k2
                  case measure => have := HK1.out; have := HK2.out; omega
                  case rel => exact ⟨(y134), ((Int.tdiv x4_2 10) % 4294967296), (wrap64 (x21_2 + 1)), (by first | rfl | (simp; done) | (simp [*]; done) | (simp [i64_w]; done) | (simp [*, i64_w]; done)), (by first | rfl | (simp; done) | (simp [*]; done) | (simp [i64_w]; done) | (simp [*, i64_w]; done)), H', ⟨by have := HK1.out; have := HK2.out; omega⟩, ⟨by (with_reducible repeat (first | apply Kd.R_alloc | apply Kd.R_drewN | apply Kd.R_drew)); exact HO136.out⟩, ⟨by (with_reducible repeat (first | apply Kd.V_alloc | apply Kd.V_drewN | apply Kd.V_drew)); exact Kd.V_mono HO_130000.out (fun _ hk => ⟨hk.1.1, ⟨hk.2, hk.1.2⟩⟩)⟩, ⟨by (with_reducible repeat (first | refine blk_drewN ?_ _ | refine blk_drew ?_ | refine blk_alloc ?_ _)); exact BK129.out⟩, ⟨by repeat (first | (with_reducible first | exact HB.out | apply below_alloc | apply pw_below_drewN | apply below_drew1 | refine below_set ?_ GE129.out) | exact HB.out)⟩⟩
                · rw [if_neg c15] at H
                  exact absurd H (by simp)
              · rw [if_neg c14] at H
                have c14b0 : decide (x21_2 < 9) = false := decide_eq_false c14
                clear c14
                have H' := Aside0.mk H
                clear H
                go_wp2
                go_roundg k2
                case measure => have := HK1.out; have := HK2.out; omega
                case rel => exact ⟨(x3_2), (t130), (.slice Ao12 t130.length co12), H', ⟨by have := HK1.out; have := HK2.out; omega⟩, ⟨by (with_reducible repeat (first | apply Kd.R_alloc | apply Kd.R_drewN | apply Kd.R_drew)); exact HO_3.out⟩, ⟨by (with_reducible repeat (first | apply Kd.V_alloc | apply Kd.V_drewN | apply Kd.V_drew)); exact HO_130000.out⟩, ⟨by (with_reducible repeat (first | refine blk_drewN ?_ _ | refine blk_drew ?_ | refine blk_alloc ?_ _)); exact BK129.out⟩, ⟨by repeat (first | (with_reducible first | exact HB.out | apply below_alloc | apply pw_below_drewN | apply below_drew1 | refine below_set ?_ GE129.out) | exact HB.out)⟩⟩
        · rw [if_neg c7] at H
          have c7b0 : decide (0 < (x130000_1.length : Int)) = false := decide_eq_false c7
          have c7b1 : decide (0 < x130000_1.length) = false := decide_eq_false (by omega)
          clear c7
          by_cases c17 : 0 ≤ (x3_1.length : Int)
          · rw [if_pos c17] at H
            have c17b0 := eq_true c17
            have c17b1 : decide (0 ≤ (x3_1.length : Int)) = true := decide_eq_true c17
            clear c17
            by_cases c18 : ((x3_1.length : Int) : Int).toNat ≤ 281474976710656
            · rw [if_pos c18] at H
              have c18b0 := eq_true c18
              have c18b1 : decide (((x3_1.length : Int) : Int).toNat ≤ 281474976710656) = true := decide_eq_true c18
              clear c18
              obtain ⟨y137, hy137⟩ : ∃ y_ : List Int, y_ = (List.replicate ((x3_1.length : Int) : Int).toNat 0) := ⟨_, rfl⟩
              replace H : (nat_Nat_Text.l2 k1 x3_1 y137 x3_1 (x3_1.length : Int) 0) = some r := by first | (rw [hy137]; with_reducible exact H) | (have H2_ := (Option.bind_some _ _).symm.trans H; rw [hy137]; with_reducible exact H2_) | (have H2_ := (Option.bind_some _ _).symm.trans H; with_reducible exact H2_) | with_reducible exact H | (rw [hy137]; exact H) | exact H
              have Ny137 := Aside0.mk hy137
              clear hy137
              have H' := Aside0.mk H
              clear H
              have hcz19_0 : wr.cell? ⟨gb129, 0, none⟩ = some (u130000) := (blk_cell BK129.out 0).trans rfl
              have hfz19_0 := blk_frozen BK129.out 0
              obtain ⟨Ao20, co20, eo20⟩ := Kd.V_slice HO_130000.out
              subst eo20
              obtain ⟨Ao21, co21, eo21⟩ := Kd.R_slice HO_3.out
              subst eo21
              go_wp2_with (first | ((with_reducible refine gate_dst (N := 35) rfl ?_); refine Kd.R_make (Kd.int .u8) _ 5 rfl (N := 35) rfl 77 _ _ rfl (x3_1.length : Int) rfl rfl Tryd.underlying77 (.int .u8 0) 1 info5 rfl (by decide) (by omega) 0 (ok := fun _ => True) (okp := fun _ => True) rfl (fun _ hk => hk) trivial (of_decide_eq_true (by first | (with_reducible assumption) | assumption)) (Nat.le_trans (Nat.mul_le_mul_right _ (of_decide_eq_true (by first | (with_reducible assumption) | assumption) : (x3_1.length : Int).toNat ≤ 281474976710656)) (by omega)) (Below.refl _ _) (Nat.le_refl _) ?_; intro v138 w22 ho23 hb hg_ hnew_; clear hg_ hnew_; (first | rw [← Ny137.out] at ho23 | (simp only [Int.reduceToNat] at ho23; rw [← Ny137.out] at ho23)); have n0_ := Aside0.mk (Kd.R_elder' (by (with_reducible repeat (first | apply Kd.R_alloc | apply Kd.R_drewN | apply Kd.R_drew)); exact HO_3.out) (Kd.R_base ho23) hb); have n1_ := Aside0.mk (Kd.V_elder' (by (with_reducible repeat (first | apply Kd.V_alloc | apply Kd.V_drewN | apply Kd.V_drew)); exact HO_130000.out) (Kd.R_base ho23) hb); have n2_ := Aside0.mk (Kd.R_lower (Kd.R_new' (Kd.R_newM (M := fun k_ => (w.heap.size ≤ k_)) ho23 (below_size (by repeat (first | (with_reducible first | exact HB.out | apply below_alloc | apply pw_below_drewN | apply below_drew1 | refine below_set ?_ GE129.out) | exact HB.out))) (fun k_ h_ => h_)) (Kd.R_lt (by (with_reducible repeat (first | apply Kd.R_alloc | apply Kd.R_drewN | apply Kd.R_drew)); exact HO_3.out))) (below_size (by repeat (first | (with_reducible first | exact HB.out | apply below_alloc | apply pw_below_drewN | apply below_drew1 | refine below_set ?_ GE129.out) | exact HB.out)))); have n3_ := Aside0.mk (blk_below (g := gb129) (o := .cells #[.slice Ao20 x130000_1.length co20] 26 (0, 0)) (by (with_reducible repeat (first | refine blk_drewN ?_ _ | refine blk_drew ?_ | refine blk_alloc ?_ _)); exact BK129.out) hb); have n4_ := Aside0.mk (below_step (by repeat (first | (with_reducible first | exact HB.out | apply below_alloc | apply pw_below_drewN | apply below_drew1 | refine below_set ?_ GE129.out) | exact HB.out)) hb); clear HO_3; clear HO_130000; clear BK129; clear HB; have HO_3 := n0_; have HO_130000 := n1_; have HO139 := n2_; have BK129 := n3_; have HB := n4_; clear n0_ n1_ n2_ n3_ n4_; clear hb ho23))
              go_loopg [38] k1 (fun kq v38 w' => ∃ (x5_2 : List Int) (x38_2 : Int), v38 = .int .i64 x38_2 ∧ Aside0 (nat_Nat_Text.l2 kq x3_1 x5_2 x3_1 (x3_1.length : Int) x38_2 = some r) ∧ Aside0 (kq ≤ k1) ∧ Aside0 (Kd.R (Kd.int .u8) 5 w' w.heap.size (fun k_ => (w.heap.size ≤ k_) ∧ some k_ ≠ (v138 : Value).ownBlock) (.slice Ao21 x3_1.length co21) x3_1) ∧ Aside0 (Kd.R (Kd.int .u8) 5 w' w.heap.size (fun k_ => (w.heap.size ≤ k_) ∧ some k_ ≠ ((.slice Ao21 x3_1.length co21) : Value).ownBlock ∧ some k_ ≠ ((.slice Ao21 x3_1.length co21) : Value).ownBlock) v138 x5_2) ∧ Aside0 (Kd.R (Kd.int .u8) 5 w' w.heap.size (fun k_ => (w.heap.size ≤ k_) ∧ some k_ ≠ (v138 : Value).ownBlock) (.slice Ao21 x3_1.length co21) x3_1) ∧ Aside0 (Kd.V (Kd.int .u32) 79 w' w.heap.size (fun k_ => (P0_0_ k_ ∨ w.heap.size ≤ k_) ∧ some k_ ≠ ((.slice Ao21 x3_1.length co21) : Value).ownBlock ∧ some k_ ≠ (v138 : Value).ownBlock ∧ some k_ ≠ ((.slice Ao21 x3_1.length co21) : Value).ownBlock ∧ k_ ≠ gb129) (.slice Ao20 x130000_1.length co20) x130000_1) ∧ Aside0 (w'.heap[gb129]? = some (.cells #[(.slice Ao20 x130000_1.length co20)] 26 (0, 0))) ∧ Aside0 (Below w.heap.size w w'))
              case atStart => exact ⟨(y137), (0), (by first | rfl | (simp; done) | (simp [*]; done) | (simp [i64_w]; done) | (simp [*, i64_w]; done)), H', ⟨Nat.le_refl _⟩, ⟨by (with_reducible repeat (first | apply Kd.R_alloc | apply Kd.R_drewN | apply Kd.R_drew)); exact HO_3.out⟩, ⟨by (with_reducible repeat (first | apply Kd.R_alloc | apply Kd.R_drewN | apply Kd.R_drew)); exact Kd.R_mono HO139.out (fun _ hk => ⟨hk.1.1, ⟨hk.2, hk.2⟩⟩)⟩, ⟨by (with_reducible repeat (first | apply Kd.R_alloc | apply Kd.R_drewN | apply Kd.R_drew)); exact HO_3.out⟩, ⟨by (with_reducible repeat (first | apply Kd.V_alloc | apply Kd.V_drewN | apply Kd.V_drew)); exact Kd.V_mono HO_130000.out (fun _ hk => ⟨hk.1.1, ⟨hk.1.2.1, ⟨hk.2, ⟨hk.1.2.1, hk.1.2.2⟩⟩⟩⟩)⟩, ⟨by (with_reducible repeat (first | refine blk_drewN ?_ _ | refine blk_drew ?_ | refine blk_alloc ?_ _)); exact BK129.out⟩, ⟨by repeat (first | (with_reducible first | exact HB.out | apply below_alloc | apply pw_below_drewN | apply below_drew1 | refine below_set ?_ GE129.out) | exact HB.out)⟩⟩
              case round =>
                clear H'
                try clear c1
                try clear c2
                try clear c2b0
                try clear c2b1
                try clear c2b2
                try clear p2
                try clear c5
                try clear p6
                try clear c7
                try clear c7b0
                try clear c7b1
                try clear c14
                try clear c14b0
                try clear c15
                try clear c17
                try clear c17b0
                try clear c17b1
                try clear c18
                try clear c18b0
                try clear c18b1
                try clear c20
                try clear hcz13_0
                try clear hcz19_0
                try clear hcz4_0
                try clear hcz6_0
                try clear hcz9_0
                try clear hfz13_0
                try clear hfz19_0
                try clear hfz4_0
                try clear hfz6_0
                try clear hfz9_0
                try clear p2
                obtain ⟨x5_2, x38_2, rfl, HA, HK2, HO_3, HO_5, HO_36, HO_130000, BK129, HB⟩ := hrel
                cases gk with
                | zero => exact absurd HA.out (by simp [nat_Nat_Text.l2])
                | succ k2 =>
                  have H := HA.out
                  clear HA
                  simp only [nat_Nat_Text.l2] at H
                  by_cases c24 : x38_2 < (x3_1.length : Int)
                  · rw [if_pos c24] at H
                    have c24b0 : decide (x38_2 < (x3_1.length : Int)) = true := decide_eq_true c24
                    clear c24
                    by_cases c25 : 0 ≤ x38_2
                    · rw [if_pos c25] at H
                      have c25b0 : decide (0 ≤ x38_2) = true := decide_eq_true c25
                      clear c25
                      by_cases c26 : x38_2 < (x3_1.length : Int)
                      · rw [if_pos c26] at H
                        have c26b0 : decide (x38_2 < (x3_1.length : Int)) = true := decide_eq_true c26
                        clear c26
                        obtain ⟨ji27, hji27⟩ : ∃ j_ : Int, (wrap64 ((wrap64 ((x3_1.length : Int) - 1)) - x38_2)) = j_ := ⟨_, rfl⟩
                        replace H : (if 0 ≤ (ji27) then (if (ji27) < (x5_2.length : Int) then (nat_Nat_Text.l2 k2 x3_1 (x5_2.set ((ji27) : Int).toNat (rd x3_1 x38_2)) x3_1 (x3_1.length : Int) (wrap64 (x38_2 + 1))) else (none)) else (none)) = some r := by first | (rw [hji27] at H; exact H) | (simp only [hji27] at H ⊢; exact H)
                        have hji27w : (IntKind.i64.wrap ((wrap64 ((x3_1.length : Int) - 1)) - x38_2)) = ji27 := (i64_w _).trans hji27
                        by_cases c28 : 0 ≤ (ji27)
                        · rw [if_pos c28] at H
                          have c28b0 : decide (0 ≤ (ji27)) = true := decide_eq_true c28
                          clear c28
                          by_cases c29 : (ji27) < (x5_2.length : Int)
                          · rw [if_pos c29] at H
                            have c29b0 : decide ((ji27) < (x5_2.length : Int)) = true := decide_eq_true c29
                            clear c29
                            obtain ⟨y141, hy141⟩ : ∃ y_ : List Int, y_ = (x5_2.set ((ji27) : Int).toNat (rd x3_1 x38_2)) := ⟨_, rfl⟩
                            replace H : (nat_Nat_Text.l2 k2 x3_1 y141 x3_1 (x3_1.length : Int) (wrap64 (x38_2 + 1))) = some r := by first | (rw [hy141]; with_reducible exact H) | (have H2_ := (Option.bind_some _ _).symm.trans H; rw [hy141]; with_reducible exact H2_) | (have H2_ := (Option.bind_some _ _).symm.trans H; with_reducible exact H2_) | with_reducible exact H | (rw [hy141]; exact H) | exact H
                            have Ny141 := Aside0.mk hy141
                            clear hy141
                            have H' := Aside0.mk H
                            clear H
                            have p140 : 0 ≤ (x38_2 : Int) := of_decide_eq_true (by first | (with_reducible assumption) | assumption)
                            have q140 : x38_2 < (x3_1.length : Int) := of_decide_eq_true (by first | (with_reducible assumption) | assumption)
                            obtain ⟨ad140, e140, hx140_0⟩ := Kd.at_int (Kd.R_reads' HO_36.out).2.2 x38_2 p140 q140
                            cases e140
                            replace p140 := eq_true p140
                            replace q140 := eq_true q140
                            have p30 : 0 ≤ ((ji27) : Int) := of_decide_eq_true (by first | (with_reducible assumption) | assumption)
                            have q30 : ((ji27) : Int) < ((x5_2.length : Int) : Int) := of_decide_eq_true (by first | (with_reducible assumption) | assumption)
                            obtain ⟨go30, co30, eo30, gb30, gl30, cl30, HG30⟩ := Kd.R_form HO_5.out (by omega)
                            (first | cases eo30 | (injection eo30 with ea_ en_ ec_; (first | subst ea_ | (injection ea_ with ea_; subst ea_)); subst ec_; clear en_))
                            have GB30 := Aside0.mk gb30
                            have GG30 := Aside0.mk HG30
                            clear gb30 gl30 HG30
                            obtain ⟨hx30_0, hf30_0⟩ := Kd.R_celln 0 HO_5.out ((ji27) : Int) p30 q30
                            replace p30 := eq_true p30
                            replace q30 := eq_true q30
                            have HP31 := Kd.R_putg HO_5.out ((ji27) : Int) (rd x3_1 x38_2)
                            go_wp2_with (first | ((with_reducible refine gate_store (t := 5) (p := 50) rfl ?_); refine store_event (t := 5) (p := 50) (v := ?vo_w32) (w1 := (wr.setCell ⟨go30, ((ji27) : Int).toNat, none⟩ (.int .u8 (rd x3_1 x38_2)))) ?hg ?ho ?hn ?hr ?_; (case ho => rfl); (case hg => rfl); (case hn => rfl); (case hr => first | (go_simp; done) | (go_simp; rfl)); intro w32 hw; have hg : wr.grownBy w32 (some go30) := (by rw [hw]; exact HP31.2); have hp_ : Kd.R (Kd.int .u8) 5 w32 w.heap.size (fun k_ => (w.heap.size ≤ k_) ∧ some k_ ≠ (.slice (some ad140) x3_1.length co21 : Value).ownBlock ∧ some k_ ≠ (.slice (some ad140) x3_1.length co21 : Value).ownBlock) (.slice (some ⟨go30, 0, none⟩) x5_2.length co30) y141 := (by rw [hw, Ny141.out]; exact HP31.1); clear HP31; have n0_ := Aside0.mk (Kd.R_after (v := (.slice (some ⟨go30, 0, none⟩) x5_2.length co30)) (v1 := (.slice (some ⟨go30, 0, none⟩) x5_2.length co30)) (ok := (fun k_ => (w.heap.size ≤ k_))) (by (with_reducible repeat (first | apply Kd.R_alloc | apply Kd.R_drewN | apply Kd.R_drew)); exact HO_3.out) hg (.inl rfl)); have n1_ := Aside0.mk (hp_); have n2_ := Aside0.mk (Kd.R_after (v := (.slice (some ⟨go30, 0, none⟩) x5_2.length co30)) (v1 := (.slice (some ⟨go30, 0, none⟩) x5_2.length co30)) (ok := (fun k_ => (w.heap.size ≤ k_))) (by (with_reducible repeat (first | apply Kd.R_alloc | apply Kd.R_drewN | apply Kd.R_drew)); exact HO_36.out) hg (.inl rfl)); have n3_ := Aside0.mk (Kd.V_afterv (v := (.slice (some ⟨go30, 0, none⟩) x5_2.length co30)) (v1 := (.slice (some ⟨go30, 0, none⟩) x5_2.length co30)) (ok := (fun k_ => (P0_0_ k_ ∨ w.heap.size ≤ k_) ∧ some k_ ≠ (.slice (some ad140) x3_1.length co21 : Value).ownBlock ∧ some k_ ≠ (.slice (some ad140) x3_1.length co21 : Value).ownBlock ∧ k_ ≠ gb129)) (by (with_reducible repeat (first | apply Kd.V_alloc | apply Kd.V_drewN | apply Kd.V_drew)); exact Kd.V_mono HO_130000.out (fun _ hk => ⟨⟨hk.1, ⟨hk.2.1, ⟨hk.2.2.2.1, hk.2.2.2.2⟩⟩⟩, hk.2.2.1⟩)) hg (.inl rfl)); have n4_ := Aside0.mk (blk_grown (g := gb129) (o := .cells #[.slice Ao20 x130000_1.length co20] 26 (0, 0)) (by (with_reducible repeat (first | refine blk_drewN ?_ _ | refine blk_drew ?_ | refine blk_alloc ?_ _)); exact BK129.out) hg (Kd.R_ne HO_5.out BK129.out (by decide))); have n5_ := Aside0.mk ((by rw [hw]; exact below_set (HB.out) GB30.out : Below w.heap.size w w32)); clear HO_3; clear HO_5; clear HO_36; clear HO_130000; clear BK129; clear HB; have HO_3 := n0_; have HO_5 := n1_; have HO_36 := n2_; have HO_130000 := n3_; have BK129 := n4_; have HB := n5_; clear n0_ n1_ n2_ n3_ n4_ n5_; clear hg hw hp_))
                            go_roundg k2
                            case measure => have := HK1.out; have := HK2.out; omega
                            case rel => exact ⟨(y141), (wrap64 (x38_2 + 1)), (by first | rfl | (simp; done) | (simp [*]; done) | (simp [i64_w]; done) | (simp [*, i64_w]; done)), H', ⟨by have := HK1.out; have := HK2.out; omega⟩, ⟨by (with_reducible repeat (first | apply Kd.R_alloc | apply Kd.R_drewN | apply Kd.R_drew)); exact HO_3.out⟩, ⟨by (with_reducible repeat (first | apply Kd.R_alloc | apply Kd.R_drewN | apply Kd.R_drew)); exact HO_5.out⟩, ⟨by (with_reducible repeat (first | apply Kd.R_alloc | apply Kd.R_drewN | apply Kd.R_drew)); exact HO_36.out⟩, ⟨by (with_reducible repeat (first | apply Kd.V_alloc | apply Kd.V_drewN | apply Kd.V_drew)); exact Kd.V_mono HO_130000.out (fun _ hk => ⟨hk.1.1, ⟨hk.1.2.1, ⟨hk.2, ⟨hk.1.2.2.1, hk.1.2.2.2⟩⟩⟩⟩)⟩, ⟨by (with_reducible repeat (first | refine blk_drewN ?_ _ | refine blk_drew ?_ | refine blk_alloc ?_ _)); exact BK129.out⟩, ⟨by repeat (first | (with_reducible first | exact HB.out | apply below_alloc | apply pw_below_drewN | apply below_drew1 | refine below_set ?_ GE129.out) | exact HB.out)⟩⟩
                          · rw [if_neg c29] at H
                            exact absurd H (by simp)
                        · rw [if_neg c28] at H
                          exact absurd H (by simp)
                      · rw [if_neg c26] at H
                        exact absurd H (by simp)
                    · rw [if_neg c25] at H
                      exact absurd H (by simp)
                  · rw [if_neg c24] at H
                    have c24b0 : decide (x38_2 < (x3_1.length : Int)) = false := decide_eq_false c24
                    clear c24
                    replace H := Option.bind_eq_some_iff.mp H
                    obtain ⟨t142, A330, H⟩ := H
                    replace H : (some t142) = some r := H
                    have A33 := Aside0.mk A330
                    clear A330
                    obtain rfl := Option.some.inj H
                    have hcv34 := own_string (P := Tryd.prog) Tryd.underlying77 Tryd.underlying5 Tryd.underlying9 (Kd.own_of_R HO_5.out)
                    go_wp2_with (first | ((with_reducible refine gate_callee (f := 52) rfl ?_); refine goesL_ (some 54) rfl rfl Tryd.func52 (by kernel_rfl) rfl #[.string (strOfNums x5_2), .string (⟨#[48]⟩ : ByteArray)] rfl (by (try simp only [List.map_toArray, List.map_cons, List.map_nil]); first | done | rfl | (simp only [List.length_drop, List.length_take]; rfl)) ?_; (with_reducible refine (strings_TrimLeft.calls k2 (strOfNums x5_2) (⟨#[48]⟩ : ByteArray) t142 _ A33.out).mono ?_); rintro e w' ⟨rfl, ⟨nd, rfl⟩⟩; refine ⟨_, rfl, ?_⟩))
                    go_ret
                    exact ⟨by first | rfl | (simp [errW_none, errW_some] <;> rfl) | (simp [*, errW_none, errW_some] <;> rfl), by repeat (first | (with_reducible first | exact HB.out | apply below_alloc | apply pw_below_drewN | apply below_drew1 | refine below_set ?_ GE129.out) | exact HB.out)⟩
            · rw [if_neg c18] at H
              exact absurd H (by simp)
          · rw [if_neg c17] at H
            exact absurd H (by simp)
end Go.Proofs.YtgcngbmkgjphpaaDoor.PAll
end

section
namespace Go.Proofs.YtgcngbmkgjphpaaDoor.Nums
open Go.RowKit Go.Proofs.YtgcngbmkgjphpaaDoor.PAll Go.Proofs.YtgcngbmkgjphpaaDoorW.PrintWords Go.Proofs.YtgcngbmkgjphpaaDoorW.PrintLast Go.Proofs.YtgcngbmkgjphpaaDoorW.PrintMore
set_option linter.unusedVariables false
set_option linter.unusedSimpArgs false
/-- The text of a row of decimal digits, the lowest first. -/
def dd (l : List Int) : ByteArray := strOfNums ((l.map fun d => 48 + d).reverse)
/-- A number's text. -/
def dec (n : Nat) : ByteArray := if n = 0 then ⟨#[48]⟩ else dd (dgs 10 n)
/-- Digits in chunks of nine. -/
def cd (n : Nat) : List Int := if h : n = 0 then [] else dn 10 9 n ++ cd (n / 1000000000)
termination_by n
decreasing_by exact Nat.div_lt_self (by omega) (by omega)
theorem cd_zero : cd 0 = [] := by rw [cd]; simp
theorem cd_pos {n : Nat} (h : n ≠ 0) : cd n = dn 10 9 n ++ cd (n / 1000000000) := by rw [cd]; simp [h]
theorem cd_eq : ∀ n : Nat, ∃ z, z ≤ 9 ∧ cd n = dgs 10 n ++ List.replicate z 0 := by
  intro n
  induction n using Nat.strongRecOn with
  | ind n ih =>
    by_cases h : n = 0
    · subst h; exact ⟨0, by omega, by simp [cd_zero, dgs_zero]⟩
    · rw [cd_pos h]
      by_cases g : n / 1000000000 = 0
      · refine ⟨9 - (dgs 10 n).length, by omega, ?_⟩
        rw [g, cd_zero, List.append_nil]
        exact dn_eq (by omega) 9 n (by rw [show (10 : Nat) ^ 9 = 1000000000 from rfl]; omega)
      · obtain ⟨z, hz, e⟩ := ih (n / 1000000000) (by omega)
        refine ⟨z, hz, ?_⟩
        have := dgs_split (b := 10) (by omega) 9 n (by rw [show (10 : Nat) ^ 9 = 1000000000 from rfl]; exact g)
        rw [show (10 : Nat) ^ 9 = 1000000000 from rfl] at this
        rw [this, e, List.append_assoc]
theorem dec_len {n : Nat} : (dgs 10 n).length ≤ 10 * (dgs 4294967296 n).length := by
  rw [dgs_len_le (by omega), Nat.pow_mul]
  exact Nat.lt_of_lt_of_le (lt_pow_len (b := 4294967296) (by omega)) (Nat.pow_le_pow_left (by omega) _)
theorem rdec_len {n : Nat} : (dgs 10 n).length ≤ 5 * (dgs 65536 n).length := by
  rw [dgs_len_le (by omega), Nat.pow_mul]
  exact Nat.lt_of_lt_of_le (lt_pow_len (b := 65536) (by omega)) (Nat.pow_le_pow_left (by omega) _)
theorem text_l1 (q : List Int) (R : ByteArray) : ∀ (m j r : Nat) (back : List Int), m = 9 - j → j ≤ 9 → r < 4294967296 → back.length + m ≤ 100000000000000 →
    Ev (fun k => nat_Nat_Text.l0 k (back ++ (dn 10 m r).map fun d => 48 + d) q) R → Ev (fun k => nat_Nat_Text.l1 k back (r : Int) (j : Int) q) R := by
  intro m
  induction m with
  | zero =>
    intro j r back hm hj hr hb hR
    obtain rfl : j = 9 := by omega
    refine Ev.step (fun k => ?_) hR
    rw [nat_Nat_Text.l1, if_neg (by omega)]
    simp [dn]
  | succ m ih =>
    intro j r back hm hj hr hb hR
    have h := ih (j + 1) (r / 10) (back ++ [48 + ((r % 10 : Nat) : Int)]) (by omega) (by omega) (by omega) (by rw [List.length_append, List.length_singleton]; omega) (by
      rw [List.append_assoc]
      exact hR)
    refine Ev.step (fun k => ?_) h
    rw [nat_Nat_Text.l1, if_pos (by omega), if_pos (by omega), show (10 : Int) = ((10 : Nat) : Int) from rfl, ← Int.ofNat_tmod, ← Int.ofNat_tdiv, wrap_in (by omega) (by omega)]
    rw [show (48 + ((r % 10 : Nat) : Int) % 256) % 256 = 48 + ((r % 10 : Nat) : Int) by omega, show ((r / 10 : Nat) : Int) % 4294967296 = ((r / 10 : Nat) : Int) by omega]
    rfl
theorem text_l0 (R : ByteArray) : ∀ (n : Nat) (back : List Int), (dgs 4294967296 n).length ≤ 1000000000000 → back.length + (cd n).length ≤ 10000000000000 →
    Ev (fun k => nat_Nat_Text.l0 k (back ++ (cd n).map fun d => 48 + d) []) R → Ev (fun k => nat_Nat_Text.l0 k back (dgs 4294967296 n)) R := by
  intro n
  induction n using Nat.strongRecOn with
  | ind n ih =>
    intro back hl hb hR
    by_cases h : n = 0
    · subst h
      rw [cd_zero, List.map_nil, List.append_nil] at hR
      rw [dgs_zero]; exact hR
    · have hp := dgs_len_pos (b := 4294967296) (n := n) (by omega) h
      have hle : (dgs 4294967296 (n / 1000000000)).length ≤ (dgs 4294967296 n).length := (dgs_len_le (by omega)).mpr (Nat.lt_of_le_of_lt (Nat.div_le_self _ _) (lt_pow_len (by omega)))
      rw [cd_pos h] at hb hR
      rw [List.length_append, dn_length] at hb
      have h1 := ih (n / 1000000000) (by omega) (back ++ (dn 10 9 n).map fun d => 48 + d) (by omega) (by rw [List.length_append, List.length_map, dn_length]; omega) (by
        rw [List.append_assoc, ← List.map_append]; exact hR)
      have hm := dn_mod (b := 10) (by omega) 9 n
      rw [show (10 : Nat) ^ 9 = 1000000000 from rfl] at hm
      rw [← hm] at h1
      have h2 := text_l1 (dgs 4294967296 (n / 1000000000)) R 9 0 (n % 1000000000) back (by omega) (by omega) (by omega) (by omega) h1
      have h3 := (by_ev (n := n) (d := 1000000000) (by omega) (by omega) (by omega)).bind (f := fun k bt130 => nat_Nat_Text.l1 k back bt130.2 0 bt130.1) h2
      refine Ev.step (fun k => ?_) h3
      rw [nat_Nat_Text.l0, if_pos (by omega)]
      rfl
theorem set_rep (m : Nat) (v : Int) (T : List Int) : (List.replicate (m + 1) (0 : Int) ++ T).set m v = List.replicate m 0 ++ v :: T := by
  induction m with
  | zero => rfl
  | succ m ih => rw [List.replicate_succ, List.cons_append, List.set_cons_succ, ih, List.replicate_succ, List.cons_append]
theorem text_l2 (back : List Int) (R : ByteArray) (hb : back.length ≤ 281474976710656) (hR : Ev (fun k => strings_TrimLeft.f k (strOfNums back.reverse) (⟨#[48]⟩ : ByteArray)) R) : ∀ (m i : Nat), m + i = back.length →
    Ev (fun k => nat_Nat_Text.l2 k back (List.replicate m 0 ++ (back.take i).reverse) back (back.length : Int) (i : Int)) R := by
  intro m
  induction m with
  | zero =>
    intro i hi
    obtain rfl : i = back.length := by omega
    have := hR.bind (f := fun _ t => some t) (Ev.now _)
    refine Ev.step (fun k => ?_) this
    rw [nat_Nat_Text.l2, if_neg (by omega)]
    simp only [List.take_length, List.replicate_zero, List.nil_append]
  | succ m ih =>
    intro i hi
    refine Ev.step (fun k => ?_) (ih (i + 1) (by omega))
    have hl : (List.replicate (m + 1) (0 : Int) ++ (back.take i).reverse).length = back.length := by simp; omega
    rw [nat_Nat_Text.l2, if_pos (by omega), if_pos (by omega), if_pos (by omega), wrap_in (a := (back.length : Int) - 1) (by omega) (by omega), wrap_in (a := (back.length : Int) - 1 - (i : Int)) (by omega) (by omega), if_pos (by omega), hl, if_pos (by omega), wrap_in (by omega) (by omega)]
    rw [show ((back.length : Int) - 1 - (i : Int)).toNat = m by omega, set_rep, rd_at _ _ (by omega), List.take_succ_eq_append_getElem (show i < back.length by omega), List.reverse_append]
    rfl
theorem bt_strOf (l : List Int) (i : Nat) (h : i < l.length) (h0 : 0 ≤ l[i]) (h1 : l[i] < 256) : bt (strOfNums l) (i : Int) = l[i] := by
  have hs : (strOfNums l).size = l.length := strOfNums_size l
  unfold bt
  rw [dif_pos (by rw [hs, Int.toNat_natCast]; exact h)]
  have e : ((strOfNums l)[((i : Int)).toNat]'(by rw [hs, Int.toNat_natCast]; exact h)) = UInt8.ofNat (l[i]).toNat := by
    simp only [Int.toNat_natCast]
    show ((l.map fun n => UInt8.ofNat n.toNat).toArray)[i]'(by simpa using h) = _
    simp
  rw [e]
  have : (UInt8.ofNat (l[i]).toNat).toNat = (l[i]).toNat := by
    rw [UInt8.toNat_ofNat']; omega
  rw [this]; omega
theorem extract_one (x : Int) (l : List Int) : (strOfNums (x :: l)).extract 1 (strOfNums (x :: l)).size = strOfNums l := by
  apply ByteArray.ext
  rw [ByteArray.data_extract]
  simp [strOfNums, ByteArray.size]
  exact List.take_of_length_le (by simp)
theorem trim_ev : ∀ l : List Int, (∀ x ∈ l, 0 ≤ x ∧ x < 256) → l.length ≤ 281474976710656 → Ev (fun k => strings_trimLeftByte.l0 k (strOfNums l) 48) (strOfNums (l.dropWhile (· == 48)))
  | [], _, _ => by
    refine Ev.step (f := fun _ => some (strOfNums [])) (fun k => ?_) (Ev.now _)
    rw [strings_trimLeftByte.l0, strOfNums_size, if_neg (by simp)]
  | x :: l, h, hl => by
    have hx := h x (by simp)
    have hb := bt_strOf (x :: l) 0 (by simp) hx.1 hx.2
    have hs : ((strOfNums (x :: l)).size : Int) = (l.length : Int) + 1 := by rw [strOfNums_size]; simp
    have hb0 : bt (strOfNums (x :: l)) 0 = x := hb
    by_cases c : x = 48
    · subst c
      rw [List.length_cons] at hl
      have ih := trim_ev l (fun y hy => h y (by simp [hy])) (by omega)
      rw [show (48 :: l).dropWhile (· == 48) = l.dropWhile (· == 48) from by simp]
      refine Ev.step (fun k => ?_) ih
      rw [strings_trimLeftByte.l0, hs, if_pos (by omega), if_pos (by omega), hb0, if_pos rfl, if_pos (by omega), extract_one]
    · rw [show (x :: l).dropWhile (· == 48) = x :: l from by simp [c]]
      refine Ev.step (f := fun _ => some (strOfNums (x :: l))) (fun k => ?_) (Ev.now _)
      rw [strings_trimLeftByte.l0, hs, if_pos (by omega), if_pos (by omega), hb0, if_neg c]
theorem drop_rep (z : Nat) (l : List Int) : (List.replicate z (48 : Int) ++ l).dropWhile (· == 48) = l.dropWhile (· == 48) := by
  induction z with
  | zero => simp
  | succ z ih => rw [List.replicate_succ, List.cons_append, List.dropWhile_cons_of_pos (by decide)]; exact ih
theorem drop_digits {n : Nat} (hn : n ≠ 0) : (((dgs 10 n).map fun d => 48 + d).reverse).dropWhile (· == 48) = ((dgs 10 n).map fun d => 48 + d).reverse := by
  obtain ⟨a, r, t, e, ht, _⟩ := dgs_top (b := 10) (by omega) hn
  rw [e, List.map_append, List.reverse_append, List.map_singleton, List.reverse_singleton, List.singleton_append, List.dropWhile_cons_of_neg]
  simp only [beq_iff_eq]
  omega
/-- The program's text of a number. -/
theorem text_ev {n : Nat} (hl : (dgs 4294967296 n).length ≤ 100000000000) : Ev (fun k => nat_Nat_Text.f k (dgs 4294967296 n)) (dec n) := by
  by_cases hn : n = 0
  · subst hn
    refine Ev.congr (fun k => ?_) (Ev.now _)
    unfold nat_Nat_Text.f
    rw [if_pos (by simp [dgs_zero])]
    rfl
  · obtain ⟨z, hz, e⟩ := cd_eq n
    have hd := dec_len (n := n)
    have hlen : (cd n).length = (dgs 10 n).length + z := by rw [e]; simp
    have hp := dgs_len_pos (b := 4294967296) (n := n) (by omega) hn
    have hbig : ((cd n).map fun d => 48 + d).length = (cd n).length := List.length_map _
    have hmem : ∀ x ∈ ((cd n).map fun d => 48 + d).reverse, 0 ≤ x ∧ x < 256 := by
      intro x hx
      rw [List.mem_reverse, List.mem_map] at hx
      obtain ⟨d, hd2, rfl⟩ := hx
      have : Dg (10 : Nat) (cd n) := by rw [e]; exact (dgs_dg (by omega) n).append (Dg.zeros (by omega) z)
      have := this d hd2
      omega
    have ht := trim_ev _ hmem (by rw [List.length_reverse, hbig]; omega)
    have hdrop : (((cd n).map fun d => 48 + d).reverse).dropWhile (· == 48) = ((dgs 10 n).map fun d => 48 + d).reverse := by
      rw [e, List.map_append, List.reverse_append, List.map_replicate, List.reverse_replicate]
      rw [show (48 + (0 : Int)) = 48 from rfl, drop_rep, drop_digits hn]
    rw [hdrop] at ht
    have hT : Ev (fun k => strings_TrimLeft.f k (strOfNums ((cd n).map fun d => 48 + d).reverse) (⟨#[48]⟩ : ByteArray)) (dec n) := by
      unfold dec dd
      rw [if_neg hn]
      refine Ev.congr (fun k => ?_) ht
      unfold strings_TrimLeft.f
      rw [if_pos rfl]
      rfl
    have h2 := text_l2 ((cd n).map fun d => 48 + d) (dec n) (by omega) hT ((cd n).map fun d => 48 + d).length 0 (by omega)
    rw [List.take_zero, List.reverse_nil, List.append_nil] at h2
    have h0 : Ev (fun k => nat_Nat_Text.l0 k (([] : List Int) ++ (cd n).map fun d => 48 + d) []) (dec n) := by
      refine Ev.step (fun k => ?_) h2
      rw [nat_Nat_Text.l0, if_neg (by simp), List.nil_append, if_pos (by omega), if_pos (by omega), Int.toNat_natCast]
      rfl
    have h := text_l0 (dec n) n [] (by omega) (by simp only [List.length_nil]; omega) h0
    refine Ev.congr (fun k => ?_) h
    unfold nat_Nat_Text.f
    rw [if_neg (by omega)]
theorem str_append (a c : List Int) : strOfNums a ++ strOfNums c = strOfNums (a ++ c) := by
  apply ByteArray.ext
  rw [ByteArray.data_append]
  simp [strOfNums]
theorem dd_snoc (l : List Int) (d : Int) : strOfNums [48 + d] ++ dd l = dd (l ++ [d]) := by
  unfold dd
  rw [str_append]
  simp
theorem dd_size (l : List Int) : (dd l).size = l.length := by unfold dd; rw [strOfNums_size]; simp
theorem ten_digit (r : Nat) : wrap64 (48 + Int.tmod (r : Int) 10) % 256 = 48 + ((r % 10 : Nat) : Int) := by
  rw [show (10 : Int) = ((10 : Nat) : Int) from rfl, ← Int.ofNat_tmod, wrap_in (by omega) (by omega)]; omega
theorem half_ten (r : Nat) (h : r < 10000) : wrap64 (Int.tdiv (r : Int) 10) = ((r / 10 : Nat) : Int) := by
  rw [show (10 : Int) = ((10 : Nat) : Int) from rfl, ← Int.ofNat_tdiv, wrap_in (by omega) (by omega)]
theorem next_i (i : Nat) (h : i < 1000000000000) : wrap64 ((i : Int) + 1) = ((i + 1 : Nat) : Int) := by rw [wrap_in (by omega) (by omega)]; rfl
theorem fits_one (v : Int) (acc : List Int) (h : 1 + acc.length ≤ 9223372036854775807) : (strOfNums [v]).size + (dd acc).size ≤ 9223372036854775807 := by
  rw [strOfNums_size, dd_size, List.length_singleton]; exact h
theorem rtext_l1 (x : Nat) (R : ByteArray) (hx : (dgs 65536 x).length ≤ 1000000000000) : ∀ (m i r : Nat) (acc : List Int), m = 4 - i → i ≤ 4 → r < 10 ^ m → acc.length + m ≤ 100000000000000 →
    Ev (fun k => heraldref04_Text.l0 k (dgs 65536 x) (dd (acc ++ if x = 0 then dgs 10 r else dn 10 m r))) R → Ev (fun k => heraldref04_Text.l1 k (dgs 65536 x) (dd acc) (r : Int) (i : Int)) R := by
  intro m
  induction m with
  | zero =>
    intro i r acc hm hi hr hl hR
    obtain rfl : i = 4 := by omega
    obtain rfl : r = 0 := by simpa using hr
    refine Ev.step (fun k => ?_) hR
    rw [heraldref04_Text.l1, if_neg (by omega)]
    rw [show (if x = 0 then dgs 10 0 else dn 10 0 0) = [] from by rw [dgs_zero]; simp [dn], List.append_nil]
  | succ m ih =>
    intro i r acc hm hi hr hl hR
    have hlx := dgs_len_zero (b := 65536) (n := x) (by omega)
    rw [Nat.pow_succ] at hr
    have hr4 : r < 10000 := by
      have : (10 : Nat) ^ m ≤ 10 ^ 3 := Nat.pow_le_pow_right (by omega) (by omega)
      have : (10 : Nat) ^ 3 = 1000 := rfl
      omega
    by_cases stop : x = 0 ∧ r = 0
    · obtain ⟨hx0, hr0⟩ := stop
      subst hx0 hr0
      rw [if_pos rfl, dgs_zero 10, List.append_nil] at hR
      refine Ev.step (fun k => ?_) hR
      rw [heraldref04_Text.l1, if_pos (by omega), if_neg (by rw [dgs_zero]; simp), if_neg (by omega)]
    · have hs0 : 1 + acc.length ≤ 9223372036854775807 := by omega
      have h := ih (i + 1) (r / 10) (acc ++ [((r % 10 : Nat) : Int)]) (by omega) (by omega) (by omega) (by rw [List.length_append, List.length_singleton]; omega) (by
        rw [List.append_assoc]
        by_cases hx0 : x = 0
        · rw [if_pos hx0] at hR ⊢
          rw [dgs_pos (b := 10) (by omega) (show r ≠ 0 by omega)] at hR
          exact hR
        · rw [if_neg hx0] at hR ⊢
          exact hR)
      have c0 : (i : Int) < 4 := by omega
      have cx : ¬ x = 0 → ((dgs 65536 x).length : Int) > 0 := by omega
      have cx0 : x = 0 → ¬ ((dgs 65536 x).length : Int) > 0 := by omega
      have cr : x = 0 → (r : Int) > 0 := by omega
      have e1 := ten_digit r
      have e2 := half_ten r (by omega)
      have e3 := next_i i (by omega)
      refine Ev.step (fun k => ?_) h
      rw [heraldref04_Text.l1, if_pos c0, e1, e2, e3]
      by_cases hx0 : x = 0
      · rw [if_neg (cx0 hx0), if_pos (cr hx0), Option.bind_some, if_pos (fits_one _ acc hs0), dd_snoc]
      · rw [if_pos (cx hx0), Option.bind_some, if_pos (fits_one _ acc hs0), dd_snoc]
theorem rtext_l0 : ∀ (n : Nat) (acc : List Int), (dgs 65536 n).length ≤ 1000000000000 → acc.length + (dgs 10 n).length ≤ 10000000000000 →
    Ev (fun k => heraldref04_Text.l0 k (dgs 65536 n) (dd acc)) (dd (acc ++ dgs 10 n)) := by
  intro n
  induction n using Nat.strongRecOn with
  | ind n ih =>
    intro acc hl hb
    by_cases h : n = 0
    · subst h
      refine Ev.step (f := fun _ => some (dd (acc ++ dgs 10 0))) (fun k => ?_) (Ev.now _)
      rw [heraldref04_Text.l0, if_neg (by rw [dgs_zero]; simp), dgs_zero, List.append_nil]
    · have hp := dgs_len_pos (b := 65536) (n := n) (by omega) h
      have hle : (dgs 65536 (n / 10000)).length ≤ (dgs 65536 n).length := (dgs_len_le (by omega)).mpr (Nat.lt_of_le_of_lt (Nat.div_le_self _ _) (lt_pow_len (by omega)))
      have hsp : acc ++ dgs 10 n = (acc ++ if n / 10000 = 0 then dgs 10 (n % 10000) else dn 10 4 (n % 10000)) ++ dgs 10 (n / 10000) := by
        by_cases g : n / 10000 = 0
        · rw [if_pos g, g, dgs_zero, List.append_nil, Nat.mod_eq_of_lt (by omega)]
        · have := dgs_split (b := 10) (by omega) 4 n (by rw [show (10 : Nat) ^ 4 = 10000 from rfl]; exact g)
          have hm := dn_mod (b := 10) (by omega) 4 n
          rw [show (10 : Nat) ^ 4 = 10000 from rfl] at this hm
          rw [if_neg g, this, hm, List.append_assoc]
      have hlen : (acc ++ dgs 10 n).length = acc.length + (dgs 10 n).length := List.length_append
      have h1 := ih (n / 10000) (by omega) (acc ++ if n / 10000 = 0 then dgs 10 (n % 10000) else dn 10 4 (n % 10000)) (by omega) (by
        rw [← List.length_append, ← hsp, hlen]; exact hb)
      rw [← hsp] at h1
      have h2 := rtext_l1 (n / 10000) _ (by omega) 4 0 (n % 10000) acc (by omega) (by omega) (by rw [show (10 : Nat) ^ 4 = 10000 from rfl]; omega) (by omega) h1
      have h3 := (small_ev (n := n) (d := 10000) (by omega) (by omega) (by omega)).bind (f := fun k bt210 => heraldref04_Text.l1 k bt210.1 (dd acc) bt210.2 0) h2
      refine Ev.step (fun k => ?_) h3
      rw [heraldref04_Text.l0, if_pos (by omega)]
      rfl
/-- The reference's text of a number. -/
theorem rtext_ev {n : Nat} (hl : (dgs 65536 n).length ≤ 100000000000) : Ev (fun k => heraldref04_Text.f k (dgs 65536 n)) (dec n) := by
  by_cases hn : n = 0
  · subst hn
    refine Ev.congr (fun k => ?_) (Ev.now _)
    unfold heraldref04_Text.f
    rw [if_pos (by simp [dgs_zero])]
    rfl
  · have hd := rdec_len (n := n)
    have hp := dgs_len_pos (b := 65536) (n := n) (by omega) hn
    have h := rtext_l0 n [] (by omega) (by simp only [List.length_nil]; omega)
    rw [List.nil_append] at h
    unfold dec
    rw [if_neg hn]
    refine Ev.congr (fun k => ?_) h
    unfold heraldref04_Text.f
    rw [if_neg (by omega)]
    rfl
end Go.Proofs.YtgcngbmkgjphpaaDoor.Nums
end

section
namespace Go.Proofs.YtgcngbmkgjphpaaDoor.PAll
open Go.RowKit Go.Proofs.YtgcngbmkgjphpaaDoorW.PrintWords Go.Proofs.YtgcngbmkgjphpaaDoorW.PrintLast Go.Proofs.YtgcngbmkgjphpaaDoorW.PrintMore
set_option linter.unusedVariables false
set_option linter.unusedSimpArgs false
def conv_bytes.f (s : ByteArray) : Option (List Int) := if s.size ≤ 9223372036854775807 then some (bytesOf s) else none
theorem conv_cells (W W' : World) (e : TypeId) (s : ByteArray) {fr : Nat × Nat} (h : W'.heap[W.heap.size]? = some (.cells (Lib.bytesCells W e s) e fr)) (j : Nat) (hj : j < s.size) : W'.cell? ⟨W.heap.size, j, none⟩ = some (.int .u8 ((bytesOf s).getD j 0)) := by
  have h' : j < s.data.toList.length := by rw [data_length]; exact hj
  have h2 : j < s.data.size := hj
  have h3 : s.data[j]? = some s.data[j] := Array.getElem?_eq_getElem h2
  simp [World.cell?, h, Lib.bytesCells, Array.getElem?_append, hj, h3, bytesOf, List.getD_eq_getElem?_getD, List.getElem?_eq_getElem h']
theorem conv_row (W : World) (e : TypeId) (s : ByteArray) (hs : s.size ≤ 9223372036854775807) :
    Kd.V (Kd.int .u8) e (Lib.bytesWorld W e s) W.heap.size (fun k => True ∧ W.heap.size ≤ k ∧ True) (.slice (some ⟨W.heap.size, 0, none⟩) s.size (grownCap W s.size 0 e)) (bytesOf s) := by
  have hlen := bytesOf_length s
  have hcap : s.size ≤ grownCap W s.size 0 e := by
    exact grownCap_ge _ _ _ _
  have hC : ∀ W' : World, W'.heap[W.heap.size]? = (Lib.bytesWorld W e s).heap[W.heap.size]? → (Kd.int .u8).C W' (some ⟨W.heap.size, 0, none⟩) s.size (bytesOf s) := by
    intro W' hW
    rw [Lib.bytesWorld_at_new] at hW
    refine Kd.C_of_reads (d := (0 : Int)) (h1 := fun _ => rfl) ⟨hlen, hs, fun _ => ⟨_, rfl, fun j hj => ?_⟩⟩
    rw [add_plain]
    exact conv_cells W W' e s hW j hj
  refine ⟨_, _, by rw [hlen], by rw [hlen]; exact hcap, ?_⟩
  rw [hlen]
  refine fun W' hW => hC W' (hW _ ⟨trivial, Nat.le_refl _, trivial⟩ ?_)
  rw [Lib.bytesWorld_size]; omega
theorem conv_event {ops : Array Oper} {rest : List Oper} {o : Oper} {a : Act} {Q : Exit → Act → World → Prop} {W : World} {x : Operand} {s : ByteArray} {r : List Int} (ho : o.op = .convert 9 77 x) (hgd : o.guard = none) (hx : a.eval x = .string s) (hf : conv_bytes.f s = some r)
    (h : ∀ v w1, Kd.V (Kd.int .u8) 5 w1 W.heap.size (fun k => True ∧ W.heap.size ≤ k ∧ True) v r → Below W.heap.size W w1 → wpList Tryd.prog ops Q rest (a.put o.dst v) w1) : wpList Tryd.prog ops Q (o :: rest) a W := by
  unfold conv_bytes.f at hf
  split at hf
  case isFalse => simp at hf
  case isTrue hs =>
  obtain rfl := Option.some.inj hf
  refine Kd.event_run hgd (w1 := Lib.bytesWorld W 5 s) (v := .slice (some ⟨W.heap.size, 0, none⟩) s.size (grownCap W s.size 0 5)) ?_ (h _ _ (conv_row W 5 s hs) (bytes_below (Below.refl _ _) (Nat.le_refl _) 5 s))
  unfold execOp
  simp only [ho]
  have := print_bytes (P := Tryd.prog) 9 77 5 Tryd.underlying9 Tryd.underlying77 Tryd.underlying5 s W
  simp [hx, this]
end Go.Proofs.YtgcngbmkgjphpaaDoor.PAll
end

section
namespace Go.Proofs.YtgcngbmkgjphpaaDoor.PAll
open Go.RowKit Go.Proofs.YtgcngbmkgjphpaaDoorW.PrintWords Go.Proofs.YtgcngbmkgjphpaaDoorW.PrintLast Go.Proofs.YtgcngbmkgjphpaaDoorW.PrintMore
attribute [local go_sem] max2_int min2_int max_two min_two max_three min_three max_four min_four   -- for this text's walks alone
set_option linter.unusedVariables false
set_option linter.unusedSimpArgs false
mutual
def nat_Parse.l0 : Nat → ByteArray → Int → Int → Option (List Int × Int × Int)
 | 0, _, _, _ => none
 | k + 1, x0, x13, x14 => if x14 < x13 then (if 0 ≤ x14 then (if x14 < (x0.size : Int) then (if (bt x0 x14) < 48 then (some (([] : List Int), x14, 43)) else (if (bt x0 x14) > 57 then (some (([] : List Int), x14, 43)) else (if x14 = 1 then (if 0 < (x0.size : Int) then (if (bt x0 0) = 48 then (some (([] : List Int), x14, 43)) else (nat_Parse.l0 k x0 x13 (wrap64 (x14 + 1)))) else (none)) else (nat_Parse.l0 k x0 x13 (wrap64 (x14 + 1)))))) else (none)) else (none)) else ((conv_bytes.f x0).bind fun t311 => (nat_Parse.l1 k t311 (t311.length : Int) 0 ([] : List Int)))
def nat_Parse.l1 : Nat → List Int → Int → Int → List Int → Option (List Int × Int × Int)
 | 0, _, _, _, _ => none
 | k + 1, x41, x42, x43, x311000 => if x43 < x42 then (if 0 ≤ x43 then (if x43 < (x41.length : Int) then ((nat_Nat_times.f k x311000 10 (((rd x41 x43) - 48) % 256)).bind fun t315 => ((nat_Nat_Bits.f t315).bind fun t318 => (if t318 > 65536 then (some (([] : List Int), 0, 41)) else (nat_Parse.l1 k x41 x42 (wrap64 (x43 + 1)) t315)))) else (none)) else (none)) else (some (x311000, 0, 0))
end
def nat_Parse.f (k : Nat) (a0 : ByteArray) : Option (List Int × Int × Int) := if a0.toList = ([] : List UInt8) then (some (([] : List Int), 0, 43)) else (nat_Parse.l0 k a0 (a0.size : Int) 0)
set_option maxHeartbeats 8000000 in
set_option maxRecDepth 100000 in
theorem nat_Parse.calls (k : Nat) (a0 : ByteArray) (r1 : List Int) (r2 : Int) (r3 : Int) (w : World) (h : nat_Parse.f k a0 = some (r1, r2, r3)) :
  Calls Tryd.prog 18 #[.string a0] w fun e w' => ∃ v0_ : Value, e = .returned (.tuple #[.agg #[v0_], .int .i64 r2, .int .i64 r3]) ∧ Kd.V (Kd.int .u32) 79 w' w.heap.size (fun k_ => (w.heap.size ≤ k_)) v0_ r1 ∧ Below w.heap.size w w' := by
 have hu26 := Tryd.underlying26
 have HB := Aside0.mk (Below.refl w.heap.size w)
 have H : (if a0.toList = ([] : List UInt8) then (some (([] : List Int), 0, 43)) else (nat_Parse.l0 k a0 (a0.size : Int) 0)) = some (r1, r2, r3) := h
 clear h
 by_cases c2 : a0.toList = ([] : List UInt8)
 ·rw [if_pos c2] at H
  have c2b0 : (a0.toList == ([] : List UInt8)) = true := beq_iff_eq.mpr c2
  have c2b1 : (a0.toList != ([] : List UInt8)) = false := bne_eq_false_iff_eq.mpr c2
  clear c2
  simp only [Option.some.injEq, Prod.mk.injEq] at H
  obtain ⟨rfl, rfl, rfl⟩ := H
  go_enter Tryd.func18, Tryd.ntmps18
  go_wp2_with (first | ((with_reducible refine gate_dst (N := 2) rfl ?_); refine box_event ?hg (N := 2) ?hd (cs := #[.slice none 0 0]) (t := 26) ?hr ?_; (case hd => rfl); (case hg => rfl); (case hr => first | (go_simp; done) | (go_simp; rfl)); intro gb309 hg w3 hbox hb; have BK309 := Aside0.mk (hbox); have GW309 := Aside0.mk ((by rw [hg]; exact (below_size HB.out) : w.heap.size ≤ gb309)); have GE309 := Aside0.mk ((by rw [hg]; exact (below_size HB.out) : w.heap.size ≤ gb309)); replace HB := Aside0.mk (below_step HB.out hb); clear hb hbox hg; have hcz4_0 : w3.cell? ⟨gb309, 0, none⟩ = some (.slice none 0 0) := (blk_cell BK309.out 0).trans rfl; have hfz4_0 := blk_frozen BK309.out 0))
  refine bodyPost_ret (results_ctt rfl _ _ gb309 26 #[.slice none 0 0] (0, 0) _ rfl (by refine blk_put (cs := #[.slice none 0 0]) ?_ 0 _ rfl; exact BK309.out) Tryd.underlying26 rfl (by kernel_rfl)) rfl ?_
  exact ⟨_, by first | rfl | (simp [errW_none, errW_some] <;> rfl) | (simp [*, errW_none, errW_some] <;> rfl), Kd.R_V (base := w.heap.size) (by first | exact Kd.R_nil _ _ _ _ (fun _ => False) | exact Kd.R_nil _ _ _ _ _ | exact Kd.N_nil _ _ _ _ _ | exact Kd.V_nil _ _ _ _ _ | exact Kd.Q_nil _ _ _ _ _ | exact Kd.S_nil _ _ _ _ _), by repeat (first | exact HB.out | refine sb ?_ GE309)⟩
 ·rw [if_neg c2] at H
  have c2b0 : (a0.toList == ([] : List UInt8)) = false := beq_eq_false_iff_ne.mpr c2
  have c2b1 : (a0.toList != ([] : List UInt8)) = true := bne_iff_ne.mpr c2
  have H' := Aside0.mk H
  clear H
  go_enter Tryd.func18, Tryd.ntmps18
  go_wp2_with (first | ((with_reducible refine gate_dst (N := 2) rfl ?_); refine box_event ?hg (N := 2) ?hd (cs := #[.slice none 0 0]) (t := 26) ?hr ?_; (case hd => rfl); (case hg => rfl); (case hr => first | (go_simp; done) | (go_simp; rfl)); intro gb309 hg w5 hbox hb; have BK309 := Aside0.mk (hbox); have GW309 := Aside0.mk ((by rw [hg]; exact (below_size HB.out) : w.heap.size ≤ gb309)); have GE309 := Aside0.mk ((by rw [hg]; exact (below_size HB.out) : w.heap.size ≤ gb309)); replace HB := Aside0.mk (below_step HB.out hb); clear hb hbox hg))
  go_loopg [14] k (fun kq v14 w' => ∃ (x14_1 : Int), v14 = .int .i64 x14_1 ∧ Aside0 (nat_Parse.l0 kq a0 (a0.size : Int) x14_1 = some (r1, r2, r3)) ∧ Aside0 (kq ≤ k) ∧ Aside0 (w'.heap[gb309]? = some (.cells #[(.slice none 0 0)] 26 (0, 0))) ∧ Aside0 (Below w.heap.size w w'))
  case atStart => exact ⟨(0), (by first | rfl | (simp; done) | (simp [*]; done) | (simp [i64_w]; done) | (simp [*, i64_w]; done)), H', ⟨Nat.le_refl _⟩, ⟨by exact BK309.out⟩, ⟨by repeat (first | exact HB.out | refine sb ?_ GE309)⟩⟩
  case round =>
   clear H'
   try clear c1
   try clear c2
   try clear c2b0
   try clear c2b1
   try clear p2
   try clear hcz4_0
   try clear hfz4_0
   obtain ⟨x14_1, rfl, HA, HK1, BK309, HB⟩ := hrel
   cases gk with
   | zero => exact absurd HA.out (by simp [nat_Parse.l0])
   | succ k1 =>
    have H := HA.out
    clear HA
    simp only [nat_Parse.l0] at H
    by_cases c6 : x14_1 < (a0.size : Int)
    ·rw [if_pos c6] at H
     have c6b0 : decide (x14_1 < (a0.size : Int)) = true := decide_eq_true c6
     clear c6
     by_cases c7 : 0 ≤ x14_1
     ·rw [if_pos c7] at H
      have c7b0 : decide (0 ≤ x14_1) = true := decide_eq_true c7
      clear c7
      by_cases c8 : x14_1 < (a0.size : Int)
      ·rw [if_pos c8] at H
       have c8b0 : decide (x14_1 < (a0.size : Int)) = true := decide_eq_true c8
       clear c8
       by_cases c10 : (bt a0 x14_1) < 48
       ·rw [if_pos c10] at H
        have c10b0 : decide ((bt a0 x14_1) < 48) = true := decide_eq_true c10
        clear c10
        simp only [Option.some.injEq, Prod.mk.injEq] at H
        obtain ⟨rfl, rfl, rfl⟩ := H
        have p9 : 0 ≤ (x14_1 : Int) := of_decide_eq_true (by first | (with_reducible assumption) | assumption)
        have q9 : x14_1 < (a0.size : Int) := of_decide_eq_true (by first | (with_reducible assumption) | assumption)
        have hx9 := bt_at a0 x14_1
        replace p9 := eq_true p9
        replace q9 := eq_true q9
        have hcz11_0 : wr.cell? ⟨gb309, 0, none⟩ = some (.slice none 0 0) := (blk_cell BK309.out 0).trans rfl
        have hfz11_0 := blk_frozen BK309.out 0
        go_wp2
        refine bodyPost_ret (results_ctt rfl _ _ gb309 26 #[.slice none 0 0] (0, 0) _ rfl (by refine blk_put (cs := #[.slice none 0 0]) ?_ 0 _ rfl; exact BK309.out) Tryd.underlying26 rfl (by kernel_rfl)) rfl ?_
        exact ⟨_, by first | rfl | (simp [errW_none, errW_some] <;> rfl) | (simp [*, errW_none, errW_some] <;> rfl), Kd.R_V (base := w.heap.size) (by first | exact Kd.R_nil _ _ _ _ (fun _ => False) | exact Kd.R_nil _ _ _ _ _ | exact Kd.N_nil _ _ _ _ _ | exact Kd.V_nil _ _ _ _ _ | exact Kd.Q_nil _ _ _ _ _ | exact Kd.S_nil _ _ _ _ _), by repeat (first | exact HB.out | refine sb ?_ GE309)⟩
       ·rw [if_neg c10] at H
        have c10b0 : decide ((bt a0 x14_1) < 48) = false := decide_eq_false c10
        clear c10
        by_cases c13 : (bt a0 x14_1) > 57
        ·rw [if_pos c13] at H
         have c13b0 : decide (57 < (bt a0 x14_1)) = true := decide_eq_true c13
         clear c13
         simp only [Option.some.injEq, Prod.mk.injEq] at H
         obtain ⟨rfl, rfl, rfl⟩ := H
         have p9 : 0 ≤ (x14_1 : Int) := of_decide_eq_true (by first | (with_reducible assumption) | assumption)
         have q9 : x14_1 < (a0.size : Int) := of_decide_eq_true (by first | (with_reducible assumption) | assumption)
         have hx9 := bt_at a0 x14_1
         replace p9 := eq_true p9
         replace q9 := eq_true q9
         have p12 : 0 ≤ (x14_1 : Int) := of_decide_eq_true (by first | (with_reducible assumption) | assumption)
         have q12 : x14_1 < (a0.size : Int) := of_decide_eq_true (by first | (with_reducible assumption) | assumption)
         have hx12 := bt_at a0 x14_1
         replace p12 := eq_true p12
         replace q12 := eq_true q12
         have hcz14_0 : wr.cell? ⟨gb309, 0, none⟩ = some (.slice none 0 0) := (blk_cell BK309.out 0).trans rfl
         have hfz14_0 := blk_frozen BK309.out 0
         go_wp2
         refine bodyPost_ret (results_ctt rfl _ _ gb309 26 #[.slice none 0 0] (0, 0) _ rfl (by refine blk_put (cs := #[.slice none 0 0]) ?_ 0 _ rfl; exact BK309.out) Tryd.underlying26 rfl (by kernel_rfl)) rfl ?_
         exact ⟨_, by first | rfl | (simp [errW_none, errW_some] <;> rfl) | (simp [*, errW_none, errW_some] <;> rfl), Kd.R_V (base := w.heap.size) (by first | exact Kd.R_nil _ _ _ _ (fun _ => False) | exact Kd.R_nil _ _ _ _ _ | exact Kd.N_nil _ _ _ _ _ | exact Kd.V_nil _ _ _ _ _ | exact Kd.Q_nil _ _ _ _ _ | exact Kd.S_nil _ _ _ _ _), by repeat (first | exact HB.out | refine sb ?_ GE309)⟩
        ·rw [if_neg c13] at H
         have c13b0 : decide (57 < (bt a0 x14_1)) = false := decide_eq_false c13
         clear c13
         by_cases c15 : x14_1 = 1
         ·rw [if_pos c15] at H
          have c15b0 : (x14_1 == 1) = true := beq_iff_eq.mpr c15
          have c15b1 : (x14_1 != 1) = false := bne_eq_false_iff_eq.mpr c15
          clear c15
          by_cases c16 : 0 < (a0.size : Int)
          ·rw [if_pos c16] at H
           have c16b0 : decide (0 < (a0.size : Int)) = true := decide_eq_true c16
           have c16b1 : decide (0 < a0.size) = true := decide_eq_true (by omega)
           clear c16
           by_cases c18 : (bt a0 0) = 48
           ·rw [if_pos c18] at H
            have c18b0 : ((bt a0 0) == 48) = true := beq_iff_eq.mpr c18
            have c18b1 : ((bt a0 0) != 48) = false := bne_eq_false_iff_eq.mpr c18
            clear c18
            simp only [Option.some.injEq, Prod.mk.injEq] at H
            obtain ⟨rfl, rfl, rfl⟩ := H
            have p9 : 0 ≤ (x14_1 : Int) := of_decide_eq_true (by first | (with_reducible assumption) | assumption)
            have q9 : x14_1 < (a0.size : Int) := of_decide_eq_true (by first | (with_reducible assumption) | assumption)
            have hx9 := bt_at a0 x14_1
            replace p9 := eq_true p9
            replace q9 := eq_true q9
            have p12 : 0 ≤ (x14_1 : Int) := of_decide_eq_true (by first | (with_reducible assumption) | assumption)
            have q12 : x14_1 < (a0.size : Int) := of_decide_eq_true (by first | (with_reducible assumption) | assumption)
            have hx12 := bt_at a0 x14_1
            replace p12 := eq_true p12
            replace q12 := eq_true q12
            have p17 : 0 ≤ (0 : Int) := (by omega)
            have q17 : 0 < a0.size := (by have : (0 : Int) < (a0.size : Int) := of_decide_eq_true (by first | (with_reducible assumption) | assumption); omega)
            have hx17 : ∀ h : 0 < a0.size, ((a0[0]'h).toNat : Int) = bt a0 0 := bt_at a0 0
            clear p17
            have qi17 : (0 < (a0.size : Int)) = True := eq_true (of_decide_eq_true (by first | (with_reducible assumption) | assumption))
            replace q17 := eq_true q17
            have hcz19_0 : wr.cell? ⟨gb309, 0, none⟩ = some (.slice none 0 0) := (blk_cell BK309.out 0).trans rfl
            have hfz19_0 := blk_frozen BK309.out 0
            go_wp2
            refine bodyPost_ret (results_ctt rfl _ _ gb309 26 #[.slice none 0 0] (0, 0) _ rfl (by refine blk_put (cs := #[.slice none 0 0]) ?_ 0 _ rfl; exact BK309.out) Tryd.underlying26 rfl (by kernel_rfl)) rfl ?_
            exact ⟨_, by first | rfl | (simp [errW_none, errW_some] <;> rfl) | (simp [*, errW_none, errW_some] <;> rfl), Kd.R_V (base := w.heap.size) (by first | exact Kd.R_nil _ _ _ _ (fun _ => False) | exact Kd.R_nil _ _ _ _ _ | exact Kd.N_nil _ _ _ _ _ | exact Kd.V_nil _ _ _ _ _ | exact Kd.Q_nil _ _ _ _ _ | exact Kd.S_nil _ _ _ _ _), by repeat (first | exact HB.out | refine sb ?_ GE309)⟩
           ·rw [if_neg c18] at H
            have c18b0 : ((bt a0 0) == 48) = false := beq_eq_false_iff_ne.mpr c18
            have c18b1 : ((bt a0 0) != 48) = true := bne_iff_ne.mpr c18
            have H' := Aside0.mk H
            clear H
            have p9 : 0 ≤ (x14_1 : Int) := of_decide_eq_true (by first | (with_reducible assumption) | assumption)
            have q9 : x14_1 < (a0.size : Int) := of_decide_eq_true (by first | (with_reducible assumption) | assumption)
            have hx9 := bt_at a0 x14_1
            replace p9 := eq_true p9
            replace q9 := eq_true q9
            have p12 : 0 ≤ (x14_1 : Int) := of_decide_eq_true (by first | (with_reducible assumption) | assumption)
            have q12 : x14_1 < (a0.size : Int) := of_decide_eq_true (by first | (with_reducible assumption) | assumption)
            have hx12 := bt_at a0 x14_1
            replace p12 := eq_true p12
            replace q12 := eq_true q12
            have p17 : 0 ≤ (0 : Int) := (by omega)
            have q17 : 0 < a0.size := (by have : (0 : Int) < (a0.size : Int) := of_decide_eq_true (by first | (with_reducible assumption) | assumption); omega)
            have hx17 : ∀ h : 0 < a0.size, ((a0[0]'h).toNat : Int) = bt a0 0 := bt_at a0 0
            clear p17
            have qi17 : (0 < (a0.size : Int)) = True := eq_true (of_decide_eq_true (by first | (with_reducible assumption) | assumption))
            replace q17 := eq_true q17
            go_wp2
            go_roundg k1
            case measure => have := HK1.out; omega
            case rel => exact ⟨(wrap64 (x14_1 + 1)), (by first | rfl | (simp; done) | (simp [*]; done) | (simp [i64_w]; done) | (simp [*, i64_w]; done)), H', ⟨by have := HK1.out; omega⟩, ⟨by exact BK309.out⟩, ⟨by repeat (first | exact HB.out | refine sb ?_ GE309)⟩⟩
          ·rw [if_neg c16] at H
           exact absurd H (by simp)
         ·rw [if_neg c15] at H
          have c15b0 : (x14_1 == 1) = false := beq_eq_false_iff_ne.mpr c15
          have c15b1 : (x14_1 != 1) = true := bne_iff_ne.mpr c15
          have H' := Aside0.mk H
          clear H
          have p9 : 0 ≤ (x14_1 : Int) := of_decide_eq_true (by first | (with_reducible assumption) | assumption)
          have q9 : x14_1 < (a0.size : Int) := of_decide_eq_true (by first | (with_reducible assumption) | assumption)
          have hx9 := bt_at a0 x14_1
          replace p9 := eq_true p9
          replace q9 := eq_true q9
          have p12 : 0 ≤ (x14_1 : Int) := of_decide_eq_true (by first | (with_reducible assumption) | assumption)
          have q12 : x14_1 < (a0.size : Int) := of_decide_eq_true (by first | (with_reducible assumption) | assumption)
          have hx12 := bt_at a0 x14_1
          replace p12 := eq_true p12
          replace q12 := eq_true q12
          go_wp2
          go_roundg k1
          case measure => have := HK1.out; omega
          case rel => exact ⟨(wrap64 (x14_1 + 1)), (by first | rfl | (simp; done) | (simp [*]; done) | (simp [i64_w]; done) | (simp [*, i64_w]; done)), H', ⟨by have := HK1.out; omega⟩, ⟨by exact BK309.out⟩, ⟨by repeat (first | exact HB.out | refine sb ?_ GE309)⟩⟩
      ·rw [if_neg c8] at H
       exact absurd H (by simp)
     ·rw [if_neg c7] at H
      exact absurd H (by simp)
    ·rw [if_neg c6] at H
     have c6b0 : decide (x14_1 < (a0.size : Int)) = false := decide_eq_false c6
     clear c6
     replace H := Option.bind_eq_some_iff.mp H
     obtain ⟨t311, A200, H⟩ := H
     replace H : (nat_Parse.l1 k1 t311 (t311.length : Int) 0 ([] : List Int)) = some (r1, r2, r3) := H
     have A20 := Aside0.mk A200
     clear A200
     have H' := Aside0.mk H
     clear H
     go_wp2_with (first | ((with_reducible refine gate_dst (N := 6) rfl ?_); refine box_event ?hg (N := 6) ?hd (cs := #[.slice none 0 0]) (t := 26) ?hr ?_; (case hd => rfl); (case hg => rfl); (case hr => first | (go_simp; done) | (go_simp; rfl)); intro gb310 hg w21 hbox hb; have BK310 := Aside0.mk (hbox); have GW310 := Aside0.mk ((by rw [hg]; exact (below_size (by repeat (first | exact HB.out | refine sb ?_ GE309))) : w.heap.size ≤ gb310)); have GE310 := Aside0.mk ((by rw [hg]; exact (below_size (by repeat (first | exact HB.out | refine sb ?_ GE309))) : w.heap.size ≤ gb310)); have NB309_310 := nl BK309 hg; have NB310_309 := ng BK309 hg; replace BK309 := bb BK309 hb; replace HB := Aside0.mk (below_step (by repeat (first | exact HB.out | refine sb ?_ GE309)) hb); clear hb hbox hg; have hnb22 := NB310_309.out; have hnc22 := NB309_310.out; have hcz23_0 : w21.cell? ⟨gb310, 0, none⟩ = some (.slice none 0 0) := (blk_cell BK310.out 0).trans rfl; have hfz23_0 := blk_frozen BK310.out 0) | ((with_reducible refine gate_ (.convert 9 77 (.tmp 40)) rfl ?_); refine conv_event (s := a0) rfl rfl rfl A20.out ?_; intro v312 w24 ho0 hb; have HO313 := Aside0.mk (Kd.V_lower (Kd.V_mono (ok' := fun k_ => (w.heap.size ≤ k_) ∧ k_ ≠ gb309 ∧ k_ ≠ gb310) (ho0) (fun k_ hk_ => ⟨(Nat.le_trans (below_size (by repeat (first | exact HB.out | refine sb ?_ GE309 | refine sb ?_ GE310))) hk_.2.1), (Kd.freshB (g := gb309) (o := .cells #[.slice none 0 0] 26 (0, 0)) (by refine blk_far ?_ NB309_310.out _; exact BK309.out) k_ hk_.2.1), (Kd.freshB (g := gb310) (o := .cells #[.slice none 0 0] 26 (0, 0)) (by refine blk_put (cs := #[.slice none 0 0]) ?_ 0 _ rfl; exact BK310.out) k_ hk_.2.1)⟩)) (below_size (by repeat (first | exact HB.out | refine sb ?_ GE309 | refine sb ?_ GE310)))); replace BK309 := bf BK309 NB309_310 hb; replace BK310 := Aside0.mk (blk_below (g := gb310) (o := .cells #[.slice none 0 0] 26 (0, 0)) (by refine blk_put (cs := #[.slice none 0 0]) ?_ 0 _ rfl; exact BK310.out) hb); replace HB := Aside0.mk (below_step (by repeat (first | exact HB.out | refine sb ?_ GE309 | refine sb ?_ GE310)) hb); (try clear hb); (try clear hk); (try clear hi); (try clear ho0); obtain ⟨Ao25, co25, eo25⟩ := Kd.V_slice HO313.out; subst eo25))
     go_loopg [43] k1 (fun kq v43 w' => ∃ (x43_2 : Int) (x311000_2 : List Int) (u311000 : Value), v43 = .int .i64 x43_2 ∧ Aside0 (nat_Parse.l1 kq t311 (t311.length : Int) x43_2 x311000_2 = some (r1, r2, r3)) ∧ Aside0 (kq ≤ k1) ∧ Aside0 (Kd.V (Kd.int .u8) 5 w' w.heap.size (fun k_ => (w.heap.size ≤ k_) ∧ k_ ≠ gb309 ∧ k_ ≠ gb310) (.slice Ao25 t311.length co25) t311) ∧ Aside0 (Kd.V (Kd.int .u32) 79 w' w.heap.size (fun k_ => (w.heap.size ≤ k_) ∧ k_ ≠ gb309 ∧ k_ ≠ gb310) u311000 x311000_2) ∧ Aside0 (w'.heap[gb309]? = some (.cells #[(.slice none 0 0)] 26 (0, 0))) ∧ Aside0 (w'.heap[gb310]? = some (.cells #[u311000] 26 (0, 0))) ∧ Aside0 (Below w.heap.size w w'))
     case atStart => exact ⟨(0), (([] : List Int)), (.slice none 0 0), (by first | rfl | (simp; done) | (simp [*]; done) | (simp [i64_w]; done) | (simp [*, i64_w]; done)), H', ⟨Nat.le_refl _⟩, ⟨by exact HO313.out⟩, ⟨Kd.R_V (base := w.heap.size) (by first | exact Kd.R_nil _ _ _ _ (fun _ => False) | exact Kd.R_nil _ _ _ _ _ | exact Kd.N_nil _ _ _ _ _ | exact Kd.V_nil _ _ _ _ _ | exact Kd.Q_nil _ _ _ _ _ | exact Kd.S_nil _ _ _ _ _)⟩, ⟨by exact BK309.out⟩, ⟨by exact BK310.out⟩, ⟨by repeat (first | exact HB.out | refine sb ?_ GE309 | refine sb ?_ GE310)⟩⟩
     case round =>
      clear H'
      try clear c1
      try clear p1
      try clear q1
      try clear hx1
      try clear qi1
      try clear c2
      try clear c2b0
      try clear c2b1
      try clear p2
      try clear c6
      try clear c6b0
      try clear p6
      try clear c7
      try clear c7b0
      try clear c8
      try clear c8b0
      try clear c9
      try clear p9
      try clear q9
      try clear hx9
      try clear c10
      try clear c10b0
      try clear p12
      try clear q12
      try clear hx12
      try clear c13
      try clear c13b0
      try clear c15
      try clear c15b0
      try clear c15b1
      try clear c16
      try clear c16b0
      try clear c16b1
      try clear p17
      try clear q17
      try clear hx17
      try clear qi17
      try clear c18
      try clear c18b0
      try clear c18b1
      try clear c22
      try clear hcz11_0
      try clear hcz14_0
      try clear hcz19_0
      try clear hcz23_0
      try clear hcz4_0
      try clear hfz11_0
      try clear hfz14_0
      try clear hfz19_0
      try clear hfz23_0
      try clear hfz4_0
      try clear p12
      try clear p17
      try clear p2
      try clear p9
      try clear q12
      try clear q17
      try clear q9
      obtain ⟨x43_2, x311000_2, u311000, rfl, HA, HK2, HO_41, HO_311000, BK309, BK310, HB⟩ := hrel
      cases gk with
      | zero => exact absurd HA.out (by simp [nat_Parse.l1])
      | succ k2 =>
       have H := HA.out
       clear HA
       simp only [nat_Parse.l1] at H
       by_cases c26 : x43_2 < (t311.length : Int)
       ·rw [if_pos c26] at H
        have c26b0 : decide (x43_2 < (t311.length : Int)) = true := decide_eq_true c26
        clear c26
        by_cases c27 : 0 ≤ x43_2
        ·rw [if_pos c27] at H
         have c27b0 : decide (0 ≤ x43_2) = true := decide_eq_true c27
         clear c27
         by_cases c28 : x43_2 < (t311.length : Int)
         ·rw [if_pos c28] at H
          have c28b0 : decide (x43_2 < (t311.length : Int)) = true := decide_eq_true c28
          clear c28
          replace H := Option.bind_eq_some_iff.mp H
          obtain ⟨t315, A290, H⟩ := H
          replace H : ((nat_Nat_Bits.f t315).bind fun t318 => (if t318 > 65536 then (some (([] : List Int), 0, 41)) else (nat_Parse.l1 k2 t311 (t311.length : Int) (wrap64 (x43_2 + 1)) t315))) = some (r1, r2, r3) := H
          have A29 := Aside0.mk A290
          clear A290
          replace H := Option.bind_eq_some_iff.mp H
          obtain ⟨t318, A300, H⟩ := H
          replace H : (if t318 > 65536 then (some (([] : List Int), 0, 41)) else (nat_Parse.l1 k2 t311 (t311.length : Int) (wrap64 (x43_2 + 1)) t315)) = some (r1, r2, r3) := H
          have A30 := Aside0.mk A300
          clear A300
          by_cases c31 : t318 > 65536
          ·rw [if_pos c31] at H
           have c31b0 : decide (65536 < t318) = true := decide_eq_true c31
           clear c31
           simp only [Option.some.injEq, Prod.mk.injEq] at H
           obtain ⟨rfl, rfl, rfl⟩ := H
           have p314 : 0 ≤ (x43_2 : Int) := of_decide_eq_true (by first | (with_reducible assumption) | assumption)
           have q314 : x43_2 < (t311.length : Int) := of_decide_eq_true (by first | (with_reducible assumption) | assumption)
           obtain ⟨ad314, e314, hx314_0⟩ := Kd.at_int (Kd.V_reads' HO_41.out).2.2 x43_2 p314 q314
           cases e314
           replace p314 := eq_true p314
           replace q314 := eq_true q314
           have hnb32 := NB310_309.out
           have hnc32 := NB309_310.out
           have hcz33_0 : wr.cell? ⟨gb310, 0, none⟩ = some (u311000) := (blk_cell BK310.out 0).trans rfl
           have hfz33_0 := blk_frozen BK310.out 0
           obtain ⟨Ao34, co34, eo34⟩ := Kd.V_slice HO_311000.out
           subst eo34
           go_wp2_with (first | ((with_reducible refine gate_callee (f := 49) rfl ?_); refine goesL_ (some 51) rfl rfl Tryd.func49 (by kernel_rfl) rfl #[.agg #[.slice Ao34 x311000_2.length co34], .int .u32 10, .int .u32 (((rd t311 x43_2) - 48) % 256)] rfl (by (try simp only [List.map_toArray, List.map_cons, List.map_nil]); first | done | rfl | (simp only [List.length_drop, List.length_take]; rfl)) ?_; (with_reducible refine (nat_Nat_times.calls k2 _ _ x311000_2 10 (((rd t311 x43_2) - 48) % 256) t315 _ ?side1 ?side2 A29.out).mono ?_); (case side1 => exact (Kd.V_reads' HO_311000.out).2.2); (case side2 => exact (Kd.V_reads' HO_311000.out).2.1); rintro e w35 ⟨v316, rfl, ho0, hb⟩; refine ⟨_, rfl, ?_⟩; have HO317 := Aside0.mk (Kd.V_lower (Kd.V_mono (ok' := fun k_ => (w.heap.size ≤ k_) ∧ k_ ≠ gb309 ∧ k_ ≠ gb310) ho0 (fun k_ hk_ => ⟨(Nat.le_trans (below_size (by repeat (first | exact HB.out | refine sb ?_ GE309 | refine sb ?_ GE310))) hk_), (fb BK309 k_ hk_), (fb BK310 k_ hk_)⟩)) (below_size (by repeat (first | exact HB.out | refine sb ?_ GE309 | refine sb ?_ GE310)))); replace HO_41 := vb HO_41 hb; replace HO_311000 := vb HO_311000 hb; replace BK309 := bb BK309 hb; replace BK310 := bb BK310 hb; replace HB := Aside0.mk (below_step (by repeat (first | exact HB.out | refine sb ?_ GE309 | refine sb ?_ GE310)) hb); (try clear hb); (try clear hk); (try clear hi); (try clear ho0); obtain ⟨Ao36, co36, eo36⟩ := Kd.V_slice HO317.out; subst eo36; have hcz37_0 : w35.cell? ⟨gb310, 0, none⟩ = some (.slice Ao34 x311000_2.length co34) := (blk_cell BK310.out 0).trans rfl; have hfz37_0 := blk_frozen BK310.out 0) | ((with_reducible refine gate_callee (f := 25) rfl ?_); refine goesL_ (some 53) rfl rfl Tryd.func25 (by kernel_rfl) rfl #[.agg #[.slice Ao36 t315.length co36]] rfl (by (try simp only [List.map_toArray, List.map_cons, List.map_nil]); first | done | rfl | (simp only [List.length_drop, List.length_take]; rfl)) ?_; (with_reducible refine (nat_Nat_Bits.calls _ _ t315 t318 _ ?side1 ?side2 A30.out).mono ?_); (case side1 => refine (Kd.V_reads' (e := 79) (base := w.heap.size) (ok := fun k_ => ((w.heap.size ≤ k_) ∧ (k_ ≠ gb309 ∧ k_ ≠ gb310))) (n := t315.length) (c := co36) ?_).2.2; exact (by exact (Kd.V_mono (Kd.V_far (p := ⟨gb310, 0, none⟩) (Kd.V_mono HO317.out (fun k_ hk => (⟨hk, hk.2.2⟩ : _ ∧ k_ ≠ gb310))) (fun _ hk => hk.2) (.slice Ao36 t315.length co36)) (fun _ h_ => h_.1)))); (case side2 => exact (Kd.V_reads' HO317.out).2.1); rintro e w38 ⟨rfl, hb⟩; refine ⟨_, rfl, ?_⟩; replace HO_41 := vf HO_41 (fun k_ hk => hk.2.2) hb; replace HO_311000 := vf HO_311000 (fun k_ hk => hk.2.2) hb; replace HO317 := vf HO317 (fun k_ hk => hk.2.2) hb; replace BK309 := bf BK309 NB309_310 hb; replace BK310 := Aside0.mk (blk_below (g := gb310) (o := .cells #[.slice Ao36 t315.length co36] 26 (0, 0)) (by refine blk_put (cs := #[.slice Ao34 x311000_2.length co34]) ?_ 0 _ rfl; exact BK310.out) hb); replace HB := Aside0.mk (below_step (by repeat (first | exact HB.out | refine sb ?_ GE309 | refine sb ?_ GE310)) hb); (try clear hb); (try clear hb2); (try clear hk); (try clear hi); have hcz39_0 : w38.cell? ⟨gb309, 0, none⟩ = some (.slice none 0 0) := (blk_cell BK309.out 0).trans rfl; have hfz39_0 := blk_frozen BK309.out 0))
           refine bodyPost_ret (results_ctt rfl _ _ gb309 26 #[.slice none 0 0] (0, 0) _ rfl (by refine blk_put (cs := #[.slice none 0 0]) ?_ 0 _ rfl; exact BK309.out) Tryd.underlying26 rfl (by kernel_rfl)) rfl ?_
           exact ⟨_, by first | rfl | (simp [errW_none, errW_some] <;> rfl) | (simp [*, errW_none, errW_some] <;> rfl), Kd.R_V (base := w.heap.size) (by first | exact Kd.R_nil _ _ _ _ (fun _ => False) | exact Kd.R_nil _ _ _ _ _ | exact Kd.N_nil _ _ _ _ _ | exact Kd.V_nil _ _ _ _ _ | exact Kd.Q_nil _ _ _ _ _ | exact Kd.S_nil _ _ _ _ _), by repeat (first | exact HB.out | refine sb ?_ GE309 | refine sb ?_ GE310)⟩
          ·rw [if_neg c31] at H
           have c31b0 : decide (65536 < t318) = false := decide_eq_false c31
           clear c31
           have H' := Aside0.mk H
           clear H
           have p314 : 0 ≤ (x43_2 : Int) := of_decide_eq_true (by first | (with_reducible assumption) | assumption)
           have q314 : x43_2 < (t311.length : Int) := of_decide_eq_true (by first | (with_reducible assumption) | assumption)
           obtain ⟨ad314, e314, hx314_0⟩ := Kd.at_int (Kd.V_reads' HO_41.out).2.2 x43_2 p314 q314
           cases e314
           replace p314 := eq_true p314
           replace q314 := eq_true q314
           have hnb40 := NB310_309.out
           have hnc40 := NB309_310.out
           have hcz41_0 : wr.cell? ⟨gb310, 0, none⟩ = some (u311000) := (blk_cell BK310.out 0).trans rfl
           have hfz41_0 := blk_frozen BK310.out 0
           obtain ⟨Ao42, co42, eo42⟩ := Kd.V_slice HO_311000.out
           subst eo42
           go_wp2_with (first | ((with_reducible refine gate_callee (f := 49) rfl ?_); refine goesL_ (some 51) rfl rfl Tryd.func49 (by kernel_rfl) rfl #[.agg #[.slice Ao42 x311000_2.length co42], .int .u32 10, .int .u32 (((rd t311 x43_2) - 48) % 256)] rfl (by (try simp only [List.map_toArray, List.map_cons, List.map_nil]); first | done | rfl | (simp only [List.length_drop, List.length_take]; rfl)) ?_; (with_reducible refine (nat_Nat_times.calls k2 _ _ x311000_2 10 (((rd t311 x43_2) - 48) % 256) t315 _ ?side1 ?side2 A29.out).mono ?_); (case side1 => exact (Kd.V_reads' HO_311000.out).2.2); (case side2 => exact (Kd.V_reads' HO_311000.out).2.1); rintro e w43 ⟨v316, rfl, ho0, hb⟩; refine ⟨_, rfl, ?_⟩; have HO317 := Aside0.mk (Kd.V_lower (Kd.V_mono (ok' := fun k_ => (w.heap.size ≤ k_) ∧ k_ ≠ gb309 ∧ k_ ≠ gb310) ho0 (fun k_ hk_ => ⟨(Nat.le_trans (below_size (by repeat (first | exact HB.out | refine sb ?_ GE309 | refine sb ?_ GE310))) hk_), (fb BK309 k_ hk_), (fb BK310 k_ hk_)⟩)) (below_size (by repeat (first | exact HB.out | refine sb ?_ GE309 | refine sb ?_ GE310)))); replace HO_41 := vb HO_41 hb; replace HO_311000 := vb HO_311000 hb; replace BK309 := bb BK309 hb; replace BK310 := bb BK310 hb; replace HB := Aside0.mk (below_step (by repeat (first | exact HB.out | refine sb ?_ GE309 | refine sb ?_ GE310)) hb); (try clear hb); (try clear hk); (try clear hi); (try clear ho0); obtain ⟨Ao44, co44, eo44⟩ := Kd.V_slice HO317.out; subst eo44; have hcz45_0 : w43.cell? ⟨gb310, 0, none⟩ = some (.slice Ao42 x311000_2.length co42) := (blk_cell BK310.out 0).trans rfl; have hfz45_0 := blk_frozen BK310.out 0) | ((with_reducible refine gate_callee (f := 25) rfl ?_); refine goesL_ (some 53) rfl rfl Tryd.func25 (by kernel_rfl) rfl #[.agg #[.slice Ao44 t315.length co44]] rfl (by (try simp only [List.map_toArray, List.map_cons, List.map_nil]); first | done | rfl | (simp only [List.length_drop, List.length_take]; rfl)) ?_; (with_reducible refine (nat_Nat_Bits.calls _ _ t315 t318 _ ?side1 ?side2 A30.out).mono ?_); (case side1 => refine (Kd.V_reads' (e := 79) (base := w.heap.size) (ok := fun k_ => ((w.heap.size ≤ k_) ∧ (k_ ≠ gb309 ∧ k_ ≠ gb310))) (n := t315.length) (c := co44) ?_).2.2; exact (by exact (Kd.V_mono (Kd.V_far (p := ⟨gb310, 0, none⟩) (Kd.V_mono HO317.out (fun k_ hk => (⟨hk, hk.2.2⟩ : _ ∧ k_ ≠ gb310))) (fun _ hk => hk.2) (.slice Ao44 t315.length co44)) (fun _ h_ => h_.1)))); (case side2 => exact (Kd.V_reads' HO317.out).2.1); rintro e w46 ⟨rfl, hb⟩; refine ⟨_, rfl, ?_⟩; replace HO_41 := vf HO_41 (fun k_ hk => hk.2.2) hb; replace HO_311000 := vf HO_311000 (fun k_ hk => hk.2.2) hb; replace HO317 := vf HO317 (fun k_ hk => hk.2.2) hb; replace BK309 := bf BK309 NB309_310 hb; replace BK310 := Aside0.mk (blk_below (g := gb310) (o := .cells #[.slice Ao44 t315.length co44] 26 (0, 0)) (by refine blk_put (cs := #[.slice Ao42 x311000_2.length co42]) ?_ 0 _ rfl; exact BK310.out) hb); replace HB := Aside0.mk (below_step (by repeat (first | exact HB.out | refine sb ?_ GE309 | refine sb ?_ GE310)) hb); (try clear hb); (try clear hb2); (try clear hk); (try clear hi)))
           go_roundg k2
           case measure => have := HK1.out; have := HK2.out; omega
           case rel => exact ⟨(wrap64 (x43_2 + 1)), (t315), (.slice Ao44 t315.length co44), (by first | rfl | (simp; done) | (simp [*]; done) | (simp [i64_w]; done) | (simp [*, i64_w]; done)), H', ⟨by have := HK1.out; have := HK2.out; omega⟩, ⟨by exact HO_41.out⟩, ⟨by exact HO317.out⟩, ⟨by exact BK309.out⟩, ⟨by exact BK310.out⟩, ⟨by repeat (first | exact HB.out | refine sb ?_ GE309 | refine sb ?_ GE310)⟩⟩
         ·rw [if_neg c28] at H
          exact absurd H (by simp)
        ·rw [if_neg c27] at H
         exact absurd H (by simp)
       ·rw [if_neg c26] at H
        have c26b0 : decide (x43_2 < (t311.length : Int)) = false := decide_eq_false c26
        clear c26
        simp only [Option.some.injEq, Prod.mk.injEq] at H
        obtain ⟨rfl, rfl, rfl⟩ := H
        have hnb47 := NB310_309.out
        have hnc47 := NB309_310.out
        have hcz48_0 : wr.cell? ⟨gb310, 0, none⟩ = some (u311000) := (blk_cell BK310.out 0).trans rfl
        have hfz48_0 := blk_frozen BK310.out 0
        obtain ⟨Ao49, co49, eo49⟩ := Kd.V_slice HO_311000.out
        subst eo49
        have hcz50_0 : wr.cell? ⟨gb309, 0, none⟩ = some (.slice none 0 0) := (blk_cell BK309.out 0).trans rfl
        have hfz50_0 := blk_frozen BK309.out 0
        go_wp2
        refine bodyPost_ret (results_ctt rfl _ _ gb309 26 #[.slice Ao49 x311000_2.length co49] (0, 0) _ rfl (by refine blk_put (cs := #[.slice none 0 0]) ?_ 0 _ rfl; exact BK309.out) Tryd.underlying26 rfl (by kernel_rfl)) rfl ?_
        exact ⟨_, by first | rfl | (simp [errW_none, errW_some] <;> rfl) | (simp [*, errW_none, errW_some] <;> rfl), by exact Kd.V_mono (Kd.V_far (p := ⟨gb309, 0, none⟩) (Kd.V_mono HO_311000.out (fun k_ hk => (⟨hk, hk.2.1⟩ : _ ∧ k_ ≠ gb309))) (fun _ hk => hk.2) (.slice Ao49 x311000_2.length co49)) (fun _ hk => hk.1.1), by repeat (first | exact HB.out | refine sb ?_ GE309 | refine sb ?_ GE310)⟩
end Go.Proofs.YtgcngbmkgjphpaaDoor.PAll
end

section
namespace Go.Proofs.YtgcngbmkgjphpaaDoor.Nums
open Go.RowKit Go.Proofs.YtgcngbmkgjphpaaDoor.PAll Go.Proofs.YtgcngbmkgjphpaaDoorW.PrintWords Go.Proofs.YtgcngbmkgjphpaaDoorW.PrintLast Go.Proofs.YtgcngbmkgjphpaaDoorW.PrintMore
set_option linter.unusedVariables false
set_option linter.unusedSimpArgs false
/-- The reference's digits of the words. -/
def halves : List Int → List Int
  | [] => []
  | w :: l => w % 65536 :: w / 65536 :: halves l
theorem halves_len : ∀ l : List Int, (halves l).length = 2 * l.length
  | [] => rfl
  | w :: l => by simp [halves, halves_len l]; omega
theorem halves_dg : ∀ l : List Int, Dg (4294967296 : Nat) l → Dg (65536 : Nat) (halves l)
  | [], _ => Dg.nil _
  | w :: l, h => by
    have := h.head
    exact Dg.cons (by omega) (by omega) (Dg.cons (by omega) (by omega) (halves_dg l h.tail))
theorem halves_vl : ∀ l : List Int, vl (65536 : Nat) (halves l) = vl (4294967296 : Nat) l
  | [] => rfl
  | w :: l => by
    have := halves_vl l
    simp only [halves, vl] at *
    omega
theorem words_loop (l : List Int) (hd : Dg (4294967296 : Nat) l) (hl : l.length ≤ 1000000000000) (R : List Int) : ∀ (m i : Nat) (acc : List Int), m = l.length - i → i ≤ l.length → acc.length = 2 * i →
    Ev (fun k => heraldref04_cut.f k (acc ++ halves (l.drop i))) R → Ev (fun k => heraldref04_Words.l0 k acc l (l.length : Int) (i : Int)) R := by
  intro m
  induction m with
  | zero =>
    intro i acc hm hi ha hR
    obtain rfl : i = l.length := by omega
    rw [List.drop_length, halves, List.append_nil] at hR
    refine Ev.step (fun k => ?_) (hR.bind (f := fun _ t => some t) (Ev.now _))
    rw [heraldref04_Words.l0, if_neg (by omega)]
  | succ m ih =>
    intro i acc hm hi ha hR
    have hlt : i < l.length := by omega
    have hx := hd l[i] (List.getElem_mem hlt)
    have h1 := ih (i + 1) (acc ++ [l[i] % 65536, l[i] / 65536]) (by omega) (by omega) (by simp; omega) (by
      rw [List.append_assoc]
      rw [List.drop_eq_getElem_cons hlt, halves] at hR
      exact hR)
    refine Ev.step (fun k => ?_) h1
    have hlen : acc.length + [wrap64 (Int.tmod (rd l (i : Int)) 65536), (Int.tdiv (rd l (i : Int)) 65536) % 4294967296].length < 17592186044416 := by simp; omega
    have e1 : wrap64 (Int.tmod (rd l (i : Int)) 65536) = l[i] % 65536 := by
      rw [rd_at l i hlt, Int.tmod_eq_emod_of_nonneg hx.1, wrap_in (by omega) (by omega)]
    have e2 : (Int.tdiv (rd l (i : Int)) 65536) % 4294967296 = l[i] / 65536 := by
      rw [rd_at l i hlt, Int.tdiv_eq_ediv_of_nonneg hx.1]; omega
    rw [heraldref04_Words.l0, if_pos (by omega), if_pos (by omega), if_pos (by omega), Option.bind_some, if_pos hlen, e1, e2, wrap_in (by omega) (by omega)]
    rfl
theorem words_ev (l : List Int) (v : Nat) (hd : Dg (4294967296 : Nat) l) (hl : l.length ≤ 1000000000000) (hv : vl (4294967296 : Nat) l = v) : Ev (fun k => heraldref04_Words.f k l) (dgs 65536 v) := by
  refine words_loop l hd hl (dgs 65536 v) l.length 0 [] (by omega) (by omega) rfl ?_
  rw [List.drop_zero, List.nil_append]
  exact rcut_ev _ _ v rfl (by rw [halves_len]; omega) (halves_dg l hd) (by rw [halves_vl, hv])
/-- A byte that may stand at a place of a number's text. -/
def Good (s : ByteArray) (i : Nat) : Prop := 48 ≤ bt s (i : Int) ∧ bt s (i : Int) ≤ 57 ∧ ¬ (i = 1 ∧ bt s 0 = 48)
theorem scan_good (s : ByteArray) (hs : s.size ≤ 140737488351232) (hg : ∀ j, j < s.size → Good s j) (R : List Int × Int × Int) (hR : Ev (fun k => nat_Parse.l1 k (bytesOf s) ((bytesOf s).length : Int) 0 []) R) : ∀ (m i : Nat), m = s.size - i → i ≤ s.size →
    Ev (fun k => nat_Parse.l0 k s (s.size : Int) (i : Int)) R := by
  intro m
  induction m with
  | zero =>
    intro i hm hi
    refine Ev.step (fun k => ?_) hR
    have hc : conv_bytes.f s = some (bytesOf s) := by unfold conv_bytes.f; rw [if_pos (by omega)]
    rw [nat_Parse.l0, if_neg (by omega), hc, Option.bind_some]
  | succ m ih =>
    intro i hm hi
    obtain ⟨g1, g2, g3⟩ := hg i (by omega)
    refine Ev.step (fun k => ?_) (ih (i + 1) (by omega) (by omega))
    rw [nat_Parse.l0, if_pos (by omega), if_pos (by omega), if_pos (by omega), if_neg (by omega), if_neg (by omega), wrap_in (by omega) (by omega)]
    by_cases c : i = 1
    · rw [if_pos (by omega), if_pos (by omega), if_neg (fun e => g3 ⟨c, e⟩)]; rfl
    · rw [if_neg (by omega)]; rfl
/-- The number that digits come to, from a number on. -/
def pv (v : Nat) (l : List Int) : Nat := l.foldl (fun v c => 10 * v + (c - 48).toNat) v
theorem pv_cons (v : Nat) (c : Int) (l : List Int) : pv v (c :: l) = pv (10 * v + (c - 48).toNat) l := rfl
theorem pv_le (l : List Int) : ∀ v, v ≤ pv v l := by
  induction l with
  | nil => intro v; exact Nat.le_refl _
  | cons c l ih => intro v; rw [pv_cons]; have := ih (10 * v + (c - 48).toNat); omega
theorem pv_digits : ∀ (l : List Int) (v : Nat), Dg (10 : Nat) l → (pv v ((l.map fun d => 48 + d).reverse) : Int) = v * 10 ^ l.length + vl (10 : Nat) l
  | [], v, _ => by simp [pv, vl]
  | x :: l, v, h => by
    have ih := pv_digits l v h.tail
    have hx := h.head
    have e : pv v (((x :: l).map fun d => 48 + d).reverse) = 10 * pv v ((l.map fun d => 48 + d).reverse) + x.toNat := by
      rw [List.map_cons, List.reverse_cons]
      unfold pv
      rw [List.foldl_append]
      simp only [List.foldl_cons, List.foldl_nil]
      congr 2
      omega
    obtain ⟨V, hV⟩ : ∃ V, vl ((10 : Nat) : Int) l = V := ⟨_, rfl⟩
    rw [hV] at ih
    rw [e, List.length_cons, vl, Int.pow_succ, hV]
    push_cast
    rw [ih]
    have : max x 0 = x := by omega
    rw [Int.mul_add, Int.mul_left_comm]
    have e2 : (v : Int) * (10 ^ l.length * 10) = v * (10 * 10 ^ l.length) := by rw [Int.mul_comm (10 ^ l.length)]
    rw [e2]
    omega
theorem len_ten {b v d k : Nat} (hb : 10 ≤ b) (h : (dgs b v).length ≤ k) (hd : d < 10) : (dgs b (10 * v + d)).length ≤ k + 1 := by
  rw [dgs_len_le (by omega)] at h ⊢
  rw [Nat.pow_succ]
  have h2 := Nat.mul_le_mul_left (b ^ k) hb
  omega
theorem parse_l1 (t : List Int) (hg : ∀ x ∈ t, 48 ≤ x ∧ x ≤ 57) (ht : t.length ≤ 140737488351232) (w : Nat) (R : List Int × Int × Int) (hfit : bl w ≤ 65536 → R = (dgs 4294967296 w, 0, 0)) (hbig : ¬ bl w ≤ 65536 → R = ([], 0, 41)) : ∀ (m i v : Nat), m = t.length - i → i ≤ t.length → bl v ≤ 65536 → pv v (t.drop i) = w →
    Ev (fun k => nat_Parse.l1 k t (t.length : Int) (i : Int) (dgs 4294967296 v)) R := by
  intro m
  induction m with
  | zero =>
    intro i v hm hi hv hw
    rw [List.drop_eq_nil_of_le (by omega)] at hw
    have hw2 : v = w := hw
    subst hw2
    rw [hfit hv]
    refine Ev.step (f := fun _ => some (dgs 4294967296 v, 0, 0)) (fun k => ?_) (Ev.now _)
    rw [nat_Parse.l1, if_neg (by omega)]
  | succ m ih =>
    intro i v hm hi hv hw
    have hlt : i < t.length := by omega
    have hx := hg t[i] (List.getElem_mem hlt)
    rw [List.drop_eq_getElem_cons hlt, pv_cons] at hw
    have lv := pd_len (n := v) (k := 2048) (by omega)
    have hd : ((rd t (i : Int)) - 48) % 256 = (((t[i] - 48).toNat : Nat) : Int) := by rw [rd_at t i hlt]; omega
    have ht2 := times_ev (n := v) (m := 10) (a := (t[i] - 48).toNat) (by omega) (by omega) (by omega)
    have hlen : (dgs 4294967296 (10 * v + (t[i] - 48).toNat)).length ≤ 2048 + 1 := len_ten (by omega) lv (by omega)
    have hb := bits_some (n := 10 * v + (t[i] - 48).toNat) (by omega)
    by_cases g : bl (10 * v + (t[i] - 48).toNat) ≤ 65536
    · have h1 := ih (i + 1) (10 * v + (t[i] - 48).toNat) (by omega) (by omega) g hw
      have h2 : Ev (fun k => (nat_Nat_Bits.f (dgs 4294967296 (10 * v + (t[i] - 48).toNat))).bind fun t318 => (if t318 > 65536 then (some (([] : List Int), 0, 41)) else (nat_Parse.l1 k t (t.length : Int) ((i + 1 : Nat) : Int) (dgs 4294967296 (10 * v + (t[i] - 48).toNat))))) R := by
        refine Ev.congr (fun k => ?_) h1
        rw [hb, Option.bind_some, if_neg (by omega)]
      refine Ev.step (fun k => ?_) (ht2.bind (f := fun k t315 => (nat_Nat_Bits.f t315).bind fun t318 => (if t318 > 65536 then (some (([] : List Int), 0, 41)) else (nat_Parse.l1 k t (t.length : Int) ((i + 1 : Nat) : Int) t315))) h2)
      rw [nat_Parse.l1, if_pos (by omega), if_pos (by omega), if_pos (by omega), hd, wrap_in (by omega) (by omega)]
      rfl
    · have hwb : ¬ bl w ≤ 65536 := by
        have := bl_mono (pv_le (t.drop (i + 1)) (10 * v + (t[i] - 48).toNat))
        rw [hw] at this
        omega
      rw [hbig hwb]
      have h2 : Ev (fun k => (nat_Nat_Bits.f (dgs 4294967296 (10 * v + (t[i] - 48).toNat))).bind fun t318 => (if t318 > 65536 then (some (([] : List Int), 0, 41)) else (nat_Parse.l1 k t (t.length : Int) ((i + 1 : Nat) : Int) (dgs 4294967296 (10 * v + (t[i] - 48).toNat))))) (([] : List Int), 0, 41) := by
        refine Ev.congr (fun k => ?_) (Ev.now _)
        rw [hb, Option.bind_some, if_pos (by omega)]
      refine Ev.step (fun k => ?_) (ht2.bind (f := fun k t315 => (nat_Nat_Bits.f t315).bind fun t318 => (if t318 > 65536 then (some (([] : List Int), 0, 41)) else (nat_Parse.l1 k t (t.length : Int) ((i + 1 : Nat) : Int) t315))) h2)
      rw [nat_Parse.l1, if_pos (by omega), if_pos (by omega), if_pos (by omega), hd, wrap_in (by omega) (by omega)]
      rfl
end Go.Proofs.YtgcngbmkgjphpaaDoor.Nums
end

section
namespace Go.Proofs.YtgcngbmkgjphpaaDoor.PAll
open Go.RowKit Go.Proofs.YtgcngbmkgjphpaaDoorW.PrintWords Go.Proofs.YtgcngbmkgjphpaaDoorW.PrintLast Go.Proofs.YtgcngbmkgjphpaaDoorW.PrintMore
attribute [local go_sem] max2_int min2_int max_two min_two max_three min_three max_four min_four   -- for this text's walks alone
set_option linter.unusedVariables false
set_option linter.unusedSimpArgs false
def heraldlaw04_given.f (k : Nat) (l0 : List Int) : Option (List Int × List Int × Bool × Bool) := (heraldref04_Words.f k l0).bind fun t375 => ((heraldref04_Fit.f k t375).bind fun bt378 => ((heraldref04_Text.f k t375).bind fun t382 => ((nat_Parse.f k t382).bind fun bt383 => (if bt383.2.2 = bt378.2 then (some (t375, bt383.1, (bt378.2 == 0), (bt383.2.1 == 0))) else (some (t375, bt383.1, (bt378.2 == 0), false))))))
def heraldlaw04_given.T4 : Bool × List (List Nat × List Nat) := (true, [([], []), ([], []), ([], []), ([2], [2]), ([], []), ([], []), ([4, 5], [4, 5]), ([6], [6]), ([7], [7]), ([8, 7], [7, 8]), ([7, 9], [7, 9]), ([0, 7, 0], [0]), ([1, 11, 0, 1, 11], [1]), ([3, 12, 0, 1, 2, 3, 11, 12], [3]), ([10, 13, 0, 1, 2, 3, 4, 5, 6, 7, 8, 9, 10, 11, 12, 13], [10])])
def heraldlaw04_given.B4 : List Nat := [0, 0, 0, 4, 0, 0, 48, 112, 240, 496, 1008, 241, 2291, 6399, 16383]
theorem heraldlaw04_given.tab4 : rtab .any (opsOf Tryd.f21 4) = heraldlaw04_given.T4 := by kernel_rfl
theorem heraldlaw04_given.bits4 : waitsOk heraldlaw04_given.T4.2 heraldlaw04_given.B4 = true := by kernel_rfl
set_option maxHeartbeats 8000000 in
set_option maxRecDepth 100000 in
theorem heraldlaw04_given.calls (k : Nat) (A0 : Option Addr) (c0 : Nat) (l0 : List Int) (r1 : List Int) (r2 : List Int) (r3 : Bool) (r4 : Bool) (w : World) (hr0 : Kd.C (Kd.int .u32) w A0 l0.length l0) (hc0 : l0.length ≤ c0) (h : heraldlaw04_given.f k l0 = some (r1, r2, r3, r4)) :
  Calls Tryd.prog 21 #[.slice A0 l0.length c0] w fun e w' => ∃ v0_ v1_ : Value, e = .returned (.tuple #[v0_, .agg #[v1_], .bool r3, .bool r4]) ∧ Kd.V (Kd.int .i64) 3 w' w.heap.size (fun k_ => (w.heap.size ≤ k_)) v0_ r1 ∧ Kd.V (Kd.int .u32) 79 w' w.heap.size (fun k_ => (w.heap.size ≤ k_)) v1_ r2 ∧ Below w.heap.size w w' := by
 have hu26 := Tryd.underlying26
 have HR0 := Aside0.mk hr0
 have HC0 := Aside0.mk hc0
 clear hr0 hc0
 have HB := Aside0.mk (Below.refl w.heap.size w)
 have H : ((heraldref04_Words.f k l0).bind fun t375 => ((heraldref04_Fit.f k t375).bind fun bt378 => ((heraldref04_Text.f k t375).bind fun t382 => ((nat_Parse.f k t382).bind fun bt383 => (if bt383.2.2 = bt378.2 then (some (t375, bt383.1, (bt378.2 == 0), (bt383.2.1 == 0))) else (some (t375, bt383.1, (bt378.2 == 0), false))))))) = some (r1, r2, r3, r4) := h
 clear h
 replace H := Option.bind_eq_some_iff.mp H
 obtain ⟨t375, A20, H⟩ := H
 replace H : ((heraldref04_Fit.f k t375).bind fun bt378 => ((heraldref04_Text.f k t375).bind fun t382 => ((nat_Parse.f k t382).bind fun bt383 => (if bt383.2.2 = bt378.2 then (some (t375, bt383.1, (bt378.2 == 0), (bt383.2.1 == 0))) else (some (t375, bt383.1, (bt378.2 == 0), false)))))) = some (r1, r2, r3, r4) := H
 have A2 := Aside0.mk A20
 clear A20
 replace H := Option.bind_eq_some_iff.mp H
 obtain ⟨⟨t378, t381⟩, A30, H⟩ := H
 replace H : ((heraldref04_Text.f k t375).bind fun t382 => ((nat_Parse.f k t382).bind fun bt383 => (if bt383.2.2 = t381 then (some (t375, bt383.1, (t381 == 0), (bt383.2.1 == 0))) else (some (t375, bt383.1, (t381 == 0), false))))) = some (r1, r2, r3, r4) := H
 have A3 := Aside0.mk A30
 clear A30
 replace H := Option.bind_eq_some_iff.mp H
 obtain ⟨t382, A40, H⟩ := H
 replace H : ((nat_Parse.f k t382).bind fun bt383 => (if bt383.2.2 = t381 then (some (t375, bt383.1, (t381 == 0), (bt383.2.1 == 0))) else (some (t375, bt383.1, (t381 == 0), false)))) = some (r1, r2, r3, r4) := H
 have A4 := Aside0.mk A40
 clear A40
 replace H := Option.bind_eq_some_iff.mp H
 obtain ⟨⟨t383, t386, t387⟩, A50, H⟩ := H
 replace H : (if t387 = t381 then (some (t375, t383, (t381 == 0), (t386 == 0))) else (some (t375, t383, (t381 == 0), false))) = some (r1, r2, r3, r4) := H
 have A5 := Aside0.mk A50
 clear A50
 by_cases c6 : t387 = t381
 ·rw [if_pos c6] at H
  have c6b0 : (t387 == t381) = true := beq_iff_eq.mpr c6
  have c6b1 : (t387 != t381) = false := bne_eq_false_iff_eq.mpr c6
  clear c6
  simp only [Option.some.injEq, Prod.mk.injEq] at H
  obtain ⟨rfl, rfl, rfl, rfl⟩ := H
  go_enter Tryd.func21, Tryd.ntmps21
  try go_wp2_with (first | ((with_reducible refine gate_dst (N := 3) rfl ?_); refine box_event ?hg (N := 3) ?hd (cs := #[.slice none 0 0]) (t := 26) ?hr ?_; (case hd => rfl); (case hg => rfl); (case hr => first | (go_simp; done) | (go_simp; rfl)); intro gb374 hg w7 hbox hb; have BK374 := Aside0.mk (hbox); have GW374 := Aside0.mk ((by rw [hg]; exact (below_size HB.out) : w.heap.size ≤ gb374)); have GE374 := Aside0.mk ((by rw [hg]; exact (below_size HB.out) : w.heap.size ≤ gb374)); replace HB := Aside0.mk (below_step HB.out hb); clear hb hbox hg) | ((with_reducible refine gate_callee (f := 53) rfl ?_); refine goesL_ (some 13) rfl rfl Tryd.func53 (by kernel_rfl) rfl #[.slice A0 l0.length c0] rfl (by (try simp only [List.map_toArray, List.map_cons, List.map_nil]); first | done | rfl | (simp only [List.length_drop, List.length_take]; rfl)) ?_; (with_reducible refine (heraldref04_Words.calls k _ _ l0 t375 _ ?side1 ?side2 A2.out).mono ?_); (case side1 => repeat (first | exact (Kd.C_below HR0.out HB.out) | (with_reducible refine Kd.C_alloc ?_ _) | (with_reducible refine Kd.C_drewN ?_ _) | (with_reducible refine Kd.C_drew ?_))); (case side2 => exact HC0.out); rintro e w8 ⟨v376, rfl, ho0, hb⟩; refine ⟨_, rfl, ?_⟩; have HO377 := Aside0.mk (Kd.V_lower (Kd.V_mono (ok' := fun k_ => (w.heap.size ≤ k_) ∧ k_ ≠ gb374) ho0 (fun k_ hk_ => ⟨(Nat.le_trans (below_size (by repeat (first | exact HB.out | refine sb ?_ GE374))) hk_), (fb BK374 k_ hk_)⟩)) (below_size (by repeat (first | exact HB.out | refine sb ?_ GE374)))); replace BK374 := bb BK374 hb; replace HB := Aside0.mk (below_step (by repeat (first | exact HB.out | refine sb ?_ GE374)) hb); (try clear hb); (try clear hk); (try clear hi); (try clear ho0); obtain ⟨Ao9, co9, eo9⟩ := Kd.V_slice HO377.out; subst eo9) | ((with_reducible refine gate_callee (f := 54) rfl ?_); refine goesL_ (some 16) rfl rfl Tryd.func54 (by kernel_rfl) rfl #[.slice Ao9 t375.length co9] rfl (by (try simp only [List.map_toArray, List.map_cons, List.map_nil]); first | done | rfl | (simp only [List.length_drop, List.length_take]; rfl)) ?_; (with_reducible refine (heraldref04_Fit.calls k (fun k_ => ((w.heap.size ≤ k_) ∧ k_ ≠ gb374)) _ _ t375 t378 t381 _ ?side1 A3.out).mono ?_); (case side1 => exact HO377.out); rintro e w10 ⟨v379, rfl, ho0, hb⟩; refine ⟨_, rfl, ?_⟩; have HO380 := Aside0.mk (Kd.V_lower (Kd.V_mono (ok' := fun k_ => (w.heap.size ≤ k_) ∧ k_ ≠ gb374) ho0 (fun k_ hk_ => ⟨Or.elim hk_ (fun hs_ => hs_.1) (fun hn_ => (Nat.le_trans (below_size (by repeat (first | exact HB.out | refine sb ?_ GE374))) hn_)), Or.elim hk_ (fun hs_ => hs_.2) (fun hn_ => (Kd.freshB (g := gb374) (o := .cells #[.slice none 0 0] 26 (0, 0)) BK374.out k_ hn_))⟩)) (below_size (by repeat (first | exact HB.out | refine sb ?_ GE374)))); replace HO377 := vb HO377 hb; replace BK374 := bb BK374 hb; replace HB := Aside0.mk (below_step (by repeat (first | exact HB.out | refine sb ?_ GE374)) hb); (try clear hb); (try clear hk); (try clear hi); (try clear ho0)) | ((with_reducible refine gate_callee (f := 24) rfl ?_); refine goesL_ (some 21) rfl rfl Tryd.func24 (by kernel_rfl) rfl #[.slice Ao9 t375.length co9] rfl (by (try simp only [List.map_toArray, List.map_cons, List.map_nil]); first | done | rfl | (simp only [List.length_drop, List.length_take]; rfl)) ?_; (with_reducible refine (heraldref04_Text.calls k (fun k_ => ((w.heap.size ≤ k_) ∧ k_ ≠ gb374)) _ _ t375 t382 _ ?side1 A4.out).mono ?_); (case side1 => exact HO377.out); rintro e w11 ⟨rfl, hb⟩; refine ⟨_, rfl, ?_⟩; replace HO377 := vb HO377 hb; replace HO380 := vb HO380 hb; replace BK374 := bb BK374 hb; replace HB := Aside0.mk (below_step (by repeat (first | exact HB.out | refine sb ?_ GE374)) hb); (try clear hb); (try clear hb2); (try clear hk); (try clear hi)) | ((with_reducible refine gate_callee (f := 18) rfl ?_); refine goesL_ (some 22) rfl rfl Tryd.func18 (by kernel_rfl) rfl #[.string t382] rfl (by (try simp only [List.map_toArray, List.map_cons, List.map_nil]); first | done | rfl | (simp only [List.length_drop, List.length_take]; rfl)) ?_; (with_reducible refine (nat_Parse.calls k t382 t383 t386 t387 _ A5.out).mono ?_); rintro e w12 ⟨v384, rfl, ho0, hb⟩; refine ⟨_, rfl, ?_⟩; have HO385 := Aside0.mk (Kd.V_lower (Kd.V_mono (ok' := fun k_ => (w.heap.size ≤ k_) ∧ k_ ≠ gb374) ho0 (fun k_ hk_ => ⟨(Nat.le_trans (below_size (by repeat (first | exact HB.out | refine sb ?_ GE374))) hk_), (fb BK374 k_ hk_)⟩)) (below_size (by repeat (first | exact HB.out | refine sb ?_ GE374)))); replace HO377 := vb HO377 hb; replace HO380 := vb HO380 hb; replace BK374 := bb BK374 hb; replace HB := Aside0.mk (below_step (by repeat (first | exact HB.out | refine sb ?_ GE374)) hb); (try clear hb); (try clear hk); (try clear hi); (try clear ho0)) | ((with_reducible refine gate_dst (N := 9) rfl ?_); refine box_event ?hg (N := 9) ?hd (cs := #[.slice none 0 0]) (t := 26) ?hr ?_; (case hd => rfl); (case hg => rfl); (case hr => first | (go_simp; done) | (go_simp; rfl)); intro gb388 hg w13 hbox hb; have BK388 := Aside0.mk (hbox); have GW388 := Aside0.mk ((by rw [hg]; exact (below_size (by repeat (first | exact HB.out | refine sb ?_ GE374))) : w.heap.size ≤ gb388)); have GE388 := Aside0.mk ((by rw [hg]; exact (below_size (by repeat (first | exact HB.out | refine sb ?_ GE374))) : w.heap.size ≤ gb388)); have NB374_388 := nl BK374 hg; have NB388_374 := ng BK374 hg; replace HO377 := ve HO377 gb388 hg hb; replace HO380 := ve HO380 gb388 hg hb; replace HO385 := ve HO385 gb388 hg hb; replace BK374 := bb BK374 hb; replace HB := Aside0.mk (below_step (by repeat (first | exact HB.out | refine sb ?_ GE374)) hb); clear hb hbox hg; obtain ⟨Ao14, co14, eo14⟩ := Kd.V_slice HO385.out; subst eo14; have hnb15 := NB388_374.out; have hnc15 := NB374_388.out; have hcz16_0 : w13.cell? ⟨gb388, 0, none⟩ = some (.slice none 0 0) := (blk_cell BK388.out 0).trans rfl; have hfz16_0 := blk_frozen BK388.out 0))
  have n0_ : Aside0 (Kd.V (Kd.int .i64) 3 (w13.setCell ⟨gb388, 0, none⟩ (.slice Ao14 t383.length co14)) w.heap.size (fun k_ => (w.heap.size ≤ k_) ∧ k_ ≠ gb374 ∧ k_ ≠ gb388) (.slice Ao9 t375.length co9) t375) := ⟨by exact Kd.V_mono (Kd.V_far (p := ⟨gb388, 0, none⟩) (Kd.V_mono HO377.out (fun k_ hk => (⟨hk, hk.2⟩ : _ ∧ k_ ≠ gb388))) (fun _ hk => hk.2) (.slice Ao14 t383.length co14)) (fun _ hk => ⟨hk.1.1.1, ⟨hk.1.1.2, hk.1.2⟩⟩)⟩
  have n1_ : Aside0 (Kd.V (Kd.int .i64) 3 (w13.setCell ⟨gb388, 0, none⟩ (.slice Ao14 t383.length co14)) w.heap.size (fun k_ => (w.heap.size ≤ k_) ∧ k_ ≠ gb374 ∧ k_ ≠ gb388) v379 t378) := ⟨by exact Kd.V_mono (Kd.V_far (p := ⟨gb388, 0, none⟩) (Kd.V_mono HO380.out (fun k_ hk => (⟨hk, hk.2⟩ : _ ∧ k_ ≠ gb388))) (fun _ hk => hk.2) (.slice Ao14 t383.length co14)) (fun _ hk => ⟨hk.1.1.1, ⟨hk.1.1.2, hk.1.2⟩⟩)⟩
  have n2_ : Aside0 (Kd.V (Kd.int .u32) 79 (w13.setCell ⟨gb388, 0, none⟩ (.slice Ao14 t383.length co14)) w.heap.size (fun k_ => (w.heap.size ≤ k_) ∧ k_ ≠ gb374 ∧ k_ ≠ gb388) (.slice Ao14 t383.length co14) t383) := ⟨by exact Kd.V_mono (Kd.V_far (p := ⟨gb388, 0, none⟩) (Kd.V_mono HO385.out (fun k_ hk => (⟨hk, hk.2⟩ : _ ∧ k_ ≠ gb388))) (fun _ hk => hk.2) (.slice Ao14 t383.length co14)) (fun _ hk => ⟨hk.1.1.1, ⟨hk.1.1.2, hk.1.2⟩⟩)⟩
  have n3_ : Aside0 ((w13.setCell ⟨gb388, 0, none⟩ (.slice Ao14 t383.length co14)).heap[gb374]? = some (.cells #[.slice none 0 0] 26 (0, 0))) := ⟨by refine blk_far ?_ NB374_388.out _; exact BK374.out⟩
  have n4_ : Aside0 ((w13.setCell ⟨gb388, 0, none⟩ (.slice Ao14 t383.length co14)).heap[gb388]? = some (.cells #[.slice Ao14 t383.length co14] 26 (0, 0))) := ⟨by refine blk_put (cs := #[.slice none 0 0]) ?_ 0 _ rfl; exact BK388.out⟩
  have n5_ : Aside0 (Below w.heap.size w (w13.setCell ⟨gb388, 0, none⟩ (.slice Ao14 t383.length co14))) := ⟨by repeat (first | exact HB.out | refine sb ?_ GE374 | refine sb ?_ GE388)⟩
  (try clear HO377)
  (try clear HO380)
  (try clear HO385)
  (try clear BK374)
  (try clear BK388)
  (try clear HB)
  generalize (w13.setCell ⟨gb388, 0, none⟩ (.slice Ao14 t383.length co14)) = w17 at n0_ n1_ n2_ n3_ n4_ n5_ ⊢
  have HO377 := n0_
  have HO380 := n1_
  have HO385 := n2_
  have BK374 := n3_
  have BK388 := n4_
  have HB := n5_
  clear n0_ n1_ n2_ n3_ n4_ n5_
  replace HO377 := Aside0.mk (Kd.V_drew HO377.out)
  replace HO380 := Aside0.mk (Kd.V_drew HO380.out)
  replace HO385 := Aside0.mk (Kd.V_drew HO385.out)
  replace BK374 := Aside0.mk (blk_drew BK374.out)
  replace BK388 := Aside0.mk (blk_drew BK388.out)
  replace HB := Aside0.mk (below_drew1 HB.out)
  refine start_ (n := 15) (S := fun w' => w'.cell? ⟨gb388, 0, none⟩ = some (.slice Ao14 t383.length co14)) (ds := []) #[false, false, false, false, false, false, false, false, false, false, false, false, false, false, false] (by kernel_rfl) rfl rfl ((blk_cell BK388.out 0).trans rfl) (fun hHeld => ?_); refine with_tabW heraldlaw04_given.tab4 heraldlaw04_given.bits4 (fun HT_ HW_ => ?_)
  generalize w17.drew = w18 at HO377 HO380 HO385 BK374 BK388 HB hHeld ⊢
  refine pure_ (i := 0) (N := some 26) (v := ?_) (a' := ?_) #[true, false, false, false, false, false, false, false, false, false, false, false, false, false, false] rfl rfl (any_of HT_.out (by kernel_rfl)) (fun _ _ _ h => h) (Or.inl ⟨by rfl, ?_⟩) ?_ ?_
  rotate_left
  ·intro w'
   go_simp
   with_reducible rfl
  rotate_left
  ·simp only [Act.put, sa, sz, ss, i64_w, i32_w]
   rfl
  refine pure_ (i := 2) (N := some 28) (v := ?_) (a' := ?_) #[true, false, true, false, false, false, false, false, false, false, false, false, false, false, false] rfl rfl (any_of HT_.out (by kernel_rfl)) (fun _ _ _ h => h) (Or.inl ⟨by rfl, ?_⟩) ?_ ?_
  rotate_left
  ·intro w'
   go_simp
   with_reducible rfl
  rotate_left
  ·simp only [Act.put, sa, sz, ss, i64_w, i32_w]
   rfl
  refine pure_ (i := 3) (N := some 29) (v := ?_) (a' := ?_) #[true, false, true, true, false, false, false, false, false, false, false, false, false, false, false] rfl rfl (any_of HT_.out (by kernel_rfl)) (fun _ _ _ h => h) (Or.inl ⟨by rfl, ?_⟩) ?_ ?_
  rotate_left
  ·intro w'
   go_simp
   with_reducible rfl
  rotate_left
  ·simp only [Act.put, sa, sz, ss, i64_w, i32_w]
   rfl
  refine pure_ (i := 4) (N := some 30) (v := ?_) (a' := ?_) #[true, false, true, true, true, false, false, false, false, false, false, false, false, false, false] rfl rfl (any_of HT_.out (by kernel_rfl)) (fun _ _ _ h => h) (Or.inl ⟨by rfl, ?_⟩) ?_ ?_
  rotate_left
  ·intro w'
   go_simp
   with_reducible rfl
  rotate_left
  ·simp only [Act.put, sa, sz, ss, i64_w, i32_w]
   rfl
  refine pure_ (i := 5) (N := some 31) (v := ?_) (a' := ?_) #[true, false, true, true, true, true, false, false, false, false, false, false, false, false, false] rfl rfl (any_of HT_.out (by kernel_rfl)) (fun _ _ _ h => h) (Or.inl ⟨by rfl, ?_⟩) ?_ ?_
  rotate_left
  ·intro w'
   go_simp
   with_reducible rfl
  rotate_left
  ·simp only [Act.put, sa, sz, ss, i64_w, i32_w]
   rfl
  refine pure_ (i := 6) (N := some 32) (v := ?_) (a' := ?_) #[true, false, true, true, true, true, true, false, false, false, false, false, false, false, false] rfl rfl (any_of HT_.out (by kernel_rfl)) (fun _ _ _ h => h) (Or.inl ⟨by rfl, ?_⟩) ?_ ?_
  rotate_left
  ·intro w'
   go_simp
   with_reducible rfl
  rotate_left
  ·simp only [Act.put, sa, sz, ss, i64_w, i32_w]
   rfl
  refine pure_ (i := 7) (N := some 33) (v := ?_) (a' := ?_) #[true, false, true, true, true, true, true, true, false, false, false, false, false, false, false] rfl rfl (any_of HT_.out (by kernel_rfl)) (fun _ _ _ h => h) (Or.inl ⟨by rfl, ?_⟩) ?_ ?_
  rotate_left
  ·intro w'
   go_simp
   with_reducible rfl
  rotate_left
  ·simp only [Act.put, sa, sz, ss, i64_w, i32_w]
   rfl
  refine pure_ (i := 8) (N := some 34) (v := ?_) (a' := ?_) #[true, false, true, true, true, true, true, true, true, false, false, false, false, false, false] rfl rfl (any_of HT_.out (by kernel_rfl)) (fun _ _ _ h => h) (Or.inl ⟨by rfl, ?_⟩) ?_ ?_
  rotate_left
  ·intro w'
   go_simp
   with_reducible rfl
  rotate_left
  ·simp only [Act.put, sa, sz, ss, i64_w, i32_w]
   rfl
  refine pure_ (i := 9) (N := some 35) (v := ?_) (a' := ?_) #[true, false, true, true, true, true, true, true, true, true, false, false, false, false, false] rfl rfl (any_of HT_.out (by kernel_rfl)) (fun _ _ _ h => h) (Or.inl ⟨by rfl, ?_⟩) ?_ ?_
  rotate_left
  ·intro w'
   go_simp
   with_reducible rfl
  rotate_left
  ·simp only [Act.put, sa, sz, ss, i64_w, i32_w]
   rfl
  refine pure_ (i := 10) (N := some 36) (v := ?_) (a' := ?_) #[true, false, true, true, true, true, true, true, true, true, true, false, false, false, false] rfl rfl (any_of HT_.out (by kernel_rfl)) (fun _ _ _ h => h) (Or.inl ⟨by rfl, ?_⟩) ?_ ?_
  rotate_left
  ·intro w'
   go_simp
   with_reducible rfl
  rotate_left
  ·simp only [Act.put, sa, sz, ss, i64_w, i32_w]
   rfl
  refine pure_ (i := 11) (N := some 2) (v := ?_) (a' := ?_) #[true, false, true, true, true, true, true, true, true, true, true, true, false, false, false] rfl rfl (any_of HT_.out (by kernel_rfl)) (fun _ _ _ h => h) (Or.inl ⟨by rfl, ?_⟩) ?_ ?_
  rotate_left
  ·intro w'
   go_simp
   with_reducible rfl
  rotate_left
  ·simp only [Act.put, sa, sz, ss, i64_w, i32_w]
   rfl
  refine take_ (i := 1) (N := some 27) (v := ?_) (a' := ?_) #[true, true, true, true, true, true, true, true, true, true, true, true, false, false, false] rfl rfl (take_ofW HT_.out HW_.out (by kernel_rfl)) (fun _ _ _ h => h) (Or.inl ⟨by rfl, ?_⟩) hHeld ?_ ?_
  rotate_left
  ·intro w' s0
   go_simp
   with_reducible rfl
  rotate_left
  ·simp only [Act.put, sa, sz, ss, i64_w, i32_w]
   rfl
  refine one_ (i := 12) (N := none) #[true, true, true, true, true, true, true, true, true, true, true, true, true, false, false] rfl rfl (one_of HT_.out (by kernel_rfl)) (by decide) (fun K hK => ?_)
  have hs19 : w18.cell? ⟨gb374, 0, none⟩ = some (.slice none 0 0) := (blk_cell BK374.out 0).trans rfl
  have hfs19 := blk_frozen BK374.out 0
  have hns19_1 := NB388_374.out
  have hms19_1 := NB374_388.out
  refine skip_ (w1 := ?_) (by rfl) rfl ?_ ?_
  rotate_left
  ·go_simp
   rfl
  refine hK.out _ _ (((cell_far (p := ⟨gb374, _, none⟩) NB388_374.out _).trans (hHeld))) (fun hHeld => ?_)
  clear hK K
  refine pure_ (i := 13) (N := some 4) (v := ?_) (a' := ?_) #[true, true, true, true, true, true, true, true, true, true, true, true, true, true, false] rfl rfl (any_of HT_.out (by kernel_rfl)) (fun _ _ _ h => h) (Or.inl ⟨by rfl, ?_⟩) ?_ ?_
  rotate_left
  ·intro w'
   go_simp
   with_reducible rfl
  rotate_left
  ·simp only [Act.put, sa, sz, ss, i64_w, i32_w]
   rfl
  refine pure_ (i := 14) (N := some 5) (v := ?_) (a' := ?_) #[true, true, true, true, true, true, true, true, true, true, true, true, true, true, true] rfl rfl (any_of HT_.out (by kernel_rfl)) (fun _ _ _ h => h) (Or.inl ⟨by rfl, ?_⟩) ?_ ?_
  rotate_left
  ·intro w'
   go_simp
   with_reducible rfl
  rotate_left
  ·simp only [Act.put, sa, sz, ss, i64_w, i32_w]
   rfl
  refine done_ (done_of HT_.out (by kernel_rfl)) ?_
  try go_wp2
  refine bodyPost_ret (results_list (rs := [.tmp 2, .cell 3 26, .tmp 4, .tmp 5]) rfl (by simp) (.tmp (.cell gb374 26 #[.slice Ao14 t383.length co14] (0, 0) _ rfl (by refine blk_put (cs := #[.slice none 0 0]) ?_ 0 _ rfl; exact BK374.out) Tryd.underlying26 rfl (by kernel_rfl) (.tmp (.tmp .nil))))) rfl ?_
  exact ⟨_, _, by first | rfl | (simp [errW_none, errW_some] <;> rfl) | (simp [*, errW_none, errW_some] <;> rfl), by exact Kd.V_mono (Kd.V_far (p := ⟨gb374, 0, none⟩) (Kd.V_mono HO377.out (fun k_ hk => (⟨hk, hk.2.1⟩ : _ ∧ k_ ≠ gb374))) (fun _ hk => hk.2) (.slice Ao14 t383.length co14)) (fun _ hk => hk.1.1), by exact Kd.V_mono (Kd.V_far (p := ⟨gb374, 0, none⟩) (Kd.V_mono HO385.out (fun k_ hk => (⟨hk, hk.2.1⟩ : _ ∧ k_ ≠ gb374))) (fun _ hk => hk.2) (.slice Ao14 t383.length co14)) (fun _ hk => hk.1.1), by repeat (first | exact HB.out | refine sb ?_ GE374 | refine sb ?_ GE388)⟩
 ·rw [if_neg c6] at H
  have c6b0 : (t387 == t381) = false := beq_eq_false_iff_ne.mpr c6
  have c6b1 : (t387 != t381) = true := bne_iff_ne.mpr c6
  simp only [Option.some.injEq, Prod.mk.injEq] at H
  obtain ⟨rfl, rfl, rfl, rfl⟩ := H
  go_enter Tryd.func21, Tryd.ntmps21
  try go_wp2_with (first | ((with_reducible refine gate_dst (N := 3) rfl ?_); refine box_event ?hg (N := 3) ?hd (cs := #[.slice none 0 0]) (t := 26) ?hr ?_; (case hd => rfl); (case hg => rfl); (case hr => first | (go_simp; done) | (go_simp; rfl)); intro gb374 hg w20 hbox hb; have BK374 := Aside0.mk (hbox); have GW374 := Aside0.mk ((by rw [hg]; exact (below_size HB.out) : w.heap.size ≤ gb374)); have GE374 := Aside0.mk ((by rw [hg]; exact (below_size HB.out) : w.heap.size ≤ gb374)); replace HB := Aside0.mk (below_step HB.out hb); clear hb hbox hg) | ((with_reducible refine gate_callee (f := 53) rfl ?_); refine goesL_ (some 13) rfl rfl Tryd.func53 (by kernel_rfl) rfl #[.slice A0 l0.length c0] rfl (by (try simp only [List.map_toArray, List.map_cons, List.map_nil]); first | done | rfl | (simp only [List.length_drop, List.length_take]; rfl)) ?_; (with_reducible refine (heraldref04_Words.calls k _ _ l0 t375 _ ?side1 ?side2 A2.out).mono ?_); (case side1 => repeat (first | exact (Kd.C_below HR0.out HB.out) | (with_reducible refine Kd.C_alloc ?_ _) | (with_reducible refine Kd.C_drewN ?_ _) | (with_reducible refine Kd.C_drew ?_))); (case side2 => exact HC0.out); rintro e w21 ⟨v376, rfl, ho0, hb⟩; refine ⟨_, rfl, ?_⟩; have HO377 := Aside0.mk (Kd.V_lower (Kd.V_mono (ok' := fun k_ => (w.heap.size ≤ k_) ∧ k_ ≠ gb374) ho0 (fun k_ hk_ => ⟨(Nat.le_trans (below_size (by repeat (first | exact HB.out | refine sb ?_ GE374))) hk_), (fb BK374 k_ hk_)⟩)) (below_size (by repeat (first | exact HB.out | refine sb ?_ GE374)))); replace BK374 := bb BK374 hb; replace HB := Aside0.mk (below_step (by repeat (first | exact HB.out | refine sb ?_ GE374)) hb); (try clear hb); (try clear hk); (try clear hi); (try clear ho0); obtain ⟨Ao22, co22, eo22⟩ := Kd.V_slice HO377.out; subst eo22) | ((with_reducible refine gate_callee (f := 54) rfl ?_); refine goesL_ (some 16) rfl rfl Tryd.func54 (by kernel_rfl) rfl #[.slice Ao22 t375.length co22] rfl (by (try simp only [List.map_toArray, List.map_cons, List.map_nil]); first | done | rfl | (simp only [List.length_drop, List.length_take]; rfl)) ?_; (with_reducible refine (heraldref04_Fit.calls k (fun k_ => ((w.heap.size ≤ k_) ∧ k_ ≠ gb374)) _ _ t375 t378 t381 _ ?side1 A3.out).mono ?_); (case side1 => exact HO377.out); rintro e w23 ⟨v379, rfl, ho0, hb⟩; refine ⟨_, rfl, ?_⟩; have HO380 := Aside0.mk (Kd.V_lower (Kd.V_mono (ok' := fun k_ => (w.heap.size ≤ k_) ∧ k_ ≠ gb374) ho0 (fun k_ hk_ => ⟨Or.elim hk_ (fun hs_ => hs_.1) (fun hn_ => (Nat.le_trans (below_size (by repeat (first | exact HB.out | refine sb ?_ GE374))) hn_)), Or.elim hk_ (fun hs_ => hs_.2) (fun hn_ => (Kd.freshB (g := gb374) (o := .cells #[.slice none 0 0] 26 (0, 0)) BK374.out k_ hn_))⟩)) (below_size (by repeat (first | exact HB.out | refine sb ?_ GE374)))); replace HO377 := vb HO377 hb; replace BK374 := bb BK374 hb; replace HB := Aside0.mk (below_step (by repeat (first | exact HB.out | refine sb ?_ GE374)) hb); (try clear hb); (try clear hk); (try clear hi); (try clear ho0)) | ((with_reducible refine gate_callee (f := 24) rfl ?_); refine goesL_ (some 21) rfl rfl Tryd.func24 (by kernel_rfl) rfl #[.slice Ao22 t375.length co22] rfl (by (try simp only [List.map_toArray, List.map_cons, List.map_nil]); first | done | rfl | (simp only [List.length_drop, List.length_take]; rfl)) ?_; (with_reducible refine (heraldref04_Text.calls k (fun k_ => ((w.heap.size ≤ k_) ∧ k_ ≠ gb374)) _ _ t375 t382 _ ?side1 A4.out).mono ?_); (case side1 => exact HO377.out); rintro e w24 ⟨rfl, hb⟩; refine ⟨_, rfl, ?_⟩; replace HO377 := vb HO377 hb; replace HO380 := vb HO380 hb; replace BK374 := bb BK374 hb; replace HB := Aside0.mk (below_step (by repeat (first | exact HB.out | refine sb ?_ GE374)) hb); (try clear hb); (try clear hb2); (try clear hk); (try clear hi)) | ((with_reducible refine gate_callee (f := 18) rfl ?_); refine goesL_ (some 22) rfl rfl Tryd.func18 (by kernel_rfl) rfl #[.string t382] rfl (by (try simp only [List.map_toArray, List.map_cons, List.map_nil]); first | done | rfl | (simp only [List.length_drop, List.length_take]; rfl)) ?_; (with_reducible refine (nat_Parse.calls k t382 t383 t386 t387 _ A5.out).mono ?_); rintro e w25 ⟨v384, rfl, ho0, hb⟩; refine ⟨_, rfl, ?_⟩; have HO385 := Aside0.mk (Kd.V_lower (Kd.V_mono (ok' := fun k_ => (w.heap.size ≤ k_) ∧ k_ ≠ gb374) ho0 (fun k_ hk_ => ⟨(Nat.le_trans (below_size (by repeat (first | exact HB.out | refine sb ?_ GE374))) hk_), (fb BK374 k_ hk_)⟩)) (below_size (by repeat (first | exact HB.out | refine sb ?_ GE374)))); replace HO377 := vb HO377 hb; replace HO380 := vb HO380 hb; replace BK374 := bb BK374 hb; replace HB := Aside0.mk (below_step (by repeat (first | exact HB.out | refine sb ?_ GE374)) hb); (try clear hb); (try clear hk); (try clear hi); (try clear ho0)) | ((with_reducible refine gate_dst (N := 9) rfl ?_); refine box_event ?hg (N := 9) ?hd (cs := #[.slice none 0 0]) (t := 26) ?hr ?_; (case hd => rfl); (case hg => rfl); (case hr => first | (go_simp; done) | (go_simp; rfl)); intro gb388 hg w26 hbox hb; have BK388 := Aside0.mk (hbox); have GW388 := Aside0.mk ((by rw [hg]; exact (below_size (by repeat (first | exact HB.out | refine sb ?_ GE374))) : w.heap.size ≤ gb388)); have GE388 := Aside0.mk ((by rw [hg]; exact (below_size (by repeat (first | exact HB.out | refine sb ?_ GE374))) : w.heap.size ≤ gb388)); have NB374_388 := nl BK374 hg; have NB388_374 := ng BK374 hg; replace HO377 := ve HO377 gb388 hg hb; replace HO380 := ve HO380 gb388 hg hb; replace HO385 := ve HO385 gb388 hg hb; replace BK374 := bb BK374 hb; replace HB := Aside0.mk (below_step (by repeat (first | exact HB.out | refine sb ?_ GE374)) hb); clear hb hbox hg; obtain ⟨Ao27, co27, eo27⟩ := Kd.V_slice HO385.out; subst eo27; have hnb28 := NB388_374.out; have hnc28 := NB374_388.out; have hcz29_0 : w26.cell? ⟨gb388, 0, none⟩ = some (.slice none 0 0) := (blk_cell BK388.out 0).trans rfl; have hfz29_0 := blk_frozen BK388.out 0))
  have n0_ : Aside0 (Kd.V (Kd.int .i64) 3 (w26.setCell ⟨gb388, 0, none⟩ (.slice Ao27 t383.length co27)) w.heap.size (fun k_ => (w.heap.size ≤ k_) ∧ k_ ≠ gb374 ∧ k_ ≠ gb388) (.slice Ao22 t375.length co22) t375) := ⟨by exact Kd.V_mono (Kd.V_far (p := ⟨gb388, 0, none⟩) (Kd.V_mono HO377.out (fun k_ hk => (⟨hk, hk.2⟩ : _ ∧ k_ ≠ gb388))) (fun _ hk => hk.2) (.slice Ao27 t383.length co27)) (fun _ hk => ⟨hk.1.1.1, ⟨hk.1.1.2, hk.1.2⟩⟩)⟩
  have n1_ : Aside0 (Kd.V (Kd.int .i64) 3 (w26.setCell ⟨gb388, 0, none⟩ (.slice Ao27 t383.length co27)) w.heap.size (fun k_ => (w.heap.size ≤ k_) ∧ k_ ≠ gb374 ∧ k_ ≠ gb388) v379 t378) := ⟨by exact Kd.V_mono (Kd.V_far (p := ⟨gb388, 0, none⟩) (Kd.V_mono HO380.out (fun k_ hk => (⟨hk, hk.2⟩ : _ ∧ k_ ≠ gb388))) (fun _ hk => hk.2) (.slice Ao27 t383.length co27)) (fun _ hk => ⟨hk.1.1.1, ⟨hk.1.1.2, hk.1.2⟩⟩)⟩
  have n2_ : Aside0 (Kd.V (Kd.int .u32) 79 (w26.setCell ⟨gb388, 0, none⟩ (.slice Ao27 t383.length co27)) w.heap.size (fun k_ => (w.heap.size ≤ k_) ∧ k_ ≠ gb374 ∧ k_ ≠ gb388) (.slice Ao27 t383.length co27) t383) := ⟨by exact Kd.V_mono (Kd.V_far (p := ⟨gb388, 0, none⟩) (Kd.V_mono HO385.out (fun k_ hk => (⟨hk, hk.2⟩ : _ ∧ k_ ≠ gb388))) (fun _ hk => hk.2) (.slice Ao27 t383.length co27)) (fun _ hk => ⟨hk.1.1.1, ⟨hk.1.1.2, hk.1.2⟩⟩)⟩
  have n3_ : Aside0 ((w26.setCell ⟨gb388, 0, none⟩ (.slice Ao27 t383.length co27)).heap[gb374]? = some (.cells #[.slice none 0 0] 26 (0, 0))) := ⟨by refine blk_far ?_ NB374_388.out _; exact BK374.out⟩
  have n4_ : Aside0 ((w26.setCell ⟨gb388, 0, none⟩ (.slice Ao27 t383.length co27)).heap[gb388]? = some (.cells #[.slice Ao27 t383.length co27] 26 (0, 0))) := ⟨by refine blk_put (cs := #[.slice none 0 0]) ?_ 0 _ rfl; exact BK388.out⟩
  have n5_ : Aside0 (Below w.heap.size w (w26.setCell ⟨gb388, 0, none⟩ (.slice Ao27 t383.length co27))) := ⟨by repeat (first | exact HB.out | refine sb ?_ GE374 | refine sb ?_ GE388)⟩
  (try clear HO377)
  (try clear HO380)
  (try clear HO385)
  (try clear BK374)
  (try clear BK388)
  (try clear HB)
  generalize (w26.setCell ⟨gb388, 0, none⟩ (.slice Ao27 t383.length co27)) = w30 at n0_ n1_ n2_ n3_ n4_ n5_ ⊢
  have HO377 := n0_
  have HO380 := n1_
  have HO385 := n2_
  have BK374 := n3_
  have BK388 := n4_
  have HB := n5_
  clear n0_ n1_ n2_ n3_ n4_ n5_
  replace HO377 := Aside0.mk (Kd.V_drew HO377.out)
  replace HO380 := Aside0.mk (Kd.V_drew HO380.out)
  replace HO385 := Aside0.mk (Kd.V_drew HO385.out)
  replace BK374 := Aside0.mk (blk_drew BK374.out)
  replace BK388 := Aside0.mk (blk_drew BK388.out)
  replace HB := Aside0.mk (below_drew1 HB.out)
  refine start_ (n := 15) (S := fun w' => w'.cell? ⟨gb388, 0, none⟩ = some (.slice Ao27 t383.length co27)) (ds := []) #[false, false, false, false, false, false, false, false, false, false, false, false, false, false, false] (by kernel_rfl) rfl rfl ((blk_cell BK388.out 0).trans rfl) (fun hHeld => ?_); refine with_tabW heraldlaw04_given.tab4 heraldlaw04_given.bits4 (fun HT_ HW_ => ?_)
  generalize w30.drew = w31 at HO377 HO380 HO385 BK374 BK388 HB hHeld ⊢
  refine pure_ (i := 0) (N := some 26) (v := ?_) (a' := ?_) #[true, false, false, false, false, false, false, false, false, false, false, false, false, false, false] rfl rfl (any_of HT_.out (by kernel_rfl)) (fun _ _ _ h => h) (Or.inl ⟨by rfl, ?_⟩) ?_ ?_
  rotate_left
  ·intro w'
   go_simp
   with_reducible rfl
  rotate_left
  ·simp only [Act.put, sa, sz, ss, i64_w, i32_w]
   rfl
  refine pure_ (i := 2) (N := some 28) (v := ?_) (a' := ?_) #[true, false, true, false, false, false, false, false, false, false, false, false, false, false, false] rfl rfl (any_of HT_.out (by kernel_rfl)) (fun _ _ _ h => h) (Or.inl ⟨by rfl, ?_⟩) ?_ ?_
  rotate_left
  ·intro w'
   go_simp
   with_reducible rfl
  rotate_left
  ·simp only [Act.put, sa, sz, ss, i64_w, i32_w]
   rfl
  refine pure_ (i := 3) (N := some 29) (v := ?_) (a' := ?_) #[true, false, true, true, false, false, false, false, false, false, false, false, false, false, false] rfl rfl (any_of HT_.out (by kernel_rfl)) (fun _ _ _ h => h) (Or.inl ⟨by rfl, ?_⟩) ?_ ?_
  rotate_left
  ·intro w'
   go_simp
   with_reducible rfl
  rotate_left
  ·simp only [Act.put, sa, sz, ss, i64_w, i32_w]
   rfl
  refine pure_ (i := 4) (N := some 30) (v := ?_) (a' := ?_) #[true, false, true, true, true, false, false, false, false, false, false, false, false, false, false] rfl rfl (any_of HT_.out (by kernel_rfl)) (fun _ _ _ h => h) (Or.inl ⟨by rfl, ?_⟩) ?_ ?_
  rotate_left
  ·intro w'
   go_simp
   with_reducible rfl
  rotate_left
  ·simp only [Act.put, sa, sz, ss, i64_w, i32_w]
   rfl
  refine pure_ (i := 5) (N := some 31) (v := ?_) (a' := ?_) #[true, false, true, true, true, true, false, false, false, false, false, false, false, false, false] rfl rfl (any_of HT_.out (by kernel_rfl)) (fun _ _ _ h => h) (Or.inl ⟨by rfl, ?_⟩) ?_ ?_
  rotate_left
  ·intro w'
   go_simp
   with_reducible rfl
  rotate_left
  ·simp only [Act.put, sa, sz, ss, i64_w, i32_w]
   rfl
  refine pure_ (i := 6) (N := some 32) (v := ?_) (a' := ?_) #[true, false, true, true, true, true, true, false, false, false, false, false, false, false, false] rfl rfl (any_of HT_.out (by kernel_rfl)) (fun _ _ _ h => h) (Or.inl ⟨by rfl, ?_⟩) ?_ ?_
  rotate_left
  ·intro w'
   go_simp
   with_reducible rfl
  rotate_left
  ·simp only [Act.put, sa, sz, ss, i64_w, i32_w]
   rfl
  refine pure_ (i := 7) (N := some 33) (v := ?_) (a' := ?_) #[true, false, true, true, true, true, true, true, false, false, false, false, false, false, false] rfl rfl (any_of HT_.out (by kernel_rfl)) (fun _ _ _ h => h) (Or.inl ⟨by rfl, ?_⟩) ?_ ?_
  rotate_left
  ·intro w'
   go_simp
   with_reducible rfl
  rotate_left
  ·simp only [Act.put, sa, sz, ss, i64_w, i32_w]
   rfl
  refine pure_ (i := 8) (N := some 34) (v := undef) (a' := ?_) #[true, false, true, true, true, true, true, true, true, false, false, false, false, false, false] rfl rfl (any_of HT_.out (by kernel_rfl)) (fun _ _ _ h => h) (Or.inr ⟨by rfl, rfl⟩) ?_ ?_
  rotate_left
  ·simp only [Act.put, sa, sz, ss, i64_w, i32_w]
   rfl
  refine pure_ (i := 9) (N := some 35) (v := undef) (a' := ?_) #[true, false, true, true, true, true, true, true, true, true, false, false, false, false, false] rfl rfl (any_of HT_.out (by kernel_rfl)) (fun _ _ _ h => h) (Or.inr ⟨by rfl, rfl⟩) ?_ ?_
  rotate_left
  ·simp only [Act.put, sa, sz, ss, i64_w, i32_w]
   rfl
  refine pure_ (i := 10) (N := some 36) (v := ?_) (a' := ?_) #[true, false, true, true, true, true, true, true, true, true, true, false, false, false, false] rfl rfl (any_of HT_.out (by kernel_rfl)) (fun _ _ _ h => h) (Or.inl ⟨by rfl, ?_⟩) ?_ ?_
  rotate_left
  ·intro w'
   go_simp
   with_reducible rfl
  rotate_left
  ·simp only [Act.put, sa, sz, ss, i64_w, i32_w]
   rfl
  refine pure_ (i := 11) (N := some 2) (v := ?_) (a' := ?_) #[true, false, true, true, true, true, true, true, true, true, true, true, false, false, false] rfl rfl (any_of HT_.out (by kernel_rfl)) (fun _ _ _ h => h) (Or.inl ⟨by rfl, ?_⟩) ?_ ?_
  rotate_left
  ·intro w'
   go_simp
   with_reducible rfl
  rotate_left
  ·simp only [Act.put, sa, sz, ss, i64_w, i32_w]
   rfl
  refine take_ (i := 1) (N := some 27) (v := ?_) (a' := ?_) #[true, true, true, true, true, true, true, true, true, true, true, true, false, false, false] rfl rfl (take_ofW HT_.out HW_.out (by kernel_rfl)) (fun _ _ _ h => h) (Or.inl ⟨by rfl, ?_⟩) hHeld ?_ ?_
  rotate_left
  ·intro w' s0
   go_simp
   with_reducible rfl
  rotate_left
  ·simp only [Act.put, sa, sz, ss, i64_w, i32_w]
   rfl
  refine one_ (i := 12) (N := none) #[true, true, true, true, true, true, true, true, true, true, true, true, true, false, false] rfl rfl (one_of HT_.out (by kernel_rfl)) (by decide) (fun K hK => ?_)
  have hs32 : w31.cell? ⟨gb374, 0, none⟩ = some (.slice none 0 0) := (blk_cell BK374.out 0).trans rfl
  have hfs32 := blk_frozen BK374.out 0
  have hns32_1 := NB388_374.out
  have hms32_1 := NB374_388.out
  refine skip_ (w1 := ?_) (by rfl) rfl ?_ ?_
  rotate_left
  ·go_simp
   rfl
  refine hK.out _ _ (((cell_far (p := ⟨gb374, _, none⟩) NB388_374.out _).trans (hHeld))) (fun hHeld => ?_)
  clear hK K
  refine pure_ (i := 13) (N := some 4) (v := ?_) (a' := ?_) #[true, true, true, true, true, true, true, true, true, true, true, true, true, true, false] rfl rfl (any_of HT_.out (by kernel_rfl)) (fun _ _ _ h => h) (Or.inl ⟨by rfl, ?_⟩) ?_ ?_
  rotate_left
  ·intro w'
   go_simp
   with_reducible rfl
  rotate_left
  ·simp only [Act.put, sa, sz, ss, i64_w, i32_w]
   rfl
  refine pure_ (i := 14) (N := some 5) (v := ?_) (a' := ?_) #[true, true, true, true, true, true, true, true, true, true, true, true, true, true, true] rfl rfl (any_of HT_.out (by kernel_rfl)) (fun _ _ _ h => h) (Or.inl ⟨by rfl, ?_⟩) ?_ ?_
  rotate_left
  ·intro w'
   go_simp
   with_reducible rfl
  rotate_left
  ·simp only [Act.put, sa, sz, ss, i64_w, i32_w]
   rfl
  refine done_ (done_of HT_.out (by kernel_rfl)) ?_
  try go_wp2
  refine bodyPost_ret (results_list (rs := [.tmp 2, .cell 3 26, .tmp 4, .tmp 5]) rfl (by simp) (.tmp (.cell gb374 26 #[.slice Ao27 t383.length co27] (0, 0) _ rfl (by refine blk_put (cs := #[.slice none 0 0]) ?_ 0 _ rfl; exact BK374.out) Tryd.underlying26 rfl (by kernel_rfl) (.tmp (.tmp .nil))))) rfl ?_
  exact ⟨_, _, by first | rfl | (simp [errW_none, errW_some] <;> rfl) | (simp [*, errW_none, errW_some] <;> rfl), by exact Kd.V_mono (Kd.V_far (p := ⟨gb374, 0, none⟩) (Kd.V_mono HO377.out (fun k_ hk => (⟨hk, hk.2.1⟩ : _ ∧ k_ ≠ gb374))) (fun _ hk => hk.2) (.slice Ao27 t383.length co27)) (fun _ hk => hk.1.1), by exact Kd.V_mono (Kd.V_far (p := ⟨gb374, 0, none⟩) (Kd.V_mono HO385.out (fun k_ hk => (⟨hk, hk.2.1⟩ : _ ∧ k_ ≠ gb374))) (fun _ hk => hk.2) (.slice Ao27 t383.length co27)) (fun _ hk => hk.1.1), by repeat (first | exact HB.out | refine sb ?_ GE374 | refine sb ?_ GE388)⟩
end Go.Proofs.YtgcngbmkgjphpaaDoor.PAll
end

section
namespace Go.Proofs.YtgcngbmkgjphpaaDoor.Nums
open Go.RowKit Go.Proofs.YtgcngbmkgjphpaaDoor.PAll Go.Proofs.YtgcngbmkgjphpaaDoorW.PrintWords Go.Proofs.YtgcngbmkgjphpaaDoorW.PrintLast Go.Proofs.YtgcngbmkgjphpaaDoorW.PrintMore
set_option linter.unusedVariables false
set_option linter.unusedSimpArgs false
theorem parse_good (s : ByteArray) (hs : s.size ≤ 140737488351232) (h0 : ¬ s.toList = []) (hg : ∀ j, j < s.size → Good s j) (w : Nat) (hw : pv 0 (bytesOf s) = w) (R : List Int × Int × Int) (hfit : bl w ≤ 65536 → R = (dgs 4294967296 w, 0, 0)) (hbig : ¬ bl w ≤ 65536 → R = ([], 0, 41)) : Ev (fun k => nat_Parse.f k s) R := by
  have hmem : ∀ x ∈ bytesOf s, 48 ≤ x ∧ x ≤ 57 := by
    intro x hx
    obtain ⟨i, hi, rfl⟩ := List.getElem_of_mem hx
    have hb : bt s (i : Int) = (bytesOf s)[i] := by rw [← rd_bytesOf, rd_at _ _ hi]
    have := hg i (by rw [bytesOf_length] at hi; exact hi)
    rw [← hb]
    exact ⟨this.1, this.2.1⟩
  have h1 := parse_l1 (bytesOf s) hmem (by rw [bytesOf_length]; exact hs) w R hfit hbig (bytesOf s).length 0 0 (by omega) (by omega) (by rw [bl_zero]; omega) (by rw [List.drop_zero]; exact hw)
  rw [dgs_zero] at h1
  have h2 := scan_good s hs hg R h1 s.size 0 (by omega) (by omega)
  refine Ev.congr (fun k => ?_) h2
  unfold nat_Parse.f
  rw [if_neg h0]
  rfl
/-- A number's text as bytes. -/
def dl (n : Nat) : List Int := if n = 0 then [48] else ((dgs 10 n).map fun d => 48 + d).reverse
theorem dec_dl (n : Nat) : dec n = strOfNums (dl n) := by
  unfold dec dl dd
  by_cases h : n = 0
  · rw [if_pos h, if_pos h]; rfl
  · rw [if_neg h, if_neg h]
theorem dl_mem (n : Nat) : ∀ x ∈ dl n, 48 ≤ x ∧ x ≤ 57 := by
  intro x hx
  unfold dl at hx
  by_cases h : n = 0
  · rw [if_pos h] at hx; simp at hx; omega
  · rw [if_neg h, List.mem_reverse, List.mem_map] at hx
    obtain ⟨d, hd, rfl⟩ := hx
    have := dgs_dg (b := 10) (by omega) n d hd
    omega
theorem dl_len (n : Nat) : (dl n).length ≤ (dgs 10 n).length + 1 ∧ 0 < (dl n).length := by
  unfold dl
  by_cases h : n = 0
  · rw [if_pos h]; simp
  · rw [if_neg h]
    have := dgs_len_pos (b := 10) (by omega) h
    simp; omega
theorem bytesOf_str (l : List Int) (h : ∀ x ∈ l, 0 ≤ x ∧ x < 256) : bytesOf (strOfNums l) = l := by
  unfold bytesOf
  rw [strOfNums_data, List.map_map]
  conv => rhs; rw [← List.map_id l]
  apply List.map_congr_left
  intro x hx
  have := h x hx
  have e : (UInt8.ofNat x.toNat).toNat = x.toNat := by rw [UInt8.toNat_ofNat']; omega
  simp only [Function.comp, e, id]
  omega
theorem dl_first (n : Nat) (h : 1 < (dl n).length) : (dl n)[0]'(by omega) ≠ 48 := by
  by_cases hn : n = 0
  · unfold dl at h; rw [if_pos hn] at h; simp at h
  · obtain ⟨a, r, t, e, ht, _⟩ := dgs_top (b := 10) (by omega) hn
    have e2 : dl n = (48 + (t : Int)) :: (a.map fun d => 48 + d).reverse := by
      unfold dl; rw [if_neg hn, e]; simp
    simp only [e2, List.getElem_cons_zero]
    omega
theorem dl_pv (n : Nat) : pv 0 (dl n) = n := by
  unfold dl
  by_cases h : n = 0
  · rw [if_pos h, h]; rfl
  · rw [if_neg h]
    have := pv_digits (dgs 10 n) 0 (dgs_dg (by omega) n)
    rw [vl_dgs (by omega)] at this
    simp only [Int.natCast_zero, Int.zero_mul, Int.zero_add] at this
    exact_mod_cast this
theorem dec_size (n : Nat) : (dec n).size = (dl n).length := by rw [dec_dl, strOfNums_size]
theorem dec_bytes (n : Nat) : bytesOf (dec n) = dl n := by
  rw [dec_dl]; exact bytesOf_str _ (fun x hx => by have := dl_mem n x hx; omega)
theorem dec_ne (n : Nat) : ¬ (dec n).toList = [] := by
  intro e
  rw [ByteArray.toList_eq] at e
  have := congrArg List.length e
  have h2 := (dl_len n).2
  rw [← dec_size] at h2
  rw [Array.length_toList, List.length_nil] at this
  have h3 : (dec n).size = 0 := this
  omega
theorem dec_good (n : Nat) : ∀ j, j < (dec n).size → Good (dec n) j := by
  intro j hj
  rw [dec_size] at hj
  have hb : ∀ i, (hi : i < (dl n).length) → bt (dec n) (i : Int) = (dl n)[i] := by
    intro i hi
    rw [← rd_bytesOf, dec_bytes, rd_at _ _ hi]
  have hm := dl_mem n _ (List.getElem_mem hj)
  refine ⟨by rw [hb j hj]; exact hm.1, by rw [hb j hj]; exact hm.2, ?_⟩
  rintro ⟨rfl, e⟩
  have h0 := hb 0 (by omega)
  have e0 : bt (dec n) 0 = (dl n)[0]'(by omega) := h0
  rw [e0] at e
  exact dl_first n (by omega) e
/-- Digits, a number, whether it fits, whether it came. -/
theorem given_fit (l : List Int) (v : Nat) (hd : Dg (4294967296 : Nat) l) (hl : l.length ≤ 1048576) (hv : vl (4294967296 : Nat) l = v) (g : bl v ≤ 65536) : Ev (fun k => heraldlaw04_given.f k l) (dgs 65536 v, dgs 4294967296 v, true, true) := by
  have lr := rg_len (n := v) (k := 4096) (by omega)
  have l10 := rdec_len (n := v)
  have h1 := words_ev l v hd (by omega) hv
  have h2 := fit_ev (n := v) (by omega)
  rw [if_pos g] at h2
  have h3 := rtext_ev (n := v) (by omega)
  have h4 := parse_good (dec v) (by rw [dec_size]; have := (dl_len v).1; omega) (dec_ne v) (dec_good v) v (by rw [dec_bytes, dl_pv]) (dgs 4294967296 v, 0, 0) (fun _ => rfl) (fun h => absurd g h)
  have q1 := h4.bind (f := fun k bt383 => (if bt383.2.2 = (dgs 65536 v, (0 : Int)).2 then (some (dgs 65536 v, bt383.1, ((dgs 65536 v, (0 : Int)).2 == 0), (bt383.2.1 == 0))) else (some (dgs 65536 v, bt383.1, ((dgs 65536 v, (0 : Int)).2 == 0), false)))) (r := (dgs 65536 v, dgs 4294967296 v, true, true)) (Ev.congr (fun k => by rw [if_pos rfl]; rfl) (Ev.now _))
  have q2 := h3.bind (f := fun k t382 => ((nat_Parse.f k t382).bind fun bt383 => (if bt383.2.2 = (dgs 65536 v, (0 : Int)).2 then (some (dgs 65536 v, bt383.1, ((dgs 65536 v, (0 : Int)).2 == 0), (bt383.2.1 == 0))) else (some (dgs 65536 v, bt383.1, ((dgs 65536 v, (0 : Int)).2 == 0), false))))) q1
  have q3 := h2.bind (f := fun k bt378 => ((heraldref04_Text.f k (dgs 65536 v)).bind fun t382 => ((nat_Parse.f k t382).bind fun bt383 => (if bt383.2.2 = bt378.2 then (some (dgs 65536 v, bt383.1, (bt378.2 == 0), (bt383.2.1 == 0))) else (some (dgs 65536 v, bt383.1, (bt378.2 == 0), false)))))) q2
  exact h1.bind q3
theorem given_big (l : List Int) (v : Nat) (hd : Dg (4294967296 : Nat) l) (hl : l.length ≤ 1048576) (hv : vl (4294967296 : Nat) l = v) (g : ¬ bl v ≤ 65536) : Ev (fun k => heraldlaw04_given.f k l) (dgs 65536 v, [], false, true) := by
  have lr : (dgs 65536 v).length ≤ 2 * l.length := by
    rw [dgs_len_le (by omega), Nat.pow_mul]
    have := vl_lt (b := ((4294967296 : Nat) : Int)) (by omega) hd
    rw [hv] at this
    exact_mod_cast this
  have l10 := rdec_len (n := v)
  have h1 := words_ev l v hd (by omega) hv
  have h2 := fit_ev (n := v) (by omega)
  rw [if_neg g] at h2
  have h3 := rtext_ev (n := v) (by omega)
  have h4 := parse_good (dec v) (by rw [dec_size]; have := (dl_len v).1; omega) (dec_ne v) (dec_good v) v (by rw [dec_bytes, dl_pv]) ([], 0, 41) (fun h => absurd h g) (fun _ => rfl)
  have q1 := h4.bind (f := fun k bt383 => (if bt383.2.2 = (([] : List Int), (41 : Int)).2 then (some (dgs 65536 v, bt383.1, ((([] : List Int), (41 : Int)).2 == 0), (bt383.2.1 == 0))) else (some (dgs 65536 v, bt383.1, ((([] : List Int), (41 : Int)).2 == 0), false)))) (r := (dgs 65536 v, [], false, true)) (Ev.congr (fun k => by rw [if_pos rfl]; rfl) (Ev.now _))
  have q2 := h3.bind (f := fun k t382 => ((nat_Parse.f k t382).bind fun bt383 => (if bt383.2.2 = (([] : List Int), (41 : Int)).2 then (some (dgs 65536 v, bt383.1, ((([] : List Int), (41 : Int)).2 == 0), (bt383.2.1 == 0))) else (some (dgs 65536 v, bt383.1, ((([] : List Int), (41 : Int)).2 == 0), false))))) q1
  have q3 := h2.bind (f := fun k bt378 => ((heraldref04_Text.f k (dgs 65536 v)).bind fun t382 => ((nat_Parse.f k t382).bind fun bt383 => (if bt383.2.2 = bt378.2 then (some (dgs 65536 v, bt383.1, (bt378.2 == 0), (bt383.2.1 == 0))) else (some (dgs 65536 v, bt383.1, (bt378.2 == 0), false)))))) q2
  exact h1.bind q3
theorem bl_one : bl 1 = 1 := rfl
theorem Of_ev (n : Nat) (h : n < 9223372036854775808) : Ev (fun k => nat_Of.f k (n : Int)) (dgs 4294967296 n, 0) := by
  refine Ev.congr (fun k => ?_) ((of_ev n (by omega)).bind (f := fun _ t116 => some (t116, (0 : Int))) (Ev.now _))
  unfold nat_Of.f
  rw [if_neg (by omega), u64_in (by omega) (by omega)]
end Go.Proofs.YtgcngbmkgjphpaaDoor.Nums
end

section
namespace Go.Proofs.YtgcngbmkgjphpaaDoor.PAll
open Go.RowKit Go.Proofs.YtgcngbmkgjphpaaDoorW.PrintWords Go.Proofs.YtgcngbmkgjphpaaDoorW.PrintLast Go.Proofs.YtgcngbmkgjphpaaDoorW.PrintMore
attribute [local go_sem] max2_int min2_int max_two min_two max_three min_three max_four min_four   -- for this text's walks alone
set_option linter.unusedVariables false
set_option linter.unusedSimpArgs false
def nat_Nat_Power.l0 : Nat → Int → Int → List Int → List Int → Option (List Int × Int)
 | 0, _, _, _, _ => none
 | k + 1, x34, x35, x170000, x180000 => if x35 < x34 then ((nat_Nat_Mul.f k x180000 x170000).bind fun bt180 => (if bt180.2 = 0 then (nat_Nat_Power.l0 k x34 (wrap64 (x35 + 1)) x170000 bt180.1) else (some (([] : List Int), bt180.2)))) else (some (x180000, 0))
def nat_Nat_Power.f (k : Nat) (l0_0 : List Int) (a1 : Int) : Option (List Int × Int) := if a1 < 0 then (some (([] : List Int), 1)) else (if a1 = 0 then ((nat_of.f k 1).bind fun t171 => (some (t171, 0))) else ((nat_Nat_Bits.f l0_0).bind fun t174 => (if t174 < 2 then (some (l0_0, 0)) else (if a1 > 2147483647 then (some (([] : List Int), 41)) else ((nat_Nat_Bits.f l0_0).bind fun t175 => (if (wrap64 ((wrap64 (t175 - 1)) * a1)) ≥ 65536 then (some (([] : List Int), 41)) else ((nat_of.f k 1).bind fun t176 => (nat_Nat_Power.l0 k a1 0 l0_0 t176))))))))
set_option maxHeartbeats 8000000 in
set_option maxRecDepth 100000 in
theorem nat_Nat_Power.calls (k : Nat) (P0_0_ : Nat → Prop) (A0_0 : Option Addr) (c0_0 : Nat) (l0_0 : List Int) (a1 : Int) (r1 : List Int) (r2 : Int) (w : World) (hs0_0 : Kd.V (Kd.int .u32) 79 w w.heap.size (fun k_ => P0_0_ k_) (.slice A0_0 l0_0.length c0_0) l0_0) (h : nat_Nat_Power.f k l0_0 a1 = some (r1, r2)) :
  Calls Tryd.prog 38 #[.agg #[.slice A0_0 l0_0.length c0_0], .int .i64 a1] w fun e w' => ∃ v0_ : Value, e = .returned (.tuple #[.agg #[v0_], .int .i64 r2]) ∧ Kd.V (Kd.int .u32) 79 w' w.heap.size (fun k_ => (P0_0_ k_ ∨ w.heap.size ≤ k_)) v0_ r1 ∧ Below w.heap.size w w' := by
 have hu26 := Tryd.underlying26
 have HO0_0 := Aside0.mk (show Kd.V (Kd.int .u32) 79 w w.heap.size (fun k_ => (P0_0_ k_ ∨ w.heap.size ≤ k_)) (.slice A0_0 l0_0.length c0_0) l0_0 from Kd.V_mono hs0_0 (fun k_ hk => .inl hk))
 have HB := Aside0.mk (Below.refl w.heap.size w)
 have H : (if a1 < 0 then (some (([] : List Int), 1)) else (if a1 = 0 then ((nat_of.f k 1).bind fun t171 => (some (t171, 0))) else ((nat_Nat_Bits.f l0_0).bind fun t174 => (if t174 < 2 then (some (l0_0, 0)) else (if a1 > 2147483647 then (some (([] : List Int), 41)) else ((nat_Nat_Bits.f l0_0).bind fun t175 => (if (wrap64 ((wrap64 (t175 - 1)) * a1)) ≥ 65536 then (some (([] : List Int), 41)) else ((nat_of.f k 1).bind fun t176 => (nat_Nat_Power.l0 k a1 0 l0_0 t176))))))))) = some (r1, r2) := h
 clear h
 by_cases c3 : a1 < 0
 ·rw [if_pos c3] at H
  have c3b0 : decide (a1 < 0) = true := decide_eq_true c3
  clear c3
  simp only [Option.some.injEq, Prod.mk.injEq] at H
  obtain ⟨rfl, rfl⟩ := H
  go_enter Tryd.func38, Tryd.ntmps38
  go_wp2_with (first | ((with_reducible refine gate_dst (N := 2) rfl ?_); refine box_event ?hg (N := 2) ?hd (cs := #[.slice A0_0 l0_0.length c0_0]) (t := 26) ?hr ?_; (case hd => rfl); (case hg => rfl); (case hr => first | (go_simp; done) | (go_simp; rfl)); intro gb169 hg w4 hbox hb; have BK169 := Aside0.mk (hbox); have GW169 := Aside0.mk ((by rw [hg]; exact (below_size HB.out) : w.heap.size ≤ gb169)); have GE169 := Aside0.mk ((by rw [hg]; exact (below_size HB.out) : w.heap.size ≤ gb169)); replace HO0_0 := ve HO0_0 gb169 hg hb; replace HB := Aside0.mk (below_step HB.out hb); clear hb hbox hg) | ((with_reducible refine gate_dst (N := 4) rfl ?_); refine box_event ?hg (N := 4) ?hd (cs := #[.slice none 0 0]) (t := 26) ?hr ?_; (case hd => rfl); (case hg => rfl); (case hr => first | (go_simp; done) | (go_simp; rfl)); intro gb170 hg w5 hbox hb; have BK170 := Aside0.mk (hbox); have GW170 := Aside0.mk ((by rw [hg]; exact (below_size (by repeat (first | exact HB.out | refine sb ?_ GE169))) : w.heap.size ≤ gb170)); have GE170 := Aside0.mk ((by rw [hg]; exact (below_size (by repeat (first | exact HB.out | refine sb ?_ GE169))) : w.heap.size ≤ gb170)); have NB169_170 := nl BK169 hg; have NB170_169 := ng BK169 hg; replace HO0_0 := ve HO0_0 gb170 hg hb; replace BK169 := bb BK169 hb; replace HB := Aside0.mk (below_step (by repeat (first | exact HB.out | refine sb ?_ GE169)) hb); clear hb hbox hg; have hnb6 := NB170_169.out; have hnc6 := NB169_170.out; have hcz7_0 : w5.cell? ⟨gb170, 0, none⟩ = some (.slice none 0 0) := (blk_cell BK170.out 0).trans rfl; have hfz7_0 := blk_frozen BK170.out 0))
  refine bodyPost_ret (results_ct rfl _ _ gb170 26 #[.slice none 0 0] (0, 0) _ rfl (by refine blk_put (cs := #[.slice none 0 0]) ?_ 0 _ rfl; exact BK170.out) Tryd.underlying26 rfl (by kernel_rfl)) rfl ?_
  exact ⟨_, by first | rfl | (simp [errW_none, errW_some] <;> rfl) | (simp [*, errW_none, errW_some] <;> rfl), Kd.V_mono (Kd.R_V (base := w.heap.size) (by first | exact Kd.R_nil _ _ _ _ (fun _ => False) | exact Kd.R_nil _ _ _ _ _ | exact Kd.N_nil _ _ _ _ _ | exact Kd.V_nil _ _ _ _ _ | exact Kd.Q_nil _ _ _ _ _ | exact Kd.S_nil _ _ _ _ _)) (fun k_ hk => by first | exact False.elim hk | exact ⟨(.inr (hk.1)), hk.2⟩ | exact (.inr (hk))), by repeat (first | exact HB.out | refine sb ?_ GE169 | refine sb ?_ GE170)⟩
 ·rw [if_neg c3] at H
  have c3b0 : decide (a1 < 0) = false := decide_eq_false c3
  clear c3
  by_cases c8 : a1 = 0
  ·rw [if_pos c8] at H
   have c8b0 : (a1 == 0) = true := beq_iff_eq.mpr c8
   have c8b1 : (a1 != 0) = false := bne_eq_false_iff_eq.mpr c8
   clear c8
   replace H := Option.bind_eq_some_iff.mp H
   obtain ⟨t171, A90, H⟩ := H
   replace H : (some (t171, 0)) = some (r1, r2) := H
   have A9 := Aside0.mk A90
   clear A90
   simp only [Option.some.injEq, Prod.mk.injEq] at H
   obtain ⟨rfl, rfl⟩ := H
   go_enter Tryd.func38, Tryd.ntmps38
   go_wp2_with (first | ((with_reducible refine gate_dst (N := 2) rfl ?_); refine box_event ?hg (N := 2) ?hd (cs := #[.slice A0_0 l0_0.length c0_0]) (t := 26) ?hr ?_; (case hd => rfl); (case hg => rfl); (case hr => first | (go_simp; done) | (go_simp; rfl)); intro gb169 hg w10 hbox hb; have BK169 := Aside0.mk (hbox); have GW169 := Aside0.mk ((by rw [hg]; exact (below_size HB.out) : w.heap.size ≤ gb169)); have GE169 := Aside0.mk ((by rw [hg]; exact (below_size HB.out) : w.heap.size ≤ gb169)); replace HO0_0 := ve HO0_0 gb169 hg hb; replace HB := Aside0.mk (below_step HB.out hb); clear hb hbox hg) | ((with_reducible refine gate_dst (N := 4) rfl ?_); refine box_event ?hg (N := 4) ?hd (cs := #[.slice none 0 0]) (t := 26) ?hr ?_; (case hd => rfl); (case hg => rfl); (case hr => first | (go_simp; done) | (go_simp; rfl)); intro gb170 hg w11 hbox hb; have BK170 := Aside0.mk (hbox); have GW170 := Aside0.mk ((by rw [hg]; exact (below_size (by repeat (first | exact HB.out | refine sb ?_ GE169))) : w.heap.size ≤ gb170)); have GE170 := Aside0.mk ((by rw [hg]; exact (below_size (by repeat (first | exact HB.out | refine sb ?_ GE169))) : w.heap.size ≤ gb170)); have NB169_170 := nl BK169 hg; have NB170_169 := ng BK169 hg; replace HO0_0 := ve HO0_0 gb170 hg hb; replace BK169 := bb BK169 hb; replace HB := Aside0.mk (below_step (by repeat (first | exact HB.out | refine sb ?_ GE169)) hb); clear hb hbox hg) | ((with_reducible refine gate_callee (f := 48) rfl ?_); refine goesL_ (some 15) rfl rfl Tryd.func48 (by kernel_rfl) rfl #[.int .u64 1] rfl (by (try simp only [List.map_toArray, List.map_cons, List.map_nil]); first | done | rfl | (simp only [List.length_drop, List.length_take]; rfl)) ?_; (with_reducible refine (nat_of.calls k 1 t171 _ A9.out).mono ?_); rintro e w12 ⟨v172, rfl, ho0, hb⟩; refine ⟨_, rfl, ?_⟩; have HO173 := Aside0.mk (Kd.V_lower (Kd.V_mono (ok' := fun k_ => (P0_0_ k_ ∨ w.heap.size ≤ k_) ∧ k_ ≠ gb169 ∧ k_ ≠ gb170) ho0 (fun k_ hk_ => ⟨(.inr (Nat.le_trans (below_size (by repeat (first | exact HB.out | refine sb ?_ GE169 | refine sb ?_ GE170))) hk_)), (fb BK169 k_ hk_), (fb BK170 k_ hk_)⟩)) (below_size (by repeat (first | exact HB.out | refine sb ?_ GE169 | refine sb ?_ GE170)))); replace HO0_0 := vb HO0_0 hb; replace BK169 := bb BK169 hb; replace BK170 := bb BK170 hb; replace HB := Aside0.mk (below_step (by repeat (first | exact HB.out | refine sb ?_ GE169 | refine sb ?_ GE170)) hb); (try clear hb); (try clear hk); (try clear hi); (try clear ho0); obtain ⟨Ao13, co13, eo13⟩ := Kd.V_slice HO173.out; subst eo13; have hnb14 := NB170_169.out; have hnc14 := NB169_170.out; have hcz15_0 : w12.cell? ⟨gb170, 0, none⟩ = some (.slice none 0 0) := (blk_cell BK170.out 0).trans rfl; have hfz15_0 := blk_frozen BK170.out 0))
   refine bodyPost_ret (results_ct rfl _ _ gb170 26 #[.slice Ao13 t171.length co13] (0, 0) _ rfl (by refine blk_put (cs := #[.slice none 0 0]) ?_ 0 _ rfl; exact BK170.out) Tryd.underlying26 rfl (by kernel_rfl)) rfl ?_
   exact ⟨_, by first | rfl | (simp [errW_none, errW_some] <;> rfl) | (simp [*, errW_none, errW_some] <;> rfl), by exact Kd.V_mono (Kd.V_far (p := ⟨gb170, 0, none⟩) (Kd.V_mono HO173.out (fun k_ hk => (⟨hk, hk.2.2⟩ : _ ∧ k_ ≠ gb170))) (fun _ hk => hk.2) (.slice Ao13 t171.length co13)) (fun _ hk => hk.1.1), by repeat (first | exact HB.out | refine sb ?_ GE169 | refine sb ?_ GE170)⟩
  ·rw [if_neg c8] at H
   have c8b0 : (a1 == 0) = false := beq_eq_false_iff_ne.mpr c8
   have c8b1 : (a1 != 0) = true := bne_iff_ne.mpr c8
   replace H := Option.bind_eq_some_iff.mp H
   obtain ⟨t174, A160, H⟩ := H
   replace H : (if t174 < 2 then (some (l0_0, 0)) else (if a1 > 2147483647 then (some (([] : List Int), 41)) else ((nat_Nat_Bits.f l0_0).bind fun t175 => (if (wrap64 ((wrap64 (t175 - 1)) * a1)) ≥ 65536 then (some (([] : List Int), 41)) else ((nat_of.f k 1).bind fun t176 => (nat_Nat_Power.l0 k a1 0 l0_0 t176)))))) = some (r1, r2) := H
   have A16 := Aside0.mk A160
   clear A160
   by_cases c17 : t174 < 2
   ·rw [if_pos c17] at H
    have c17b0 : decide (t174 < 2) = true := decide_eq_true c17
    clear c17
    simp only [Option.some.injEq, Prod.mk.injEq] at H
    obtain ⟨rfl, rfl⟩ := H
    go_enter Tryd.func38, Tryd.ntmps38
    go_wp2_with (first | ((with_reducible refine gate_dst (N := 2) rfl ?_); refine box_event ?hg (N := 2) ?hd (cs := #[.slice A0_0 l0_0.length c0_0]) (t := 26) ?hr ?_; (case hd => rfl); (case hg => rfl); (case hr => first | (go_simp; done) | (go_simp; rfl)); intro gb169 hg w18 hbox hb; have BK169 := Aside0.mk (hbox); have GW169 := Aside0.mk ((by rw [hg]; exact (below_size HB.out) : w.heap.size ≤ gb169)); have GE169 := Aside0.mk ((by rw [hg]; exact (below_size HB.out) : w.heap.size ≤ gb169)); replace HO0_0 := ve HO0_0 gb169 hg hb; replace HB := Aside0.mk (below_step HB.out hb); clear hb hbox hg) | ((with_reducible refine gate_dst (N := 4) rfl ?_); refine box_event ?hg (N := 4) ?hd (cs := #[.slice none 0 0]) (t := 26) ?hr ?_; (case hd => rfl); (case hg => rfl); (case hr => first | (go_simp; done) | (go_simp; rfl)); intro gb170 hg w19 hbox hb; have BK170 := Aside0.mk (hbox); have GW170 := Aside0.mk ((by rw [hg]; exact (below_size (by repeat (first | exact HB.out | refine sb ?_ GE169))) : w.heap.size ≤ gb170)); have GE170 := Aside0.mk ((by rw [hg]; exact (below_size (by repeat (first | exact HB.out | refine sb ?_ GE169))) : w.heap.size ≤ gb170)); have NB169_170 := nl BK169 hg; have NB170_169 := ng BK169 hg; replace HO0_0 := ve HO0_0 gb170 hg hb; replace BK169 := bb BK169 hb; replace HB := Aside0.mk (below_step (by repeat (first | exact HB.out | refine sb ?_ GE169)) hb); clear hb hbox hg; have hnb20 := NB169_170.out; have hnc20 := NB170_169.out; have hcz21_0 : w19.cell? ⟨gb169, 0, none⟩ = some (.slice A0_0 l0_0.length c0_0) := (blk_cell BK169.out 0).trans rfl; have hfz21_0 := blk_frozen BK169.out 0) | ((with_reducible refine gate_callee (f := 25) rfl ?_); refine goesL_ (some 18) rfl rfl Tryd.func25 (by kernel_rfl) rfl #[.agg #[.slice A0_0 l0_0.length c0_0]] rfl (by (try simp only [List.map_toArray, List.map_cons, List.map_nil]); first | done | rfl | (simp only [List.length_drop, List.length_take]; rfl)) ?_; (with_reducible refine (nat_Nat_Bits.calls _ _ l0_0 t174 _ ?side1 ?side2 A16.out).mono ?_); (case side1 => exact (Kd.V_reads' HO0_0.out).2.2); (case side2 => exact (Kd.V_reads' HO0_0.out).2.1); rintro e w22 ⟨rfl, hb⟩; refine ⟨_, rfl, ?_⟩; replace HO0_0 := vb HO0_0 hb; replace BK169 := bb BK169 hb; replace BK170 := bb BK170 hb; replace HB := Aside0.mk (below_step (by repeat (first | exact HB.out | refine sb ?_ GE169 | refine sb ?_ GE170)) hb); (try clear hb); (try clear hb2); (try clear hk); (try clear hi); have hcz23_0 : w22.cell? ⟨gb169, 0, none⟩ = some (.slice A0_0 l0_0.length c0_0) := (blk_cell BK169.out 0).trans rfl; have hfz23_0 := blk_frozen BK169.out 0; have hcz24_0 : w22.cell? ⟨gb170, 0, none⟩ = some (.slice none 0 0) := (blk_cell BK170.out 0).trans rfl; have hfz24_0 := blk_frozen BK170.out 0))
    refine bodyPost_ret (results_ct rfl _ _ gb170 26 #[.slice A0_0 l0_0.length c0_0] (0, 0) _ rfl (by refine blk_put (cs := #[.slice none 0 0]) ?_ 0 _ rfl; exact BK170.out) Tryd.underlying26 rfl (by kernel_rfl)) rfl ?_
    exact ⟨_, by first | rfl | (simp [errW_none, errW_some] <;> rfl) | (simp [*, errW_none, errW_some] <;> rfl), by exact Kd.V_mono (Kd.V_far (p := ⟨gb170, 0, none⟩) (Kd.V_mono HO0_0.out (fun k_ hk => (⟨hk, hk.2⟩ : _ ∧ k_ ≠ gb170))) (fun _ hk => hk.2) (.slice A0_0 l0_0.length c0_0)) (fun _ hk => hk.1.1.1), by repeat (first | exact HB.out | refine sb ?_ GE169 | refine sb ?_ GE170)⟩
   ·rw [if_neg c17] at H
    have c17b0 : decide (t174 < 2) = false := decide_eq_false c17
    clear c17
    by_cases c25 : a1 > 2147483647
    ·rw [if_pos c25] at H
     have c25b0 : decide (2147483647 < a1) = true := decide_eq_true c25
     clear c25
     simp only [Option.some.injEq, Prod.mk.injEq] at H
     obtain ⟨rfl, rfl⟩ := H
     go_enter Tryd.func38, Tryd.ntmps38
     go_wp2_with (first | ((with_reducible refine gate_dst (N := 2) rfl ?_); refine box_event ?hg (N := 2) ?hd (cs := #[.slice A0_0 l0_0.length c0_0]) (t := 26) ?hr ?_; (case hd => rfl); (case hg => rfl); (case hr => first | (go_simp; done) | (go_simp; rfl)); intro gb169 hg w26 hbox hb; have BK169 := Aside0.mk (hbox); have GW169 := Aside0.mk ((by rw [hg]; exact (below_size HB.out) : w.heap.size ≤ gb169)); have GE169 := Aside0.mk ((by rw [hg]; exact (below_size HB.out) : w.heap.size ≤ gb169)); replace HO0_0 := ve HO0_0 gb169 hg hb; replace HB := Aside0.mk (below_step HB.out hb); clear hb hbox hg) | ((with_reducible refine gate_dst (N := 4) rfl ?_); refine box_event ?hg (N := 4) ?hd (cs := #[.slice none 0 0]) (t := 26) ?hr ?_; (case hd => rfl); (case hg => rfl); (case hr => first | (go_simp; done) | (go_simp; rfl)); intro gb170 hg w27 hbox hb; have BK170 := Aside0.mk (hbox); have GW170 := Aside0.mk ((by rw [hg]; exact (below_size (by repeat (first | exact HB.out | refine sb ?_ GE169))) : w.heap.size ≤ gb170)); have GE170 := Aside0.mk ((by rw [hg]; exact (below_size (by repeat (first | exact HB.out | refine sb ?_ GE169))) : w.heap.size ≤ gb170)); have NB169_170 := nl BK169 hg; have NB170_169 := ng BK169 hg; replace HO0_0 := ve HO0_0 gb170 hg hb; replace BK169 := bb BK169 hb; replace HB := Aside0.mk (below_step (by repeat (first | exact HB.out | refine sb ?_ GE169)) hb); clear hb hbox hg; have hnb28 := NB169_170.out; have hnc28 := NB170_169.out; have hcz29_0 : w27.cell? ⟨gb169, 0, none⟩ = some (.slice A0_0 l0_0.length c0_0) := (blk_cell BK169.out 0).trans rfl; have hfz29_0 := blk_frozen BK169.out 0) | ((with_reducible refine gate_callee (f := 25) rfl ?_); refine goesL_ (some 18) rfl rfl Tryd.func25 (by kernel_rfl) rfl #[.agg #[.slice A0_0 l0_0.length c0_0]] rfl (by (try simp only [List.map_toArray, List.map_cons, List.map_nil]); first | done | rfl | (simp only [List.length_drop, List.length_take]; rfl)) ?_; (with_reducible refine (nat_Nat_Bits.calls _ _ l0_0 t174 _ ?side1 ?side2 A16.out).mono ?_); (case side1 => exact (Kd.V_reads' HO0_0.out).2.2); (case side2 => exact (Kd.V_reads' HO0_0.out).2.1); rintro e w30 ⟨rfl, hb⟩; refine ⟨_, rfl, ?_⟩; replace HO0_0 := vb HO0_0 hb; replace BK169 := bb BK169 hb; replace BK170 := bb BK170 hb; replace HB := Aside0.mk (below_step (by repeat (first | exact HB.out | refine sb ?_ GE169 | refine sb ?_ GE170)) hb); (try clear hb); (try clear hb2); (try clear hk); (try clear hi); have hcz31_0 : w30.cell? ⟨gb170, 0, none⟩ = some (.slice none 0 0) := (blk_cell BK170.out 0).trans rfl; have hfz31_0 := blk_frozen BK170.out 0))
     refine bodyPost_ret (results_ct rfl _ _ gb170 26 #[.slice none 0 0] (0, 0) _ rfl (by refine blk_put (cs := #[.slice none 0 0]) ?_ 0 _ rfl; exact BK170.out) Tryd.underlying26 rfl (by kernel_rfl)) rfl ?_
     exact ⟨_, by first | rfl | (simp [errW_none, errW_some] <;> rfl) | (simp [*, errW_none, errW_some] <;> rfl), Kd.V_mono (Kd.R_V (base := w.heap.size) (by first | exact Kd.R_nil _ _ _ _ (fun _ => False) | exact Kd.R_nil _ _ _ _ _ | exact Kd.N_nil _ _ _ _ _ | exact Kd.V_nil _ _ _ _ _ | exact Kd.Q_nil _ _ _ _ _ | exact Kd.S_nil _ _ _ _ _)) (fun k_ hk => by first | exact False.elim hk | exact ⟨(.inr (hk.1)), hk.2⟩ | exact (.inr (hk))), by repeat (first | exact HB.out | refine sb ?_ GE169 | refine sb ?_ GE170)⟩
    ·rw [if_neg c25] at H
     have c25b0 : decide (2147483647 < a1) = false := decide_eq_false c25
     clear c25
     replace H := Option.bind_eq_some_iff.mp H
     obtain ⟨t175, A320, H⟩ := H
     replace H : (if (wrap64 ((wrap64 (t175 - 1)) * a1)) ≥ 65536 then (some (([] : List Int), 41)) else ((nat_of.f k 1).bind fun t176 => (nat_Nat_Power.l0 k a1 0 l0_0 t176))) = some (r1, r2) := H
     have A32 := Aside0.mk A320
     clear A320
     by_cases c33 : (wrap64 ((wrap64 (t175 - 1)) * a1)) ≥ 65536
     ·rw [if_pos c33] at H
      have c33b0 : decide (65536 ≤ (wrap64 ((wrap64 (t175 - 1)) * a1))) = true := decide_eq_true c33
      clear c33
      simp only [Option.some.injEq, Prod.mk.injEq] at H
      obtain ⟨rfl, rfl⟩ := H
      go_enter Tryd.func38, Tryd.ntmps38
      go_wp2_with (first | ((with_reducible refine gate_dst (N := 2) rfl ?_); refine box_event ?hg (N := 2) ?hd (cs := #[.slice A0_0 l0_0.length c0_0]) (t := 26) ?hr ?_; (case hd => rfl); (case hg => rfl); (case hr => first | (go_simp; done) | (go_simp; rfl)); intro gb169 hg w34 hbox hb; have BK169 := Aside0.mk (hbox); have GW169 := Aside0.mk ((by rw [hg]; exact (below_size HB.out) : w.heap.size ≤ gb169)); have GE169 := Aside0.mk ((by rw [hg]; exact (below_size HB.out) : w.heap.size ≤ gb169)); replace HO0_0 := ve HO0_0 gb169 hg hb; replace HB := Aside0.mk (below_step HB.out hb); clear hb hbox hg) | ((with_reducible refine gate_dst (N := 4) rfl ?_); refine box_event ?hg (N := 4) ?hd (cs := #[.slice none 0 0]) (t := 26) ?hr ?_; (case hd => rfl); (case hg => rfl); (case hr => first | (go_simp; done) | (go_simp; rfl)); intro gb170 hg w35 hbox hb; have BK170 := Aside0.mk (hbox); have GW170 := Aside0.mk ((by rw [hg]; exact (below_size (by repeat (first | exact HB.out | refine sb ?_ GE169))) : w.heap.size ≤ gb170)); have GE170 := Aside0.mk ((by rw [hg]; exact (below_size (by repeat (first | exact HB.out | refine sb ?_ GE169))) : w.heap.size ≤ gb170)); have NB169_170 := nl BK169 hg; have NB170_169 := ng BK169 hg; replace HO0_0 := ve HO0_0 gb170 hg hb; replace BK169 := bb BK169 hb; replace HB := Aside0.mk (below_step (by repeat (first | exact HB.out | refine sb ?_ GE169)) hb); clear hb hbox hg; have hnb36 := NB169_170.out; have hnc36 := NB170_169.out; have hcz37_0 : w35.cell? ⟨gb169, 0, none⟩ = some (.slice A0_0 l0_0.length c0_0) := (blk_cell BK169.out 0).trans rfl; have hfz37_0 := blk_frozen BK169.out 0) | ((with_reducible refine gate_callee (f := 25) rfl ?_); refine goesL_ (some 18) rfl rfl Tryd.func25 (by kernel_rfl) rfl #[.agg #[.slice A0_0 l0_0.length c0_0]] rfl (by (try simp only [List.map_toArray, List.map_cons, List.map_nil]); first | done | rfl | (simp only [List.length_drop, List.length_take]; rfl)) ?_; (with_reducible refine (nat_Nat_Bits.calls _ _ l0_0 t174 _ ?side1 ?side2 A16.out).mono ?_); (case side1 => exact (Kd.V_reads' HO0_0.out).2.2); (case side2 => exact (Kd.V_reads' HO0_0.out).2.1); rintro e w38 ⟨rfl, hb⟩; refine ⟨_, rfl, ?_⟩; replace HO0_0 := vb HO0_0 hb; replace BK169 := bb BK169 hb; replace BK170 := bb BK170 hb; replace HB := Aside0.mk (below_step (by repeat (first | exact HB.out | refine sb ?_ GE169 | refine sb ?_ GE170)) hb); (try clear hb); (try clear hb2); (try clear hk); (try clear hi); have hcz39_0 : w38.cell? ⟨gb169, 0, none⟩ = some (.slice A0_0 l0_0.length c0_0) := (blk_cell BK169.out 0).trans rfl; have hfz39_0 := blk_frozen BK169.out 0) | (go_at_call 25; (with_reducible refine (nat_Nat_Bits.calls _ _ l0_0 t175 _ ?side1 ?side2 A32.out).mono ?_); (case side1 => exact (Kd.V_reads' HO0_0.out).2.2); (case side2 => exact (Kd.V_reads' HO0_0.out).2.1); rintro e w40 ⟨rfl, hb⟩; replace HO0_0 := vb HO0_0 hb; replace BK169 := bb BK169 hb; replace BK170 := bb BK170 hb; replace HB := Aside0.mk (below_step (by repeat (first | exact HB.out | refine sb ?_ GE169 | refine sb ?_ GE170)) hb); (try clear hb); (try clear hb2); (try clear hk); (try clear hi); have hcz41_0 : w40.cell? ⟨gb170, 0, none⟩ = some (.slice none 0 0) := (blk_cell BK170.out 0).trans rfl; have hfz41_0 := blk_frozen BK170.out 0))
      refine bodyPost_ret (results_ct rfl _ _ gb170 26 #[.slice none 0 0] (0, 0) _ rfl (by refine blk_put (cs := #[.slice none 0 0]) ?_ 0 _ rfl; exact BK170.out) Tryd.underlying26 rfl (by kernel_rfl)) rfl ?_
      exact ⟨_, by first | rfl | (simp [errW_none, errW_some] <;> rfl) | (simp [*, errW_none, errW_some] <;> rfl), Kd.V_mono (Kd.R_V (base := w.heap.size) (by first | exact Kd.R_nil _ _ _ _ (fun _ => False) | exact Kd.R_nil _ _ _ _ _ | exact Kd.N_nil _ _ _ _ _ | exact Kd.V_nil _ _ _ _ _ | exact Kd.Q_nil _ _ _ _ _ | exact Kd.S_nil _ _ _ _ _)) (fun k_ hk => by first | exact False.elim hk | exact ⟨(.inr (hk.1)), hk.2⟩ | exact (.inr (hk))), by repeat (first | exact HB.out | refine sb ?_ GE169 | refine sb ?_ GE170)⟩
     ·rw [if_neg c33] at H
      have c33b0 : decide (65536 ≤ (wrap64 ((wrap64 (t175 - 1)) * a1))) = false := decide_eq_false c33
      clear c33
      replace H := Option.bind_eq_some_iff.mp H
      obtain ⟨t176, A420, H⟩ := H
      replace H : (nat_Nat_Power.l0 k a1 0 l0_0 t176) = some (r1, r2) := H
      have A42 := Aside0.mk A420
      clear A420
      have H' := Aside0.mk H
      clear H
      go_enter Tryd.func38, Tryd.ntmps38
      go_wp2_with (first | ((with_reducible refine gate_dst (N := 2) rfl ?_); refine box_event ?hg (N := 2) ?hd (cs := #[.slice A0_0 l0_0.length c0_0]) (t := 26) ?hr ?_; (case hd => rfl); (case hg => rfl); (case hr => first | (go_simp; done) | (go_simp; rfl)); intro gb169 hg w43 hbox hb; have BK169 := Aside0.mk (hbox); have GW169 := Aside0.mk ((by rw [hg]; exact (below_size HB.out) : w.heap.size ≤ gb169)); have GE169 := Aside0.mk ((by rw [hg]; exact (below_size HB.out) : w.heap.size ≤ gb169)); replace HO0_0 := ve HO0_0 gb169 hg hb; replace HB := Aside0.mk (below_step HB.out hb); clear hb hbox hg) | ((with_reducible refine gate_dst (N := 4) rfl ?_); refine box_event ?hg (N := 4) ?hd (cs := #[.slice none 0 0]) (t := 26) ?hr ?_; (case hd => rfl); (case hg => rfl); (case hr => first | (go_simp; done) | (go_simp; rfl)); intro gb170 hg w44 hbox hb; have BK170 := Aside0.mk (hbox); have GW170 := Aside0.mk ((by rw [hg]; exact (below_size (by repeat (first | exact HB.out | refine sb ?_ GE169))) : w.heap.size ≤ gb170)); have GE170 := Aside0.mk ((by rw [hg]; exact (below_size (by repeat (first | exact HB.out | refine sb ?_ GE169))) : w.heap.size ≤ gb170)); have NB169_170 := nl BK169 hg; have NB170_169 := ng BK169 hg; replace HO0_0 := ve HO0_0 gb170 hg hb; replace BK169 := bb BK169 hb; replace HB := Aside0.mk (below_step (by repeat (first | exact HB.out | refine sb ?_ GE169)) hb); clear hb hbox hg; have hnb45 := NB169_170.out; have hnc45 := NB170_169.out; have hcz46_0 : w44.cell? ⟨gb169, 0, none⟩ = some (.slice A0_0 l0_0.length c0_0) := (blk_cell BK169.out 0).trans rfl; have hfz46_0 := blk_frozen BK169.out 0) | ((with_reducible refine gate_callee (f := 25) rfl ?_); refine goesL_ (some 18) rfl rfl Tryd.func25 (by kernel_rfl) rfl #[.agg #[.slice A0_0 l0_0.length c0_0]] rfl (by (try simp only [List.map_toArray, List.map_cons, List.map_nil]); first | done | rfl | (simp only [List.length_drop, List.length_take]; rfl)) ?_; (with_reducible refine (nat_Nat_Bits.calls _ _ l0_0 t174 _ ?side1 ?side2 A16.out).mono ?_); (case side1 => exact (Kd.V_reads' HO0_0.out).2.2); (case side2 => exact (Kd.V_reads' HO0_0.out).2.1); rintro e w47 ⟨rfl, hb⟩; refine ⟨_, rfl, ?_⟩; replace HO0_0 := vb HO0_0 hb; replace BK169 := bb BK169 hb; replace BK170 := bb BK170 hb; replace HB := Aside0.mk (below_step (by repeat (first | exact HB.out | refine sb ?_ GE169 | refine sb ?_ GE170)) hb); (try clear hb); (try clear hb2); (try clear hk); (try clear hi); have hcz48_0 : w47.cell? ⟨gb169, 0, none⟩ = some (.slice A0_0 l0_0.length c0_0) := (blk_cell BK169.out 0).trans rfl; have hfz48_0 := blk_frozen BK169.out 0) | (go_at_call 25; (with_reducible refine (nat_Nat_Bits.calls _ _ l0_0 t175 _ ?side1 ?side2 A32.out).mono ?_); (case side1 => exact (Kd.V_reads' HO0_0.out).2.2); (case side2 => exact (Kd.V_reads' HO0_0.out).2.1); rintro e w49 ⟨rfl, hb⟩; replace HO0_0 := vb HO0_0 hb; replace BK169 := bb BK169 hb; replace BK170 := bb BK170 hb; replace HB := Aside0.mk (below_step (by repeat (first | exact HB.out | refine sb ?_ GE169 | refine sb ?_ GE170)) hb); (try clear hb); (try clear hb2); (try clear hk); (try clear hi)) | ((with_reducible refine gate_callee (f := 48) rfl ?_); refine goesL_ (some 33) rfl rfl Tryd.func48 (by kernel_rfl) rfl #[.int .u64 1] rfl (by (try simp only [List.map_toArray, List.map_cons, List.map_nil]); first | done | rfl | (simp only [List.length_drop, List.length_take]; rfl)) ?_; (with_reducible refine (nat_of.calls k 1 t176 _ A42.out).mono ?_); rintro e w50 ⟨v177, rfl, ho0, hb⟩; refine ⟨_, rfl, ?_⟩; have HO178 := Aside0.mk (Kd.V_lower (Kd.V_mono (ok' := fun k_ => (P0_0_ k_ ∨ w.heap.size ≤ k_) ∧ k_ ≠ gb169 ∧ k_ ≠ gb170) ho0 (fun k_ hk_ => ⟨(.inr (Nat.le_trans (below_size (by repeat (first | exact HB.out | refine sb ?_ GE169 | refine sb ?_ GE170))) hk_)), (fb BK169 k_ hk_), (fb BK170 k_ hk_)⟩)) (below_size (by repeat (first | exact HB.out | refine sb ?_ GE169 | refine sb ?_ GE170)))); replace HO0_0 := vb HO0_0 hb; replace BK169 := bb BK169 hb; replace BK170 := bb BK170 hb; replace HB := Aside0.mk (below_step (by repeat (first | exact HB.out | refine sb ?_ GE169 | refine sb ?_ GE170)) hb); (try clear hb); (try clear hk); (try clear hi); (try clear ho0)) | ((with_reducible refine gate_dst (N := 6) rfl ?_); refine box_event ?hg (N := 6) ?hd (cs := #[.slice none 0 0]) (t := 26) ?hr ?_; (case hd => rfl); (case hg => rfl); (case hr => first | (go_simp; done) | (go_simp; rfl)); intro gb179 hg w51 hbox hb; have BK179 := Aside0.mk (hbox); have GW179 := Aside0.mk ((by rw [hg]; exact (below_size (by repeat (first | exact HB.out | refine sb ?_ GE169 | refine sb ?_ GE170))) : w.heap.size ≤ gb179)); have GE179 := Aside0.mk ((by rw [hg]; exact (below_size (by repeat (first | exact HB.out | refine sb ?_ GE169 | refine sb ?_ GE170))) : w.heap.size ≤ gb179)); have NB169_179 := nl BK169 hg; have NB179_169 := ng BK169 hg; have NB170_179 := nl BK170 hg; have NB179_170 := ng BK170 hg; replace HO0_0 := ve HO0_0 gb179 hg hb; replace HO178 := ve HO178 gb179 hg hb; replace BK169 := bb BK169 hb; replace BK170 := bb BK170 hb; replace HB := Aside0.mk (below_step (by repeat (first | exact HB.out | refine sb ?_ GE169 | refine sb ?_ GE170)) hb); clear hb hbox hg; obtain ⟨Ao52, co52, eo52⟩ := Kd.V_slice HO178.out; subst eo52; have hnb53 := NB179_169.out; have hnc53 := NB169_179.out; have hnb54 := NB179_170.out; have hnc54 := NB170_179.out; have hcz55_0 : w51.cell? ⟨gb179, 0, none⟩ = some (.slice none 0 0) := (blk_cell BK179.out 0).trans rfl; have hfz55_0 := blk_frozen BK179.out 0))
      go_loopg [35] k (fun kq v35 w' => ∃ (x35_1 : Int) (x180000_1 : List Int) (u180000 : Value), v35 = .int .i64 x35_1 ∧ Aside0 (nat_Nat_Power.l0 kq a1 x35_1 l0_0 x180000_1 = some (r1, r2)) ∧ Aside0 (kq ≤ k) ∧ Aside0 (Kd.V (Kd.int .u32) 79 w' w.heap.size (fun k_ => (P0_0_ k_ ∨ w.heap.size ≤ k_) ∧ k_ ≠ gb169 ∧ k_ ≠ gb170 ∧ k_ ≠ gb179) (.slice A0_0 l0_0.length c0_0) l0_0) ∧ Aside0 (Kd.V (Kd.int .u32) 79 w' w.heap.size (fun k_ => (P0_0_ k_ ∨ w.heap.size ≤ k_) ∧ k_ ≠ gb169 ∧ k_ ≠ gb170 ∧ k_ ≠ gb179) u180000 x180000_1) ∧ Aside0 (w'.heap[gb169]? = some (.cells #[(.slice A0_0 l0_0.length c0_0)] 26 (0, 0))) ∧ Aside0 (w'.heap[gb170]? = some (.cells #[(.slice none 0 0)] 26 (0, 0))) ∧ Aside0 (w'.heap[gb179]? = some (.cells #[u180000] 26 (0, 0))) ∧ Aside0 (Below w.heap.size w w'))
      case atStart => exact ⟨(0), (t176), (.slice Ao52 t176.length co52), (by first | rfl | (simp; done) | (simp [*]; done) | (simp [i64_w]; done) | (simp [*, i64_w]; done)), H', ⟨Nat.le_refl _⟩, ⟨by exact Kd.V_mono (Kd.V_far (p := ⟨gb179, 0, none⟩) (Kd.V_mono HO0_0.out (fun k_ hk => (⟨hk, hk.2⟩ : _ ∧ k_ ≠ gb179))) (fun _ hk => hk.2) (.slice Ao52 t176.length co52)) (fun _ hk => ⟨hk.1.1.1.1, ⟨hk.1.1.1.2, ⟨hk.1.1.2, hk.1.2⟩⟩⟩)⟩, ⟨by exact Kd.V_mono (Kd.V_far (p := ⟨gb179, 0, none⟩) (Kd.V_mono HO178.out (fun k_ hk => (⟨hk, hk.2⟩ : _ ∧ k_ ≠ gb179))) (fun _ hk => hk.2) (.slice Ao52 t176.length co52)) (fun _ hk => ⟨hk.1.1.1, ⟨hk.1.1.2.1, ⟨hk.1.1.2.2, hk.1.2⟩⟩⟩)⟩, ⟨by refine blk_far ?_ NB169_179.out _; exact BK169.out⟩, ⟨by refine blk_far ?_ NB170_179.out _; exact BK170.out⟩, ⟨by refine blk_put (cs := #[.slice none 0 0]) ?_ 0 _ rfl; exact BK179.out⟩, ⟨by repeat (first | exact HB.out | refine sb ?_ GE169 | refine sb ?_ GE170 | refine sb ?_ GE179)⟩⟩
      case round =>
       clear H'
       try clear c1
       try clear c2
       try clear p2
       try clear c3
       try clear c3b0
       try clear c4
       try clear c5
       try clear c6
       try clear p6
       try clear c8
       try clear c8b0
       try clear c8b1
       try clear c14
       try clear c17
       try clear c17b0
       try clear c20
       try clear c25
       try clear c25b0
       try clear c28
       try clear c33
       try clear c33b0
       try clear c36
       try clear c38
       try clear c45
       try clear c48
       try clear c53
       try clear c54
       try clear hcz15_0
       try clear hcz21_0
       try clear hcz23_0
       try clear hcz24_0
       try clear hcz29_0
       try clear hcz31_0
       try clear hcz37_0
       try clear hcz39_0
       try clear hcz41_0
       try clear hcz46_0
       try clear hcz48_0
       try clear hcz55_0
       try clear hcz7_0
       try clear hfz15_0
       try clear hfz21_0
       try clear hfz23_0
       try clear hfz24_0
       try clear hfz29_0
       try clear hfz31_0
       try clear hfz37_0
       try clear hfz39_0
       try clear hfz41_0
       try clear hfz46_0
       try clear hfz48_0
       try clear hfz55_0
       try clear hfz7_0
       obtain ⟨x35_1, x180000_1, u180000, rfl, HA, HK1, HO_170000, HO_180000, BK169, BK170, BK179, HB⟩ := hrel
       cases gk with
       | zero => exact absurd HA.out (by simp [nat_Nat_Power.l0])
       | succ k1 =>
        have H := HA.out
        clear HA
        simp only [nat_Nat_Power.l0] at H
        by_cases c56 : x35_1 < a1
        ·rw [if_pos c56] at H
         have c56b0 : decide (x35_1 < a1) = true := decide_eq_true c56
         clear c56
         replace H := Option.bind_eq_some_iff.mp H
         obtain ⟨⟨t180, t183⟩, A570, H⟩ := H
         replace H : (if t183 = 0 then (nat_Nat_Power.l0 k1 a1 (wrap64 (x35_1 + 1)) l0_0 t180) else (some (([] : List Int), t183))) = some (r1, r2) := H
         have A57 := Aside0.mk A570
         clear A570
         by_cases c58 : t183 = 0
         ·rw [if_pos c58] at H
          have c58b0 : (t183 == 0) = true := beq_iff_eq.mpr c58
          have c58b1 : (t183 != 0) = false := bne_eq_false_iff_eq.mpr c58
          clear c58
          have H' := Aside0.mk H
          clear H
          have hnb59 := NB179_169.out
          have hnc59 := NB169_179.out
          have hnb60 := NB179_170.out
          have hnc60 := NB170_179.out
          have hcz61_0 : wr.cell? ⟨gb179, 0, none⟩ = some (u180000) := (blk_cell BK179.out 0).trans rfl
          have hfz61_0 := blk_frozen BK179.out 0
          have hnb62 := NB169_170.out
          have hnc62 := NB170_169.out
          have hcz63_0 : wr.cell? ⟨gb169, 0, none⟩ = some (.slice A0_0 l0_0.length c0_0) := (blk_cell BK169.out 0).trans rfl
          have hfz63_0 := blk_frozen BK169.out 0
          obtain ⟨Ao64, co64, eo64⟩ := Kd.V_slice HO_180000.out
          subst eo64
          go_wp2_with (first | ((with_reducible refine gate_callee (f := 44) rfl ?_); refine goesL_ (some 40) rfl rfl Tryd.func44 (by kernel_rfl) rfl #[.agg #[.slice Ao64 x180000_1.length co64], .agg #[.slice A0_0 l0_0.length c0_0]] rfl (by (try simp only [List.map_toArray, List.map_cons, List.map_nil]); first | done | rfl | (simp only [List.length_drop, List.length_take]; rfl)) ?_; (with_reducible refine (nat_Nat_Mul.calls k1 _ _ x180000_1 _ _ l0_0 t180 t183 _ ?side1 ?side2 ?side3 ?side4 A57.out).mono ?_); (case side1 => exact (Kd.V_reads' HO_180000.out).2.2); (case side2 => exact (Kd.V_reads' HO_180000.out).2.1); (case side3 => exact (Kd.V_reads' HO_170000.out).2.2); (case side4 => exact (Kd.V_reads' HO_170000.out).2.1); rintro e w65 ⟨v181, rfl, ho0, hb⟩; refine ⟨_, rfl, ?_⟩; have HO182 := Aside0.mk (Kd.V_lower (Kd.V_mono (ok' := fun k_ => (P0_0_ k_ ∨ w.heap.size ≤ k_) ∧ k_ ≠ gb169 ∧ k_ ≠ gb170 ∧ k_ ≠ gb179) ho0 (fun k_ hk_ => ⟨(.inr (Nat.le_trans (below_size (by repeat (first | exact HB.out | refine sb ?_ GE169 | refine sb ?_ GE170 | refine sb ?_ GE179))) hk_)), (fb BK169 k_ hk_), (fb BK170 k_ hk_), (fb BK179 k_ hk_)⟩)) (below_size (by repeat (first | exact HB.out | refine sb ?_ GE169 | refine sb ?_ GE170 | refine sb ?_ GE179)))); replace HO_170000 := vb HO_170000 hb; replace HO_180000 := vb HO_180000 hb; replace BK169 := bb BK169 hb; replace BK170 := bb BK170 hb; replace BK179 := bb BK179 hb; replace HB := Aside0.mk (below_step (by repeat (first | exact HB.out | refine sb ?_ GE169 | refine sb ?_ GE170 | refine sb ?_ GE179)) hb); (try clear hb); (try clear hk); (try clear hi); (try clear ho0); obtain ⟨Ao66, co66, eo66⟩ := Kd.V_slice HO182.out; subst eo66; have hcz67_0 : w65.cell? ⟨gb179, 0, none⟩ = some (.slice Ao64 x180000_1.length co64) := (blk_cell BK179.out 0).trans rfl; have hfz67_0 := blk_frozen BK179.out 0))
          go_roundg k1
          case measure => have := HK1.out; omega
          case rel => exact ⟨(wrap64 (x35_1 + 1)), (t180), (.slice Ao66 t180.length co66), (by first | rfl | (simp; done) | (simp [*]; done) | (simp [i64_w]; done) | (simp [*, i64_w]; done)), H', ⟨by have := HK1.out; omega⟩, ⟨by exact Kd.V_mono (Kd.V_far (p := ⟨gb179, 0, none⟩) (Kd.V_mono HO_170000.out (fun k_ hk => (⟨hk, hk.2.2.2⟩ : _ ∧ k_ ≠ gb179))) (fun _ hk => hk.2) (.slice Ao66 t180.length co66)) (fun _ hk => ⟨hk.1.1, ⟨hk.1.2.1, ⟨hk.1.2.2.1, hk.1.2.2.2⟩⟩⟩)⟩, ⟨by exact Kd.V_mono (Kd.V_far (p := ⟨gb179, 0, none⟩) (Kd.V_mono HO182.out (fun k_ hk => (⟨hk, hk.2.2.2⟩ : _ ∧ k_ ≠ gb179))) (fun _ hk => hk.2) (.slice Ao66 t180.length co66)) (fun _ hk => ⟨hk.1.1, ⟨hk.1.2.1, ⟨hk.1.2.2.1, hk.1.2.2.2⟩⟩⟩)⟩, ⟨by refine blk_far ?_ NB169_179.out _; exact BK169.out⟩, ⟨by refine blk_far ?_ NB170_179.out _; exact BK170.out⟩, ⟨by refine blk_put (cs := #[.slice Ao64 x180000_1.length co64]) ?_ 0 _ rfl; exact BK179.out⟩, ⟨by repeat (first | exact HB.out | refine sb ?_ GE169 | refine sb ?_ GE170 | refine sb ?_ GE179)⟩⟩
         ·rw [if_neg c58] at H
          have c58b0 : (t183 == 0) = false := beq_eq_false_iff_ne.mpr c58
          have c58b1 : (t183 != 0) = true := bne_iff_ne.mpr c58
          simp only [Option.some.injEq, Prod.mk.injEq] at H
          obtain ⟨rfl, rfl⟩ := H
          have hnb68 := NB179_169.out
          have hnc68 := NB169_179.out
          have hnb69 := NB179_170.out
          have hnc69 := NB170_179.out
          have hcz70_0 : wr.cell? ⟨gb179, 0, none⟩ = some (u180000) := (blk_cell BK179.out 0).trans rfl
          have hfz70_0 := blk_frozen BK179.out 0
          have hnb71 := NB169_170.out
          have hnc71 := NB170_169.out
          have hcz72_0 : wr.cell? ⟨gb169, 0, none⟩ = some (.slice A0_0 l0_0.length c0_0) := (blk_cell BK169.out 0).trans rfl
          have hfz72_0 := blk_frozen BK169.out 0
          obtain ⟨Ao73, co73, eo73⟩ := Kd.V_slice HO_180000.out
          subst eo73
          go_wp2_with (first | ((with_reducible refine gate_callee (f := 44) rfl ?_); refine goesL_ (some 40) rfl rfl Tryd.func44 (by kernel_rfl) rfl #[.agg #[.slice Ao73 x180000_1.length co73], .agg #[.slice A0_0 l0_0.length c0_0]] rfl (by (try simp only [List.map_toArray, List.map_cons, List.map_nil]); first | done | rfl | (simp only [List.length_drop, List.length_take]; rfl)) ?_; (with_reducible refine (nat_Nat_Mul.calls k1 _ _ x180000_1 _ _ l0_0 t180 t183 _ ?side1 ?side2 ?side3 ?side4 A57.out).mono ?_); (case side1 => exact (Kd.V_reads' HO_180000.out).2.2); (case side2 => exact (Kd.V_reads' HO_180000.out).2.1); (case side3 => exact (Kd.V_reads' HO_170000.out).2.2); (case side4 => exact (Kd.V_reads' HO_170000.out).2.1); rintro e w74 ⟨v181, rfl, ho0, hb⟩; refine ⟨_, rfl, ?_⟩; have HO182 := Aside0.mk (Kd.V_lower (Kd.V_mono (ok' := fun k_ => (P0_0_ k_ ∨ w.heap.size ≤ k_) ∧ k_ ≠ gb169 ∧ k_ ≠ gb170 ∧ k_ ≠ gb179) ho0 (fun k_ hk_ => ⟨(.inr (Nat.le_trans (below_size (by repeat (first | exact HB.out | refine sb ?_ GE169 | refine sb ?_ GE170 | refine sb ?_ GE179))) hk_)), (fb BK169 k_ hk_), (fb BK170 k_ hk_), (fb BK179 k_ hk_)⟩)) (below_size (by repeat (first | exact HB.out | refine sb ?_ GE169 | refine sb ?_ GE170 | refine sb ?_ GE179)))); replace HO_170000 := vb HO_170000 hb; replace HO_180000 := vb HO_180000 hb; replace BK169 := bb BK169 hb; replace BK170 := bb BK170 hb; replace BK179 := bb BK179 hb; replace HB := Aside0.mk (below_step (by repeat (first | exact HB.out | refine sb ?_ GE169 | refine sb ?_ GE170 | refine sb ?_ GE179)) hb); (try clear hb); (try clear hk); (try clear hi); (try clear ho0); obtain ⟨Ao75, co75, eo75⟩ := Kd.V_slice HO182.out; subst eo75; have hcz76_0 : w74.cell? ⟨gb179, 0, none⟩ = some (.slice Ao73 x180000_1.length co73) := (blk_cell BK179.out 0).trans rfl; have hfz76_0 := blk_frozen BK179.out 0; have hcz77_0 : w74.cell? ⟨gb170, 0, none⟩ = some (.slice none 0 0) := (blk_cell BK170.out 0).trans rfl; have hfz77_0 := blk_frozen BK170.out 0))
          refine bodyPost_ret (results_ct rfl _ _ gb170 26 #[.slice none 0 0] (0, 0) _ rfl (by refine blk_put (cs := #[.slice none 0 0]) ?_ 0 _ rfl; refine blk_far ?_ NB170_179.out _; exact BK170.out) Tryd.underlying26 rfl (by kernel_rfl)) rfl ?_
          exact ⟨_, by first | rfl | (simp [errW_none, errW_some] <;> rfl) | (simp [*, errW_none, errW_some] <;> rfl), Kd.V_mono (Kd.R_V (base := w.heap.size) (by first | exact Kd.R_nil _ _ _ _ (fun _ => False) | exact Kd.R_nil _ _ _ _ _ | exact Kd.N_nil _ _ _ _ _ | exact Kd.V_nil _ _ _ _ _ | exact Kd.Q_nil _ _ _ _ _ | exact Kd.S_nil _ _ _ _ _)) (fun k_ hk => by first | exact False.elim hk | exact ⟨(.inr (hk.1)), hk.2⟩ | exact (.inr (hk))), by repeat (first | exact HB.out | refine sb ?_ GE169 | refine sb ?_ GE170 | refine sb ?_ GE179)⟩
        ·rw [if_neg c56] at H
         have c56b0 : decide (x35_1 < a1) = false := decide_eq_false c56
         clear c56
         simp only [Option.some.injEq, Prod.mk.injEq] at H
         obtain ⟨rfl, rfl⟩ := H
         have hnb78 := NB179_169.out
         have hnc78 := NB169_179.out
         have hnb79 := NB179_170.out
         have hnc79 := NB170_179.out
         have hcz80_0 : wr.cell? ⟨gb179, 0, none⟩ = some (u180000) := (blk_cell BK179.out 0).trans rfl
         have hfz80_0 := blk_frozen BK179.out 0
         obtain ⟨Ao81, co81, eo81⟩ := Kd.V_slice HO_180000.out
         subst eo81
         have hnb82 := NB170_169.out
         have hnc82 := NB169_170.out
         have hcz83_0 : wr.cell? ⟨gb170, 0, none⟩ = some (.slice none 0 0) := (blk_cell BK170.out 0).trans rfl
         have hfz83_0 := blk_frozen BK170.out 0
         go_wp2
         refine bodyPost_ret (results_ct rfl _ _ gb170 26 #[.slice Ao81 x180000_1.length co81] (0, 0) _ rfl (by refine blk_put (cs := #[.slice none 0 0]) ?_ 0 _ rfl; exact BK170.out) Tryd.underlying26 rfl (by kernel_rfl)) rfl ?_
         exact ⟨_, by first | rfl | (simp [errW_none, errW_some] <;> rfl) | (simp [*, errW_none, errW_some] <;> rfl), by exact Kd.V_mono (Kd.V_far (p := ⟨gb170, 0, none⟩) (Kd.V_mono HO_180000.out (fun k_ hk => (⟨hk, hk.2.2.1⟩ : _ ∧ k_ ≠ gb170))) (fun _ hk => hk.2) (.slice Ao81 x180000_1.length co81)) (fun _ hk => hk.1.1), by repeat (first | exact HB.out | refine sb ?_ GE169 | refine sb ?_ GE170 | refine sb ?_ GE179)⟩
end Go.Proofs.YtgcngbmkgjphpaaDoor.PAll
end

section
namespace Go.Proofs.YtgcngbmkgjphpaaDoor.PAll
open Go.RowKit Go.Proofs.YtgcngbmkgjphpaaDoorW.PrintWords Go.Proofs.YtgcngbmkgjphpaaDoorW.PrintLast Go.Proofs.YtgcngbmkgjphpaaDoorW.PrintMore
attribute [local go_sem] max2_int min2_int max_two min_two max_three min_three max_four min_four   -- for this text's walks alone
set_option linter.unusedVariables false
set_option linter.unusedSimpArgs false
def heraldlaw04_awake.f (k : Nat)  : Option (Bool) := (nat_Of.f k 7).bind fun bt184 => ((nat_Nat_Power.f k bt184.1 20).bind fun bt189 => (if bt184.2 = 0 then (if bt189.2 = 0 then ((nat_Nat_Text.f k bt189.1).bind fun t194 => (if t194.toList = ([55, 57, 55, 57, 50, 50, 54, 54, 50, 57, 55, 54, 49, 50, 48, 48, 49] : List UInt8) then ((nat_Nat_Bits.f bt189.1).bind fun t195 => (some (t195 == 57))) else (some false))) else (some false)) else (some false)))
set_option maxHeartbeats 8000000 in
set_option maxRecDepth 100000 in
theorem heraldlaw04_awake.calls (k : Nat)  (r : Bool) (w : World) (h : heraldlaw04_awake.f k  = some r) :
  Calls Tryd.prog 12 #[] w fun e w' => e = .returned (.bool r) ∧ Below w.heap.size w w' := by
 have hu26 := Tryd.underlying26
 have HB := Aside0.mk (Below.refl w.heap.size w)
 have H : ((nat_Of.f k 7).bind fun bt184 => ((nat_Nat_Power.f k bt184.1 20).bind fun bt189 => (if bt184.2 = 0 then (if bt189.2 = 0 then ((nat_Nat_Text.f k bt189.1).bind fun t194 => (if t194.toList = ([55, 57, 55, 57, 50, 50, 54, 54, 50, 57, 55, 54, 49, 50, 48, 48, 49] : List UInt8) then ((nat_Nat_Bits.f bt189.1).bind fun t195 => (some (t195 == 57))) else (some false))) else (some false)) else (some false)))) = some r := h
 clear h
 replace H := Option.bind_eq_some_iff.mp H
 obtain ⟨⟨t184, t187⟩, A10, H⟩ := H
 replace H : ((nat_Nat_Power.f k t184 20).bind fun bt189 => (if t187 = 0 then (if bt189.2 = 0 then ((nat_Nat_Text.f k bt189.1).bind fun t194 => (if t194.toList = ([55, 57, 55, 57, 50, 50, 54, 54, 50, 57, 55, 54, 49, 50, 48, 48, 49] : List UInt8) then ((nat_Nat_Bits.f bt189.1).bind fun t195 => (some (t195 == 57))) else (some false))) else (some false)) else (some false))) = some r := H
 have A1 := Aside0.mk A10
 clear A10
 replace H := Option.bind_eq_some_iff.mp H
 obtain ⟨⟨t189, t192⟩, A20, H⟩ := H
 replace H : (if t187 = 0 then (if t192 = 0 then ((nat_Nat_Text.f k t189).bind fun t194 => (if t194.toList = ([55, 57, 55, 57, 50, 50, 54, 54, 50, 57, 55, 54, 49, 50, 48, 48, 49] : List UInt8) then ((nat_Nat_Bits.f t189).bind fun t195 => (some (t195 == 57))) else (some false))) else (some false)) else (some false)) = some r := H
 have A2 := Aside0.mk A20
 clear A20
 by_cases c3 : t187 = 0
 ·rw [if_pos c3] at H
  have c3b0 : (t187 == 0) = true := beq_iff_eq.mpr c3
  have c3b1 : (t187 != 0) = false := bne_eq_false_iff_eq.mpr c3
  clear c3
  by_cases c4 : t192 = 0
  ·rw [if_pos c4] at H
   have c4b0 : (t192 == 0) = true := beq_iff_eq.mpr c4
   have c4b1 : (t192 != 0) = false := bne_eq_false_iff_eq.mpr c4
   clear c4
   replace H := Option.bind_eq_some_iff.mp H
   obtain ⟨t194, A50, H⟩ := H
   replace H : (if t194.toList = ([55, 57, 55, 57, 50, 50, 54, 54, 50, 57, 55, 54, 49, 50, 48, 48, 49] : List UInt8) then ((nat_Nat_Bits.f t189).bind fun t195 => (some (t195 == 57))) else (some false)) = some r := H
   have A5 := Aside0.mk A50
   clear A50
   by_cases c6 : t194.toList = ([55, 57, 55, 57, 50, 50, 54, 54, 50, 57, 55, 54, 49, 50, 48, 48, 49] : List UInt8)
   ·rw [if_pos c6] at H
    have c6b0 : (t194.toList == ([55, 57, 55, 57, 50, 50, 54, 54, 50, 57, 55, 54, 49, 50, 48, 48, 49] : List UInt8)) = true := beq_iff_eq.mpr c6
    have c6b1 : (t194.toList != ([55, 57, 55, 57, 50, 50, 54, 54, 50, 57, 55, 54, 49, 50, 48, 48, 49] : List UInt8)) = false := bne_eq_false_iff_eq.mpr c6
    clear c6
    replace H := Option.bind_eq_some_iff.mp H
    obtain ⟨t195, A70, H⟩ := H
    replace H : (some (t195 == 57)) = some r := H
    have A7 := Aside0.mk A70
    clear A70
    obtain rfl := Option.some.inj H
    go_enter Tryd.func12, Tryd.ntmps12
    go_wp2_with (first | ((with_reducible refine gate_callee (f := 13) rfl ?_); refine goesL_ (some 6) rfl rfl Tryd.func13 (by kernel_rfl) rfl #[.int .i64 7] rfl (by (try simp only [List.map_toArray, List.map_cons, List.map_nil]); first | done | rfl | (simp only [List.length_drop, List.length_take]; rfl)) ?_; (with_reducible refine (nat_Of.calls k 7 t184 t187 _ A1.out).mono ?_); rintro e w8 ⟨v185, rfl, ho0, hb⟩; refine ⟨_, rfl, ?_⟩; have HO186 := Aside0.mk (Kd.V_lower (Kd.V_mono (ok' := fun k_ => True) ho0 (fun k_ hk_ => trivial)) (below_size HB.out)); replace HB := Aside0.mk (below_step HB.out hb); (try clear hb); (try clear hk); (try clear hi); (try clear ho0)) | ((with_reducible refine gate_dst (N := 1) rfl ?_); refine box_event ?hg (N := 1) ?hd (cs := #[.slice none 0 0]) (t := 26) ?hr ?_; (case hd => rfl); (case hg => rfl); (case hr => first | (go_simp; done) | (go_simp; rfl)); intro gb188 hg w9 hbox hb; have BK188 := Aside0.mk (hbox); have GW188 := Aside0.mk ((by rw [hg]; exact (below_size HB.out) : w.heap.size ≤ gb188)); have GE188 := Aside0.mk ((by rw [hg]; exact (below_size HB.out) : w.heap.size ≤ gb188)); replace HO186 := ve HO186 gb188 hg hb; replace HB := Aside0.mk (below_step HB.out hb); clear hb hbox hg; obtain ⟨Ao10, co10, eo10⟩ := Kd.V_slice HO186.out; subst eo10; have hcz11_0 : w9.cell? ⟨gb188, 0, none⟩ = some (.slice none 0 0) := (blk_cell BK188.out 0).trans rfl; have hfz11_0 := blk_frozen BK188.out 0) | ((with_reducible refine gate_store (t := 26) (p := 1) rfl ?_); refine store_event (t := 26) (p := 1) (v := ?vo_w12) (w1 := (w9.setCell ⟨gb188, 0, none⟩ (.slice Ao10 t184.length co10))) ?hg ?ho ?hn ?hr ?_; (case ho => rfl); (case hg => rfl); (case hn => rfl); (case hr => first | (go_simp; done) | (go_simp; rfl)); intro w12 hw; have n0_ : Aside0 (Kd.V (Kd.int .u32) 79 w12 w.heap.size (fun k_ => k_ ≠ gb188) (.slice Ao10 t184.length co10) t184) := ⟨(by rw [hw]; exact (by exact Kd.V_mono (Kd.V_far (p := ⟨gb188, 0, none⟩) (Kd.V_mono HO186.out (fun k_ hk => (⟨hk, hk.2⟩ : _ ∧ k_ ≠ gb188))) (fun _ hk => hk.2) (.slice Ao10 t184.length co10)) (fun _ hk => hk.1.2)))⟩; have n1_ : Aside0 (w12.heap[gb188]? = some (.cells #[.slice Ao10 t184.length co10] 26 (0, 0))) := ⟨(by rw [hw]; exact (by refine blk_put (cs := #[.slice none 0 0]) ?_ 0 _ rfl; exact BK188.out))⟩; have n2_ : Aside0 (Below w.heap.size w w12) := ⟨(by rw [hw]; exact (by repeat (first | exact HB.out | refine sb ?_ GE188)))⟩; clear hw; clear HO186; clear BK188; clear HB; have HO186 := n0_; have BK188 := n1_; have HB := n2_; clear n0_ n1_ n2_; have hcz13_0 : w12.cell? ⟨gb188, 0, none⟩ = some (.slice Ao10 t184.length co10) := (blk_cell BK188.out 0).trans rfl; have hfz13_0 := blk_frozen BK188.out 0) | ((with_reducible refine gate_callee (f := 38) rfl ?_); refine goesL_ (some 11) rfl rfl Tryd.func38 (by kernel_rfl) rfl #[.agg #[.slice Ao10 t184.length co10], .int .i64 20] rfl (by (try simp only [List.map_toArray, List.map_cons, List.map_nil]); first | done | rfl | (simp only [List.length_drop, List.length_take]; rfl)) ?_; (with_reducible refine (nat_Nat_Power.calls k (fun k_ => k_ ≠ gb188) _ _ t184 20 t189 t192 _ ?side1 A2.out).mono ?_); (case side1 => exact HO186.out); rintro e w14 ⟨v190, rfl, ho0, hb⟩; refine ⟨_, rfl, ?_⟩; have HO191 := Aside0.mk (Kd.V_lower (Kd.V_mono (ok' := fun k_ => k_ ≠ gb188) ho0 (fun k_ hk_ => Or.elim hk_ (fun hs_ => hs_) (fun hn_ => (Kd.freshB (g := gb188) (o := .cells #[.slice Ao10 t184.length co10] 26 (0, 0)) BK188.out k_ hn_)))) (below_size (by repeat (first | exact HB.out | refine sb ?_ GE188)))); replace HO186 := vb HO186 hb; replace BK188 := bb BK188 hb; replace HB := Aside0.mk (below_step (by repeat (first | exact HB.out | refine sb ?_ GE188)) hb); (try clear hb); (try clear hk); (try clear hi); (try clear ho0)) | ((with_reducible refine gate_dst (N := 3) rfl ?_); refine box_event ?hg (N := 3) ?hd (cs := #[.slice none 0 0]) (t := 26) ?hr ?_; (case hd => rfl); (case hg => rfl); (case hr => first | (go_simp; done) | (go_simp; rfl)); intro gb193 hg w15 hbox hb; have BK193 := Aside0.mk (hbox); have GW193 := Aside0.mk ((by rw [hg]; exact (below_size (by repeat (first | exact HB.out | refine sb ?_ GE188))) : w.heap.size ≤ gb193)); have GE193 := Aside0.mk ((by rw [hg]; exact (below_size (by repeat (first | exact HB.out | refine sb ?_ GE188))) : w.heap.size ≤ gb193)); have NB188_193 := nl BK188 hg; have NB193_188 := ng BK188 hg; replace HO186 := ve HO186 gb193 hg hb; replace HO191 := ve HO191 gb193 hg hb; replace BK188 := bb BK188 hb; replace HB := Aside0.mk (below_step (by repeat (first | exact HB.out | refine sb ?_ GE188)) hb); clear hb hbox hg; obtain ⟨Ao16, co16, eo16⟩ := Kd.V_slice HO191.out; subst eo16; have hnb17 := NB193_188.out; have hnc17 := NB188_193.out; have hcz18_0 : w15.cell? ⟨gb193, 0, none⟩ = some (.slice none 0 0) := (blk_cell BK193.out 0).trans rfl; have hfz18_0 := blk_frozen BK193.out 0) | ((with_reducible refine gate_store (t := 26) (p := 3) rfl ?_); refine store_event (t := 26) (p := 3) (v := ?vo_w19) (w1 := (w15.setCell ⟨gb193, 0, none⟩ (.slice Ao16 t189.length co16))) ?hg ?ho ?hn ?hr ?_; (case ho => rfl); (case hg => rfl); (case hn => rfl); (case hr => first | (go_simp; done) | (go_simp; rfl)); intro w19 hw; have n0_ : Aside0 (Kd.V (Kd.int .u32) 79 w19 w.heap.size (fun k_ => k_ ≠ gb188 ∧ k_ ≠ gb193) (.slice Ao10 t184.length co10) t184) := ⟨(by rw [hw]; exact (by exact Kd.V_mono (Kd.V_far (p := ⟨gb193, 0, none⟩) (Kd.V_mono HO186.out (fun k_ hk => (⟨hk, hk.2⟩ : _ ∧ k_ ≠ gb193))) (fun _ hk => hk.2) (.slice Ao16 t189.length co16)) (fun _ hk => ⟨hk.1.1, hk.1.2⟩)))⟩; have n1_ : Aside0 (Kd.V (Kd.int .u32) 79 w19 w.heap.size (fun k_ => k_ ≠ gb188 ∧ k_ ≠ gb193) (.slice Ao16 t189.length co16) t189) := ⟨(by rw [hw]; exact (by exact Kd.V_mono (Kd.V_far (p := ⟨gb193, 0, none⟩) (Kd.V_mono HO191.out (fun k_ hk => (⟨hk, hk.2⟩ : _ ∧ k_ ≠ gb193))) (fun _ hk => hk.2) (.slice Ao16 t189.length co16)) (fun _ hk => ⟨hk.1.1, hk.1.2⟩)))⟩; have n2_ : Aside0 (w19.heap[gb188]? = some (.cells #[.slice Ao10 t184.length co10] 26 (0, 0))) := ⟨(by rw [hw]; exact (by refine blk_far ?_ NB188_193.out _; exact BK188.out))⟩; have n3_ : Aside0 (w19.heap[gb193]? = some (.cells #[.slice Ao16 t189.length co16] 26 (0, 0))) := ⟨(by rw [hw]; exact (by refine blk_put (cs := #[.slice none 0 0]) ?_ 0 _ rfl; exact BK193.out))⟩; have n4_ : Aside0 (Below w.heap.size w w19) := ⟨(by rw [hw]; exact (by repeat (first | exact HB.out | refine sb ?_ GE188 | refine sb ?_ GE193)))⟩; clear hw; clear HO186; clear HO191; clear BK188; clear BK193; clear HB; have HO186 := n0_; have HO191 := n1_; have BK188 := n2_; have BK193 := n3_; have HB := n4_; clear n0_ n1_ n2_ n3_ n4_; have hcz20_0 : w19.cell? ⟨gb193, 0, none⟩ = some (.slice Ao16 t189.length co16) := (blk_cell BK193.out 0).trans rfl; have hfz20_0 := blk_frozen BK193.out 0) | (go_at_call 20; (with_reducible refine (nat_Nat_Text.calls k (fun k_ => (k_ ≠ gb188 ∧ k_ ≠ gb193)) _ _ t189 t194 _ ?side1 A5.out).mono ?_); (case side1 => exact HO191.out); rintro e w21 ⟨rfl, hb⟩; replace HO186 := vb HO186 hb; replace HO191 := vb HO191 hb; replace BK188 := bb BK188 hb; replace BK193 := bb BK193 hb; replace HB := Aside0.mk (below_step (by repeat (first | exact HB.out | refine sb ?_ GE188 | refine sb ?_ GE193)) hb); (try clear hb); (try clear hb2); (try clear hk); (try clear hi); have hcz22_0 : w21.cell? ⟨gb193, 0, none⟩ = some (.slice Ao16 t189.length co16) := (blk_cell BK193.out 0).trans rfl; have hfz22_0 := blk_frozen BK193.out 0) | (go_at_call 25; (with_reducible refine (nat_Nat_Bits.calls _ _ t189 t195 _ ?side1 ?side2 A7.out).mono ?_); (case side1 => exact (Kd.V_reads' HO191.out).2.2); (case side2 => exact (Kd.V_reads' HO191.out).2.1); rintro e w23 ⟨rfl, hb⟩; replace HO186 := vb HO186 hb; replace HO191 := vb HO191 hb; replace BK188 := bb BK188 hb; replace BK193 := bb BK193 hb; replace HB := Aside0.mk (below_step (by repeat (first | exact HB.out | refine sb ?_ GE188 | refine sb ?_ GE193)) hb); (try clear hb); (try clear hb2); (try clear hk); (try clear hi)))
    go_ret
    exact ⟨by first | rfl | (simp [errW_none, errW_some] <;> rfl) | (simp [*, errW_none, errW_some] <;> rfl), by repeat (first | exact HB.out | refine sb ?_ GE188 | refine sb ?_ GE193)⟩
   ·rw [if_neg c6] at H
    have c6b0 : (t194.toList == ([55, 57, 55, 57, 50, 50, 54, 54, 50, 57, 55, 54, 49, 50, 48, 48, 49] : List UInt8)) = false := beq_eq_false_iff_ne.mpr c6
    have c6b1 : (t194.toList != ([55, 57, 55, 57, 50, 50, 54, 54, 50, 57, 55, 54, 49, 50, 48, 48, 49] : List UInt8)) = true := bne_iff_ne.mpr c6
    obtain rfl := Option.some.inj H
    go_enter Tryd.func12, Tryd.ntmps12
    go_wp2_with (first | ((with_reducible refine gate_callee (f := 13) rfl ?_); refine goesL_ (some 6) rfl rfl Tryd.func13 (by kernel_rfl) rfl #[.int .i64 7] rfl (by (try simp only [List.map_toArray, List.map_cons, List.map_nil]); first | done | rfl | (simp only [List.length_drop, List.length_take]; rfl)) ?_; (with_reducible refine (nat_Of.calls k 7 t184 t187 _ A1.out).mono ?_); rintro e w24 ⟨v185, rfl, ho0, hb⟩; refine ⟨_, rfl, ?_⟩; have HO186 := Aside0.mk (Kd.V_lower (Kd.V_mono (ok' := fun k_ => True) ho0 (fun k_ hk_ => trivial)) (below_size HB.out)); replace HB := Aside0.mk (below_step HB.out hb); (try clear hb); (try clear hk); (try clear hi); (try clear ho0)) | ((with_reducible refine gate_dst (N := 1) rfl ?_); refine box_event ?hg (N := 1) ?hd (cs := #[.slice none 0 0]) (t := 26) ?hr ?_; (case hd => rfl); (case hg => rfl); (case hr => first | (go_simp; done) | (go_simp; rfl)); intro gb188 hg w25 hbox hb; have BK188 := Aside0.mk (hbox); have GW188 := Aside0.mk ((by rw [hg]; exact (below_size HB.out) : w.heap.size ≤ gb188)); have GE188 := Aside0.mk ((by rw [hg]; exact (below_size HB.out) : w.heap.size ≤ gb188)); replace HO186 := ve HO186 gb188 hg hb; replace HB := Aside0.mk (below_step HB.out hb); clear hb hbox hg; obtain ⟨Ao26, co26, eo26⟩ := Kd.V_slice HO186.out; subst eo26; have hcz27_0 : w25.cell? ⟨gb188, 0, none⟩ = some (.slice none 0 0) := (blk_cell BK188.out 0).trans rfl; have hfz27_0 := blk_frozen BK188.out 0) | ((with_reducible refine gate_store (t := 26) (p := 1) rfl ?_); refine store_event (t := 26) (p := 1) (v := ?vo_w28) (w1 := (w25.setCell ⟨gb188, 0, none⟩ (.slice Ao26 t184.length co26))) ?hg ?ho ?hn ?hr ?_; (case ho => rfl); (case hg => rfl); (case hn => rfl); (case hr => first | (go_simp; done) | (go_simp; rfl)); intro w28 hw; have n0_ : Aside0 (Kd.V (Kd.int .u32) 79 w28 w.heap.size (fun k_ => k_ ≠ gb188) (.slice Ao26 t184.length co26) t184) := ⟨(by rw [hw]; exact (by exact Kd.V_mono (Kd.V_far (p := ⟨gb188, 0, none⟩) (Kd.V_mono HO186.out (fun k_ hk => (⟨hk, hk.2⟩ : _ ∧ k_ ≠ gb188))) (fun _ hk => hk.2) (.slice Ao26 t184.length co26)) (fun _ hk => hk.1.2)))⟩; have n1_ : Aside0 (w28.heap[gb188]? = some (.cells #[.slice Ao26 t184.length co26] 26 (0, 0))) := ⟨(by rw [hw]; exact (by refine blk_put (cs := #[.slice none 0 0]) ?_ 0 _ rfl; exact BK188.out))⟩; have n2_ : Aside0 (Below w.heap.size w w28) := ⟨(by rw [hw]; exact (by repeat (first | exact HB.out | refine sb ?_ GE188)))⟩; clear hw; clear HO186; clear BK188; clear HB; have HO186 := n0_; have BK188 := n1_; have HB := n2_; clear n0_ n1_ n2_; have hcz29_0 : w28.cell? ⟨gb188, 0, none⟩ = some (.slice Ao26 t184.length co26) := (blk_cell BK188.out 0).trans rfl; have hfz29_0 := blk_frozen BK188.out 0) | ((with_reducible refine gate_callee (f := 38) rfl ?_); refine goesL_ (some 11) rfl rfl Tryd.func38 (by kernel_rfl) rfl #[.agg #[.slice Ao26 t184.length co26], .int .i64 20] rfl (by (try simp only [List.map_toArray, List.map_cons, List.map_nil]); first | done | rfl | (simp only [List.length_drop, List.length_take]; rfl)) ?_; (with_reducible refine (nat_Nat_Power.calls k (fun k_ => k_ ≠ gb188) _ _ t184 20 t189 t192 _ ?side1 A2.out).mono ?_); (case side1 => exact HO186.out); rintro e w30 ⟨v190, rfl, ho0, hb⟩; refine ⟨_, rfl, ?_⟩; have HO191 := Aside0.mk (Kd.V_lower (Kd.V_mono (ok' := fun k_ => k_ ≠ gb188) ho0 (fun k_ hk_ => Or.elim hk_ (fun hs_ => hs_) (fun hn_ => (Kd.freshB (g := gb188) (o := .cells #[.slice Ao26 t184.length co26] 26 (0, 0)) BK188.out k_ hn_)))) (below_size (by repeat (first | exact HB.out | refine sb ?_ GE188)))); replace HO186 := vb HO186 hb; replace BK188 := bb BK188 hb; replace HB := Aside0.mk (below_step (by repeat (first | exact HB.out | refine sb ?_ GE188)) hb); (try clear hb); (try clear hk); (try clear hi); (try clear ho0)) | ((with_reducible refine gate_dst (N := 3) rfl ?_); refine box_event ?hg (N := 3) ?hd (cs := #[.slice none 0 0]) (t := 26) ?hr ?_; (case hd => rfl); (case hg => rfl); (case hr => first | (go_simp; done) | (go_simp; rfl)); intro gb193 hg w31 hbox hb; have BK193 := Aside0.mk (hbox); have GW193 := Aside0.mk ((by rw [hg]; exact (below_size (by repeat (first | exact HB.out | refine sb ?_ GE188))) : w.heap.size ≤ gb193)); have GE193 := Aside0.mk ((by rw [hg]; exact (below_size (by repeat (first | exact HB.out | refine sb ?_ GE188))) : w.heap.size ≤ gb193)); have NB188_193 := nl BK188 hg; have NB193_188 := ng BK188 hg; replace HO186 := ve HO186 gb193 hg hb; replace HO191 := ve HO191 gb193 hg hb; replace BK188 := bb BK188 hb; replace HB := Aside0.mk (below_step (by repeat (first | exact HB.out | refine sb ?_ GE188)) hb); clear hb hbox hg; obtain ⟨Ao32, co32, eo32⟩ := Kd.V_slice HO191.out; subst eo32; have hnb33 := NB193_188.out; have hnc33 := NB188_193.out; have hcz34_0 : w31.cell? ⟨gb193, 0, none⟩ = some (.slice none 0 0) := (blk_cell BK193.out 0).trans rfl; have hfz34_0 := blk_frozen BK193.out 0) | ((with_reducible refine gate_store (t := 26) (p := 3) rfl ?_); refine store_event (t := 26) (p := 3) (v := ?vo_w35) (w1 := (w31.setCell ⟨gb193, 0, none⟩ (.slice Ao32 t189.length co32))) ?hg ?ho ?hn ?hr ?_; (case ho => rfl); (case hg => rfl); (case hn => rfl); (case hr => first | (go_simp; done) | (go_simp; rfl)); intro w35 hw; have n0_ : Aside0 (Kd.V (Kd.int .u32) 79 w35 w.heap.size (fun k_ => k_ ≠ gb188 ∧ k_ ≠ gb193) (.slice Ao26 t184.length co26) t184) := ⟨(by rw [hw]; exact (by exact Kd.V_mono (Kd.V_far (p := ⟨gb193, 0, none⟩) (Kd.V_mono HO186.out (fun k_ hk => (⟨hk, hk.2⟩ : _ ∧ k_ ≠ gb193))) (fun _ hk => hk.2) (.slice Ao32 t189.length co32)) (fun _ hk => ⟨hk.1.1, hk.1.2⟩)))⟩; have n1_ : Aside0 (Kd.V (Kd.int .u32) 79 w35 w.heap.size (fun k_ => k_ ≠ gb188 ∧ k_ ≠ gb193) (.slice Ao32 t189.length co32) t189) := ⟨(by rw [hw]; exact (by exact Kd.V_mono (Kd.V_far (p := ⟨gb193, 0, none⟩) (Kd.V_mono HO191.out (fun k_ hk => (⟨hk, hk.2⟩ : _ ∧ k_ ≠ gb193))) (fun _ hk => hk.2) (.slice Ao32 t189.length co32)) (fun _ hk => ⟨hk.1.1, hk.1.2⟩)))⟩; have n2_ : Aside0 (w35.heap[gb188]? = some (.cells #[.slice Ao26 t184.length co26] 26 (0, 0))) := ⟨(by rw [hw]; exact (by refine blk_far ?_ NB188_193.out _; exact BK188.out))⟩; have n3_ : Aside0 (w35.heap[gb193]? = some (.cells #[.slice Ao32 t189.length co32] 26 (0, 0))) := ⟨(by rw [hw]; exact (by refine blk_put (cs := #[.slice none 0 0]) ?_ 0 _ rfl; exact BK193.out))⟩; have n4_ : Aside0 (Below w.heap.size w w35) := ⟨(by rw [hw]; exact (by repeat (first | exact HB.out | refine sb ?_ GE188 | refine sb ?_ GE193)))⟩; clear hw; clear HO186; clear HO191; clear BK188; clear BK193; clear HB; have HO186 := n0_; have HO191 := n1_; have BK188 := n2_; have BK193 := n3_; have HB := n4_; clear n0_ n1_ n2_ n3_ n4_; have hcz36_0 : w35.cell? ⟨gb193, 0, none⟩ = some (.slice Ao32 t189.length co32) := (blk_cell BK193.out 0).trans rfl; have hfz36_0 := blk_frozen BK193.out 0) | (go_at_call 20; (with_reducible refine (nat_Nat_Text.calls k (fun k_ => (k_ ≠ gb188 ∧ k_ ≠ gb193)) _ _ t189 t194 _ ?side1 A5.out).mono ?_); (case side1 => exact HO191.out); rintro e w37 ⟨rfl, hb⟩; replace HO186 := vb HO186 hb; replace HO191 := vb HO191 hb; replace BK188 := bb BK188 hb; replace BK193 := bb BK193 hb; replace HB := Aside0.mk (below_step (by repeat (first | exact HB.out | refine sb ?_ GE188 | refine sb ?_ GE193)) hb); (try clear hb); (try clear hb2); (try clear hk); (try clear hi)))
    go_ret
    exact ⟨by first | rfl | (simp [errW_none, errW_some] <;> rfl) | (simp [*, errW_none, errW_some] <;> rfl), by repeat (first | exact HB.out | refine sb ?_ GE188 | refine sb ?_ GE193)⟩
  ·rw [if_neg c4] at H
   have c4b0 : (t192 == 0) = false := beq_eq_false_iff_ne.mpr c4
   have c4b1 : (t192 != 0) = true := bne_iff_ne.mpr c4
   obtain rfl := Option.some.inj H
   go_enter Tryd.func12, Tryd.ntmps12
   go_wp2_with (first | ((with_reducible refine gate_callee (f := 13) rfl ?_); refine goesL_ (some 6) rfl rfl Tryd.func13 (by kernel_rfl) rfl #[.int .i64 7] rfl (by (try simp only [List.map_toArray, List.map_cons, List.map_nil]); first | done | rfl | (simp only [List.length_drop, List.length_take]; rfl)) ?_; (with_reducible refine (nat_Of.calls k 7 t184 t187 _ A1.out).mono ?_); rintro e w38 ⟨v185, rfl, ho0, hb⟩; refine ⟨_, rfl, ?_⟩; have HO186 := Aside0.mk (Kd.V_lower (Kd.V_mono (ok' := fun k_ => True) ho0 (fun k_ hk_ => trivial)) (below_size HB.out)); replace HB := Aside0.mk (below_step HB.out hb); (try clear hb); (try clear hk); (try clear hi); (try clear ho0)) | ((with_reducible refine gate_dst (N := 1) rfl ?_); refine box_event ?hg (N := 1) ?hd (cs := #[.slice none 0 0]) (t := 26) ?hr ?_; (case hd => rfl); (case hg => rfl); (case hr => first | (go_simp; done) | (go_simp; rfl)); intro gb188 hg w39 hbox hb; have BK188 := Aside0.mk (hbox); have GW188 := Aside0.mk ((by rw [hg]; exact (below_size HB.out) : w.heap.size ≤ gb188)); have GE188 := Aside0.mk ((by rw [hg]; exact (below_size HB.out) : w.heap.size ≤ gb188)); replace HO186 := ve HO186 gb188 hg hb; replace HB := Aside0.mk (below_step HB.out hb); clear hb hbox hg; obtain ⟨Ao40, co40, eo40⟩ := Kd.V_slice HO186.out; subst eo40; have hcz41_0 : w39.cell? ⟨gb188, 0, none⟩ = some (.slice none 0 0) := (blk_cell BK188.out 0).trans rfl; have hfz41_0 := blk_frozen BK188.out 0) | ((with_reducible refine gate_store (t := 26) (p := 1) rfl ?_); refine store_event (t := 26) (p := 1) (v := ?vo_w42) (w1 := (w39.setCell ⟨gb188, 0, none⟩ (.slice Ao40 t184.length co40))) ?hg ?ho ?hn ?hr ?_; (case ho => rfl); (case hg => rfl); (case hn => rfl); (case hr => first | (go_simp; done) | (go_simp; rfl)); intro w42 hw; have n0_ : Aside0 (Kd.V (Kd.int .u32) 79 w42 w.heap.size (fun k_ => k_ ≠ gb188) (.slice Ao40 t184.length co40) t184) := ⟨(by rw [hw]; exact (by exact Kd.V_mono (Kd.V_far (p := ⟨gb188, 0, none⟩) (Kd.V_mono HO186.out (fun k_ hk => (⟨hk, hk.2⟩ : _ ∧ k_ ≠ gb188))) (fun _ hk => hk.2) (.slice Ao40 t184.length co40)) (fun _ hk => hk.1.2)))⟩; have n1_ : Aside0 (w42.heap[gb188]? = some (.cells #[.slice Ao40 t184.length co40] 26 (0, 0))) := ⟨(by rw [hw]; exact (by refine blk_put (cs := #[.slice none 0 0]) ?_ 0 _ rfl; exact BK188.out))⟩; have n2_ : Aside0 (Below w.heap.size w w42) := ⟨(by rw [hw]; exact (by repeat (first | exact HB.out | refine sb ?_ GE188)))⟩; clear hw; clear HO186; clear BK188; clear HB; have HO186 := n0_; have BK188 := n1_; have HB := n2_; clear n0_ n1_ n2_; have hcz43_0 : w42.cell? ⟨gb188, 0, none⟩ = some (.slice Ao40 t184.length co40) := (blk_cell BK188.out 0).trans rfl; have hfz43_0 := blk_frozen BK188.out 0) | ((with_reducible refine gate_callee (f := 38) rfl ?_); refine goesL_ (some 11) rfl rfl Tryd.func38 (by kernel_rfl) rfl #[.agg #[.slice Ao40 t184.length co40], .int .i64 20] rfl (by (try simp only [List.map_toArray, List.map_cons, List.map_nil]); first | done | rfl | (simp only [List.length_drop, List.length_take]; rfl)) ?_; (with_reducible refine (nat_Nat_Power.calls k (fun k_ => k_ ≠ gb188) _ _ t184 20 t189 t192 _ ?side1 A2.out).mono ?_); (case side1 => exact HO186.out); rintro e w44 ⟨v190, rfl, ho0, hb⟩; refine ⟨_, rfl, ?_⟩; have HO191 := Aside0.mk (Kd.V_lower (Kd.V_mono (ok' := fun k_ => k_ ≠ gb188) ho0 (fun k_ hk_ => Or.elim hk_ (fun hs_ => hs_) (fun hn_ => (Kd.freshB (g := gb188) (o := .cells #[.slice Ao40 t184.length co40] 26 (0, 0)) BK188.out k_ hn_)))) (below_size (by repeat (first | exact HB.out | refine sb ?_ GE188)))); replace HO186 := vb HO186 hb; replace BK188 := bb BK188 hb; replace HB := Aside0.mk (below_step (by repeat (first | exact HB.out | refine sb ?_ GE188)) hb); (try clear hb); (try clear hk); (try clear hi); (try clear ho0)) | ((with_reducible refine gate_dst (N := 3) rfl ?_); refine box_event ?hg (N := 3) ?hd (cs := #[.slice none 0 0]) (t := 26) ?hr ?_; (case hd => rfl); (case hg => rfl); (case hr => first | (go_simp; done) | (go_simp; rfl)); intro gb193 hg w45 hbox hb; have BK193 := Aside0.mk (hbox); have GW193 := Aside0.mk ((by rw [hg]; exact (below_size (by repeat (first | exact HB.out | refine sb ?_ GE188))) : w.heap.size ≤ gb193)); have GE193 := Aside0.mk ((by rw [hg]; exact (below_size (by repeat (first | exact HB.out | refine sb ?_ GE188))) : w.heap.size ≤ gb193)); have NB188_193 := nl BK188 hg; have NB193_188 := ng BK188 hg; replace HO186 := ve HO186 gb193 hg hb; replace HO191 := ve HO191 gb193 hg hb; replace BK188 := bb BK188 hb; replace HB := Aside0.mk (below_step (by repeat (first | exact HB.out | refine sb ?_ GE188)) hb); clear hb hbox hg; obtain ⟨Ao46, co46, eo46⟩ := Kd.V_slice HO191.out; subst eo46; have hnb47 := NB193_188.out; have hnc47 := NB188_193.out; have hcz48_0 : w45.cell? ⟨gb193, 0, none⟩ = some (.slice none 0 0) := (blk_cell BK193.out 0).trans rfl; have hfz48_0 := blk_frozen BK193.out 0))
   go_ret
   exact ⟨by first | rfl | (simp [errW_none, errW_some] <;> rfl) | (simp [*, errW_none, errW_some] <;> rfl), by repeat (first | exact HB.out | refine sb ?_ GE188 | refine sb ?_ GE193)⟩
 ·rw [if_neg c3] at H
  have c3b0 : (t187 == 0) = false := beq_eq_false_iff_ne.mpr c3
  have c3b1 : (t187 != 0) = true := bne_iff_ne.mpr c3
  obtain rfl := Option.some.inj H
  go_enter Tryd.func12, Tryd.ntmps12
  go_wp2_with (first | ((with_reducible refine gate_callee (f := 13) rfl ?_); refine goesL_ (some 6) rfl rfl Tryd.func13 (by kernel_rfl) rfl #[.int .i64 7] rfl (by (try simp only [List.map_toArray, List.map_cons, List.map_nil]); first | done | rfl | (simp only [List.length_drop, List.length_take]; rfl)) ?_; (with_reducible refine (nat_Of.calls k 7 t184 t187 _ A1.out).mono ?_); rintro e w49 ⟨v185, rfl, ho0, hb⟩; refine ⟨_, rfl, ?_⟩; have HO186 := Aside0.mk (Kd.V_lower (Kd.V_mono (ok' := fun k_ => True) ho0 (fun k_ hk_ => trivial)) (below_size HB.out)); replace HB := Aside0.mk (below_step HB.out hb); (try clear hb); (try clear hk); (try clear hi); (try clear ho0)) | ((with_reducible refine gate_dst (N := 1) rfl ?_); refine box_event ?hg (N := 1) ?hd (cs := #[.slice none 0 0]) (t := 26) ?hr ?_; (case hd => rfl); (case hg => rfl); (case hr => first | (go_simp; done) | (go_simp; rfl)); intro gb188 hg w50 hbox hb; have BK188 := Aside0.mk (hbox); have GW188 := Aside0.mk ((by rw [hg]; exact (below_size HB.out) : w.heap.size ≤ gb188)); have GE188 := Aside0.mk ((by rw [hg]; exact (below_size HB.out) : w.heap.size ≤ gb188)); replace HO186 := ve HO186 gb188 hg hb; replace HB := Aside0.mk (below_step HB.out hb); clear hb hbox hg; obtain ⟨Ao51, co51, eo51⟩ := Kd.V_slice HO186.out; subst eo51; have hcz52_0 : w50.cell? ⟨gb188, 0, none⟩ = some (.slice none 0 0) := (blk_cell BK188.out 0).trans rfl; have hfz52_0 := blk_frozen BK188.out 0) | ((with_reducible refine gate_store (t := 26) (p := 1) rfl ?_); refine store_event (t := 26) (p := 1) (v := ?vo_w53) (w1 := (w50.setCell ⟨gb188, 0, none⟩ (.slice Ao51 t184.length co51))) ?hg ?ho ?hn ?hr ?_; (case ho => rfl); (case hg => rfl); (case hn => rfl); (case hr => first | (go_simp; done) | (go_simp; rfl)); intro w53 hw; have n0_ : Aside0 (Kd.V (Kd.int .u32) 79 w53 w.heap.size (fun k_ => k_ ≠ gb188) (.slice Ao51 t184.length co51) t184) := ⟨(by rw [hw]; exact (by exact Kd.V_mono (Kd.V_far (p := ⟨gb188, 0, none⟩) (Kd.V_mono HO186.out (fun k_ hk => (⟨hk, hk.2⟩ : _ ∧ k_ ≠ gb188))) (fun _ hk => hk.2) (.slice Ao51 t184.length co51)) (fun _ hk => hk.1.2)))⟩; have n1_ : Aside0 (w53.heap[gb188]? = some (.cells #[.slice Ao51 t184.length co51] 26 (0, 0))) := ⟨(by rw [hw]; exact (by refine blk_put (cs := #[.slice none 0 0]) ?_ 0 _ rfl; exact BK188.out))⟩; have n2_ : Aside0 (Below w.heap.size w w53) := ⟨(by rw [hw]; exact (by repeat (first | exact HB.out | refine sb ?_ GE188)))⟩; clear hw; clear HO186; clear BK188; clear HB; have HO186 := n0_; have BK188 := n1_; have HB := n2_; clear n0_ n1_ n2_; have hcz54_0 : w53.cell? ⟨gb188, 0, none⟩ = some (.slice Ao51 t184.length co51) := (blk_cell BK188.out 0).trans rfl; have hfz54_0 := blk_frozen BK188.out 0) | ((with_reducible refine gate_callee (f := 38) rfl ?_); refine goesL_ (some 11) rfl rfl Tryd.func38 (by kernel_rfl) rfl #[.agg #[.slice Ao51 t184.length co51], .int .i64 20] rfl (by (try simp only [List.map_toArray, List.map_cons, List.map_nil]); first | done | rfl | (simp only [List.length_drop, List.length_take]; rfl)) ?_; (with_reducible refine (nat_Nat_Power.calls k (fun k_ => k_ ≠ gb188) _ _ t184 20 t189 t192 _ ?side1 A2.out).mono ?_); (case side1 => exact HO186.out); rintro e w55 ⟨v190, rfl, ho0, hb⟩; refine ⟨_, rfl, ?_⟩; have HO191 := Aside0.mk (Kd.V_lower (Kd.V_mono (ok' := fun k_ => k_ ≠ gb188) ho0 (fun k_ hk_ => Or.elim hk_ (fun hs_ => hs_) (fun hn_ => (Kd.freshB (g := gb188) (o := .cells #[.slice Ao51 t184.length co51] 26 (0, 0)) BK188.out k_ hn_)))) (below_size (by repeat (first | exact HB.out | refine sb ?_ GE188)))); replace HO186 := vb HO186 hb; replace BK188 := bb BK188 hb; replace HB := Aside0.mk (below_step (by repeat (first | exact HB.out | refine sb ?_ GE188)) hb); (try clear hb); (try clear hk); (try clear hi); (try clear ho0)) | ((with_reducible refine gate_dst (N := 3) rfl ?_); refine box_event ?hg (N := 3) ?hd (cs := #[.slice none 0 0]) (t := 26) ?hr ?_; (case hd => rfl); (case hg => rfl); (case hr => first | (go_simp; done) | (go_simp; rfl)); intro gb193 hg w56 hbox hb; have BK193 := Aside0.mk (hbox); have GW193 := Aside0.mk ((by rw [hg]; exact (below_size (by repeat (first | exact HB.out | refine sb ?_ GE188))) : w.heap.size ≤ gb193)); have GE193 := Aside0.mk ((by rw [hg]; exact (below_size (by repeat (first | exact HB.out | refine sb ?_ GE188))) : w.heap.size ≤ gb193)); have NB188_193 := nl BK188 hg; have NB193_188 := ng BK188 hg; replace HO186 := ve HO186 gb193 hg hb; replace HO191 := ve HO191 gb193 hg hb; replace BK188 := bb BK188 hb; replace HB := Aside0.mk (below_step (by repeat (first | exact HB.out | refine sb ?_ GE188)) hb); clear hb hbox hg; obtain ⟨Ao57, co57, eo57⟩ := Kd.V_slice HO191.out; subst eo57; have hnb58 := NB193_188.out; have hnc58 := NB188_193.out; have hcz59_0 : w56.cell? ⟨gb193, 0, none⟩ = some (.slice none 0 0) := (blk_cell BK193.out 0).trans rfl; have hfz59_0 := blk_frozen BK193.out 0))
  go_ret
  exact ⟨by first | rfl | (simp [errW_none, errW_some] <;> rfl) | (simp [*, errW_none, errW_some] <;> rfl), by repeat (first | exact HB.out | refine sb ?_ GE188 | refine sb ?_ GE193)⟩
end Go.Proofs.YtgcngbmkgjphpaaDoor.PAll
end

section
namespace Go.Proofs.YtgcngbmkgjphpaaDoor.PAll
open Go.RowKit Go.Proofs.YtgcngbmkgjphpaaDoorW.PrintWords Go.Proofs.YtgcngbmkgjphpaaDoorW.PrintLast Go.Proofs.YtgcngbmkgjphpaaDoorW.PrintMore
attribute [local go_sem] max2_int min2_int max_two min_two max_three min_three max_four min_four   -- for this text's walks alone
set_option linter.unusedVariables false
set_option linter.unusedSimpArgs false
def nat_Product.T16 : Bool × List (List Nat × List Nat) := (true, [([], []), ([], []), ([1], [1]), ([2], [2]), ([0, 3, 3], [0, 3]), ([4], [4]), ([5], [5]), ([5], [5]), ([6, 4, 0, 1, 2, 3, 4, 5, 6], [6]), ([7, 8, 0, 1, 2, 3, 4, 5, 6, 7, 8], [7])])
def nat_Product.B16 : List Nat := [0, 0, 2, 6, 15, 31, 63, 63, 127, 511]
theorem nat_Product.tab16 : rtab .any (opsOf Tryd.f16 16) = nat_Product.T16 := by kernel_rfl
theorem nat_Product.bits16 : waitsOk nat_Product.T16.2 nat_Product.B16 = true := by kernel_rfl
end Go.Proofs.YtgcngbmkgjphpaaDoor.PAll
end

section
namespace Go.Proofs.YtgcngbmkgjphpaaDoor.Nums
open Go.RowKit Go.Proofs.YtgcngbmkgjphpaaDoor.PAll Go.Proofs.YtgcngbmkgjphpaaDoorW.PrintWords Go.Proofs.YtgcngbmkgjphpaaDoorW.PrintLast Go.Proofs.YtgcngbmkgjphpaaDoorW.PrintMore
set_option linter.unusedVariables false
set_option linter.unusedSimpArgs false
theorem bl_pow {x : Nat} (hx : x ≠ 0) (n : Nat) : (bl x - 1) * n < bl (x ^ n) := by
  have h1 := bl_pos.mpr hx
  have a1 : 2 ^ (bl x - 1) ≤ x := lt_bl.mp (by omega)
  have a2 := Nat.pow_le_pow_left a1 n
  rw [← Nat.pow_mul] at a2
  exact lt_bl.mpr a2
theorem pow_mono {x i n : Nat} (hx : 0 < x) (h : i ≤ n) : x ^ i ≤ x ^ n := Nat.pow_le_pow_right hx h
theorem small_pow {x n : Nat} (hx : bl x ≤ 1) (hn : n ≠ 0) : x ^ n = x := by
  have h : x < 2 := by simpa using bl_le.mp hx
  have : x = 0 ∨ x = 1 := by omega
  rcases this with rfl | rfl
  · exact Nat.zero_pow (by omega)
  · exact Nat.one_pow n
/-- The loop of the program's power. -/
theorem pow_loop (x n : Nat) (hx : 2 ≤ bl x) (hxl : bl x ≤ 65536) (hn : n ≤ 65536) (R : List Int × Int) (hfit : bl (x ^ n) ≤ 65536 → R = (dgs 4294967296 (x ^ n), 0)) (hbig : ¬ bl (x ^ n) ≤ 65536 → R = ([], 41)) : ∀ (m i : Nat), m = n - i → i ≤ n → bl (x ^ i) ≤ 65536 →
    Ev (fun k => nat_Nat_Power.l0 k (n : Int) (i : Int) (dgs 4294967296 x) (dgs 4294967296 (x ^ i))) R := by
  have hx0 : 0 < x := by
    rcases Nat.eq_zero_or_pos x with h | h
    · subst h; rw [bl_zero] at hx; omega
    · exact h
  intro m
  induction m with
  | zero =>
    intro i hm hi hb
    obtain rfl : i = n := by omega
    rw [hfit hb]
    refine Ev.step (f := fun _ => some (dgs 4294967296 (x ^ i), 0)) (fun k => ?_) (Ev.now _)
    rw [nat_Nat_Power.l0, if_neg (by omega)]
  | succ m ih =>
    intro i hm hi hb
    by_cases g : bl (x ^ i * x) ≤ 65536
    · have h1 := ih (i + 1) (by omega) (by omega) (by rw [Nat.pow_succ]; exact g)
      rw [Nat.pow_succ] at h1
      have h2 := (mul_fits hb hxl g).bind (f := fun k bt180 => (if bt180.2 = 0 then (nat_Nat_Power.l0 k (n : Int) ((i + 1 : Nat) : Int) (dgs 4294967296 x) bt180.1) else (some (([] : List Int), bt180.2)))) (r := R) (Ev.congr (fun k => by rw [if_pos rfl]) h1)
      refine Ev.step (fun k => ?_) h2
      rw [nat_Nat_Power.l0, if_pos (by omega), wrap_in (by omega) (by omega)]
      rfl
    · have hnb : ¬ bl (x ^ n) ≤ 65536 := by
        have := bl_mono (pow_mono hx0 (show i + 1 ≤ n by omega))
        rw [Nat.pow_succ] at this
        omega
      rw [hbig hnb]
      have h2 := (mul_big hb hxl g).bind (f := fun k bt180 => (if bt180.2 = 0 then (nat_Nat_Power.l0 k (n : Int) ((i + 1 : Nat) : Int) (dgs 4294967296 x) bt180.1) else (some (([] : List Int), bt180.2)))) (r := ([], 41)) (Ev.congr (fun k => by rw [if_neg (by decide)]) (Ev.now _))
      refine Ev.step (fun k => ?_) h2
      rw [nat_Nat_Power.l0, if_pos (by omega), wrap_in (by omega) (by omega)]
      rfl
theorem pow_head (k : Nat) (l : List Int) (a n : Int) (hb : nat_Nat_Bits.f l = some a) (h0 : ¬ n < 0) (h1 : ¬ n = 0) (h2 : ¬ a < 2) (h3 : ¬ n > 2147483647) (A : Int) (hA : wrap64 (wrap64 (a - 1) * n) = A) (h4 : ¬ A ≥ 65536) : nat_Nat_Power.f k l n = (nat_of.f k 1).bind fun t176 => nat_Nat_Power.l0 k n 0 l t176 := by
  unfold nat_Nat_Power.f
  rw [if_neg h0, if_neg h1, hb, Option.bind_some, if_neg h2, if_neg h3, Option.bind_some, hA, if_neg h4]
theorem pow_head_big (k : Nat) (l : List Int) (a n : Int) (hb : nat_Nat_Bits.f l = some a) (h0 : ¬ n < 0) (h1 : ¬ n = 0) (h2 : ¬ a < 2) (h3 : n > 2147483647 ∨ wrap64 (wrap64 (a - 1) * n) ≥ 65536) : nat_Nat_Power.f k l n = some ([], 41) := by
  unfold nat_Nat_Power.f
  rw [if_neg h0, if_neg h1, hb, Option.bind_some, if_neg h2]
  by_cases c : n > 2147483647
  · rw [if_pos c]
  · rw [if_neg c, Option.bind_some, if_pos (h3.resolve_left c)]
/-- The program's power. -/
theorem pow_ev (x n : Nat) (hxl : bl x ≤ 65536) (hn : n < 9223372036854775808) (R : List Int × Int) (hfit : bl (x ^ n) ≤ 65536 → R = (dgs 4294967296 (x ^ n), 0)) (hbig : ¬ bl (x ^ n) ≤ 65536 → R = ([], 41)) : Ev (fun k => nat_Nat_Power.f k (dgs 4294967296 x) (n : Int)) R := by
  have lx := pd_len (n := x) (k := 2048) (by omega)
  have hb := bits_some (n := x) (by omega)
  by_cases h0 : n = 0
  · subst h0
    rw [Nat.pow_zero] at hfit
    rw [hfit (by rw [bl_one]; omega)]
    refine Ev.congr (fun k => ?_) ((of_ev 1 (by omega)).bind (f := fun _ t171 => some (t171, (0 : Int))) (Ev.now _))
    unfold nat_Nat_Power.f
    rw [if_neg (by omega), if_pos (by omega)]
    rfl
  · by_cases h1 : bl x < 2
    · have e := small_pow (x := x) (n := n) (by omega) h0
      rw [e] at hfit
      rw [hfit hxl]
      refine Ev.congr (fun k => ?_) (Ev.now _)
      unfold nat_Nat_Power.f
      rw [if_neg (by omega), if_neg (by omega), hb, Option.bind_some, if_pos (by omega)]
    · have hx0 : x ≠ 0 := by rintro rfl; rw [bl_zero] at h1; omega
      have hbp := bl_pow hx0 n
      have hge : n ≤ (bl x - 1) * n := Nat.le_mul_of_pos_left n (by omega)
      by_cases h2 : n > 2147483647
      · have hB : ¬ bl (x ^ n) ≤ 65536 := by omega
        rw [hbig hB]
        refine Ev.congr (fun k => ?_) (Ev.now _)
        exact pow_head_big k _ _ _ hb (by omega) (by omega) (by omega) (.inl (by omega))
      · have hprod : (bl x - 1) * n ≤ 65535 * 2147483647 := Nat.mul_le_mul (by omega) (by omega)
        have hw : wrap64 (wrap64 (((bl x : Nat) : Int) - 1) * (n : Int)) = (((bl x - 1) * n : Nat) : Int) := by
          rw [wrap_in (a := ((bl x : Nat) : Int) - 1) (by omega) (by omega), show ((bl x : Nat) : Int) - 1 = ((bl x - 1 : Nat) : Int) by omega, ← Int.natCast_mul]
          generalize (bl x - 1) * n = M at *
          rw [wrap_in (by omega) (by omega)]
        by_cases h3 : (bl x - 1) * n ≥ 65536
        · have hB : ¬ bl (x ^ n) ≤ 65536 := by omega
          rw [hbig hB]
          refine Ev.congr (fun k => ?_) (Ev.now _)
          exact pow_head_big k _ _ _ hb (by omega) (by omega) (by omega) (.inr (by rw [hw]; omega))
        · have hl := pow_loop x n (by omega) hxl (by omega) R hfit hbig n 0 (by omega) (by omega) (by rw [Nat.pow_zero, bl_one]; omega)
          rw [Nat.pow_zero] at hl
          have h4 := (of_ev 1 (by omega)).bind (f := fun k t176 => nat_Nat_Power.l0 k (n : Int) 0 (dgs 4294967296 x) t176) hl
          refine Ev.congr (fun k => ?_) h4
          exact pow_head k _ _ _ hb (by omega) (by omega) (by omega) (by omega) _ hw (by omega)
/-- awake: a small power. -/
theorem seven20 : (7 : Nat) ^ 20 = 79792266297612001 := by decide
theorem bl_seven : bl 79792266297612001 = 57 := by
  apply Nat.le_antisymm
  · rw [bl_le]; decide
  · have : 56 < bl 79792266297612001 := by rw [lt_bl]; decide
    omega
theorem dec_seven : (dec 79792266297612001).toList = ([55, 57, 55, 57, 50, 50, 54, 54, 50, 57, 55, 54, 49, 50, 48, 48, 49] : List UInt8) := by
  have h := dgs_split (b := 10) (by omega) 16 79792266297612001 (by decide)
  rw [show 79792266297612001 / 10 ^ 16 = 7 from by decide, dgs_pos (b := 10) (n := 7) (by omega) (by omega), show 7 / 10 = 0 from rfl, dgs_zero] at h
  unfold dec dd
  rw [if_neg (by omega), h, ByteArray.toList_eq, strOfNums_data]
  decide
theorem awake_ev : Ev (fun k => heraldlaw04_awake.f k) true := by
  have h1 := Of_ev 7 (by omega)
  have b7 : bl 7 ≤ 65536 := by
    have : bl 7 ≤ 3 := bl_le.mpr (by decide)
    omega
  have hs : bl (7 ^ 20) ≤ 65536 := by rw [seven20, bl_seven]; omega
  have h2 := pow_ev 7 20 b7 (by omega) (dgs 4294967296 79792266297612001, 0) (fun _ => by rw [seven20]) (fun h => absurd hs h)
  have l1 := pd_len (n := 79792266297612001) (k := 2) (by rw [bl_seven]; omega)
  have h3 := text_ev (n := 79792266297612001) (by omega)
  have h4 := bits_some (n := 79792266297612001) (by omega)
  rw [bl_seven] at h4
  have q1 : Ev (fun k => (nat_Nat_Text.f k (dgs 4294967296 79792266297612001)).bind fun t194 => (if t194.toList = ([55, 57, 55, 57, 50, 50, 54, 54, 50, 57, 55, 54, 49, 50, 48, 48, 49] : List UInt8) then ((nat_Nat_Bits.f (dgs 4294967296 79792266297612001)).bind fun t195 => (some (t195 == 57))) else (some false))) true := by
    refine h3.bind (f := fun k t194 => (if t194.toList = ([55, 57, 55, 57, 50, 50, 54, 54, 50, 57, 55, 54, 49, 50, 48, 48, 49] : List UInt8) then ((nat_Nat_Bits.f (dgs 4294967296 79792266297612001)).bind fun t195 => (some (t195 == 57))) else (some false))) (Ev.congr (fun k => ?_) (Ev.now _))
    rw [if_pos dec_seven, h4]
    rfl
  have q2 := h2.bind (f := fun k bt189 => (if (0 : Int) = 0 then (if bt189.2 = 0 then ((nat_Nat_Text.f k bt189.1).bind fun t194 => (if t194.toList = ([55, 57, 55, 57, 50, 50, 54, 54, 50, 57, 55, 54, 49, 50, 48, 48, 49] : List UInt8) then ((nat_Nat_Bits.f bt189.1).bind fun t195 => (some (t195 == 57))) else (some false))) else (some false)) else (some false))) (r := true) (Ev.congr (fun k => by rw [if_pos rfl, if_pos rfl]) q1)
  exact h1.bind q2
end Go.Proofs.YtgcngbmkgjphpaaDoor.Nums
end

section
namespace Go.Proofs.YtgcngbmkgjphpaaDoor.Nums
open Go.RowKit Go.Proofs.YtgcngbmkgjphpaaDoor.PAll Go.Proofs.YtgcngbmkgjphpaaDoorW.PrintWords Go.Proofs.YtgcngbmkgjphpaaDoorW.PrintLast Go.Proofs.YtgcngbmkgjphpaaDoorW.PrintMore
set_option linter.unusedVariables false
set_option linter.unusedSimpArgs false
theorem wf_i64 {a : Int} (h : (Lit.int .i64 a).wf = true) : -9223372036854775808 ≤ a ∧ a < 9223372036854775808 := by
  simp [Lit.wf, IntKind.min, IntKind.max, IntKind.signed, IntKind.bits] at h
  omega
theorem wf_u32 {a : Int} (h : (Lit.int .u32 a).wf = true) : 0 ≤ a ∧ a < 4294967296 := by
  simp [Lit.wf, IntKind.min, IntKind.max, IntKind.signed, IntKind.bits] at h
  omega
end Go.Proofs.YtgcngbmkgjphpaaDoor.Nums
end
