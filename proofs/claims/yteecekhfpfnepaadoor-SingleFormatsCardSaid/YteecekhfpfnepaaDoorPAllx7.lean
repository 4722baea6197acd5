-- Written by a program of this session out of the translation. Lean checks it.
import Derived.Test.YteecekhfpfnepaaDoorPAllx0
namespace Go.Proofs.YteecekhfpfnepaaDoor.PAll
open Go.RowKit Go.Proofs.YteecekhfpfnepaaDoorW.PrintWords Go.Proofs.YteecekhfpfnepaaDoorW.PrintLast Go.Proofs.YteecekhfpfnepaaDoorW.PrintMore
attribute [local go_sem] max2_int min2_int max_two min_two max_three min_three max_four min_four   -- for this text's walks alone
set_option linter.unusedVariables false
set_option linter.unusedSimpArgs false

/-! ### heraldref03_length: function 64 -/
def heraldref03_length.l0 : Nat → Int → Int → Option (Int)
  | 0, _, _ => none
  | k + 1, x0, x3 => if x0 > 0 then (heraldref03_length.l0 k (IntKind.u64.wrap (Int.tdiv x0 2)) (wrap64 (x3 + 1))) else (some x3)
def heraldref03_length.f (k : Nat) (a0 : Int) : Option (Int) := heraldref03_length.l0 k a0 0
theorem heraldref03_length.mono_l : ∀ k, (∀ y0 y1, LeO (heraldref03_length.l0 k y0 y1) (heraldref03_length.l0 (k + 1) y0 y1))
  | 0 => fun _ _ r h => by simp [heraldref03_length.l0] at h
  | k + 1 => by
    have ih0 := heraldref03_length.mono_l k
    · intro y0 y1
      unfold heraldref03_length.l0
      repeat' first
      | (with_reducible exact ih0 _ _)
      | (with_reducible exact LeO.refl _)
      | (with_reducible exact LeO.none _)
      | (with_reducible refine LeO.ite ?_ ?_)
      | (with_reducible refine LeO.bind ?_ (fun _ => ?_))
      | exact ih0 _ _
      | exact LeO.none _
      | refine LeO.ite ?_ ?_
      | refine LeO.bind ?_ (fun _ => ?_)
theorem heraldref03_length.mono : ∀ a0 k, LeO (heraldref03_length.f k a0) (heraldref03_length.f (k + 1) a0) := by
  intro a0 k
  have ih0 := heraldref03_length.mono_l k
  unfold heraldref03_length.f
  repeat' first
      | (with_reducible exact ih0 _ _)
      | (with_reducible exact LeO.refl _)
      | (with_reducible exact LeO.none _)
      | (with_reducible refine LeO.ite ?_ ?_)
      | (with_reducible refine LeO.bind ?_ (fun _ => ?_))
      | exact ih0 _ _
      | exact LeO.none _
      | refine LeO.ite ?_ ?_
      | refine LeO.bind ?_ (fun _ => ?_)
set_option maxHeartbeats 8000000 in
set_option maxRecDepth 100000 in
theorem heraldref03_length.calls (k : Nat) (a0 : Int) (r : Int) (w : World) (h : heraldref03_length.f k a0 = some r) :
    Calls Tryd.prog 64 #[.int .u64 a0] w fun e w' => e = .returned (.int .i64 r) ∧ Drawn0 w w' := by
  have H : (heraldref03_length.l0 k a0 0) = some r := h
  clear h
  have H' := Aside0.mk H
  clear H
  go_enter Tryd.func64, Tryd.ntmps64
  go_wp2
  go_loopg [0, 3] k (fun kq v0 v3 w' => ∃ (x0_1 : Int) (x3_1 : Int), v0 = .int .u64 x0_1 ∧ v3 = .int .i64 x3_1 ∧ Aside0 (heraldref03_length.l0 kq x0_1 x3_1 = some r) ∧ Aside0 (kq ≤ k) ∧ Drawn0 w w')
  case atStart => exact ⟨(a0), (0), (by first | rfl | (simp; done) | (simp [*]; done) | (simp [i64_w]; done) | (simp [*, i64_w]; done)), (by first | rfl | (simp; done) | (simp [*]; done) | (simp [i64_w]; done) | (simp [*, i64_w]; done)), H', ⟨Nat.le_refl _⟩, by repeat (first | exact Drawn0.refl _ | apply Drawn0.step)⟩
  case round =>
    clear H'
    obtain ⟨x0_1, x3_1, rfl, rfl, HA, HK1, ⟨m1, rfl⟩⟩ := hrel
    cases gk with
    | zero => exact absurd HA.out (by simp [heraldref03_length.l0])
    | succ k1 =>
      have H := HA.out
      clear HA
      simp only [heraldref03_length.l0] at H
      by_cases c2 : x0_1 > 0
      · rw [if_pos c2] at H
        have c2b0 : decide (0 < x0_1) = true := decide_eq_true c2
        clear c2
        have H' := Aside0.mk H
        clear H
        go_wp2
        go_roundg k1
        case measure => have := HK1.out; omega
        case rel => exact ⟨(IntKind.u64.wrap (Int.tdiv x0_1 2)), (wrap64 (x3_1 + 1)), (by first | rfl | (simp; done) | (simp [*]; done) | (simp [i64_w]; done) | (simp [*, i64_w]; done)), (by first | rfl | (simp; done) | (simp [*]; done) | (simp [i64_w]; done) | (simp [*, i64_w]; done)), H', ⟨by have := HK1.out; omega⟩, by repeat (first | exact Drawn0.refl _ | apply Drawn0.step)⟩
      · rw [if_neg c2] at H
        have c2b0 : decide (0 < x0_1) = false := decide_eq_false c2
        clear c2
        obtain rfl := Option.some.inj H
        go_wp2
        go_ret
        exact ⟨by first | rfl | (simp; done) | (simp [*]; done), by repeat (first | exact Drawn0.refl _ | apply Drawn0.step)⟩

/-! ### heraldref03_cut: function 43 -/
def heraldref03_cut.j0 : Nat → Int → Int → Int → Option (Int × Int)
  | 0, _, _, _ => none
  | k + 1, x0, x1, x10 => if x10 ≤ x1 then (if 0 ≤ (IntKind.u64.wrap (wrap64 (x1 - x10))) then (some (shl .i64 x0 (IntKind.u64.wrap (wrap64 (x1 - x10))), x10)) else (none)) else (if (wrap64 (x10 - x1)) > 60 then (some (0, x10)) else (if 0 ≤ (IntKind.u64.wrap (wrap64 (x10 - x1))) then (if 0 ≤ (IntKind.u64.wrap (wrap64 ((wrap64 (x10 - x1)) - 1))) then (if (wrap64 (x0 - (shl .i64 (shr .i64 x0 (IntKind.u64.wrap (wrap64 (x10 - x1)))) (IntKind.u64.wrap (wrap64 (x10 - x1)))))) > (shl .i64 1 (IntKind.u64.wrap (wrap64 ((wrap64 (x10 - x1)) - 1)))) then (some (wrap64 ((shr .i64 x0 (IntKind.u64.wrap (wrap64 (x10 - x1)))) + 1), x10)) else (if (wrap64 (x0 - (shl .i64 (shr .i64 x0 (IntKind.u64.wrap (wrap64 (x10 - x1)))) (IntKind.u64.wrap (wrap64 (x10 - x1)))))) = (shl .i64 1 (IntKind.u64.wrap (wrap64 ((wrap64 (x10 - x1)) - 1)))) then (if (Int.tmod (shr .i64 x0 (IntKind.u64.wrap (wrap64 (x10 - x1)))) 2) = 1 then (some (wrap64 ((shr .i64 x0 (IntKind.u64.wrap (wrap64 (x10 - x1)))) + 1), x10)) else (some (shr .i64 x0 (IntKind.u64.wrap (wrap64 (x10 - x1))), x10))) else (some (shr .i64 x0 (IntKind.u64.wrap (wrap64 (x10 - x1))), x10)))) else (none)) else (none)))
def heraldref03_cut.f (k : Nat) (a0 : Int) (a1 : Int) (a2 : Int) (a3 : Int) : Option (Int × Int) := (heraldref03_length.f k (IntKind.u64.wrap (a0))).bind fun t141 => (if (wrap64 ((wrap64 (a1 + t141)) - a2)) < a3 then (heraldref03_cut.j0 k a0 a1 a3) else (heraldref03_cut.j0 k a0 a1 (wrap64 ((wrap64 (a1 + t141)) - a2))))
theorem heraldref03_cut.mono_l : ∀ k, (∀ y0 y1 y2, LeO (heraldref03_cut.j0 k y0 y1 y2) (heraldref03_cut.j0 (k + 1) y0 y1 y2))
  | 0 => fun _ _ _ r h => by simp [heraldref03_cut.j0] at h
  | k + 1 => by
    have ih0 := heraldref03_cut.mono_l k
    · intro y0 y1 y2
      unfold heraldref03_cut.j0
      repeat' first
      | (with_reducible exact ih0 _ _ _)
      | (with_reducible exact heraldref03_length.mono _ _)
      | (with_reducible exact LeO.refl _)
      | (with_reducible exact LeO.none _)
      | (with_reducible refine LeO.ite ?_ ?_)
      | (with_reducible refine LeO.bind ?_ (fun _ => ?_))
      | exact ih0 _ _ _
      | exact heraldref03_length.mono _ _
      | exact LeO.none _
      | refine LeO.ite ?_ ?_
      | refine LeO.bind ?_ (fun _ => ?_)
theorem heraldref03_cut.mono : ∀ a0 a1 a2 a3 k, LeO (heraldref03_cut.f k a0 a1 a2 a3) (heraldref03_cut.f (k + 1) a0 a1 a2 a3) := by
  intro a0 a1 a2 a3 k
  have ih0 := heraldref03_cut.mono_l k
  unfold heraldref03_cut.f
  repeat' first
      | (with_reducible exact ih0 _ _ _)
      | (with_reducible exact heraldref03_length.mono _ _)
      | (with_reducible exact LeO.refl _)
      | (with_reducible exact LeO.none _)
      | (with_reducible refine LeO.ite ?_ ?_)
      | (with_reducible refine LeO.bind ?_ (fun _ => ?_))
      | exact ih0 _ _ _
      | exact heraldref03_length.mono _ _
      | exact LeO.none _
      | refine LeO.ite ?_ ?_
      | refine LeO.bind ?_ (fun _ => ?_)
set_option maxHeartbeats 8000000 in
set_option maxRecDepth 100000 in
theorem heraldref03_cut.calls (k : Nat) (a0 : Int) (a1 : Int) (a2 : Int) (a3 : Int) (r1 : Int) (r2 : Int) (w : World) (h : heraldref03_cut.f k a0 a1 a2 a3 = some (r1, r2)) :
    Calls Tryd.prog 43 #[.int .i64 a0, .int .i64 a1, .int .i64 a2, .int .i64 a3] w fun e w' => e = .returned (.tuple #[.int .i64 r1, .int .i64 r2]) ∧ Drawn0 w w' := by
  have H : ((heraldref03_length.f k (IntKind.u64.wrap (a0))).bind fun t141 => (if (wrap64 ((wrap64 (a1 + t141)) - a2)) < a3 then (heraldref03_cut.j0 k a0 a1 a3) else (heraldref03_cut.j0 k a0 a1 (wrap64 ((wrap64 (a1 + t141)) - a2))))) = some (r1, r2) := h
  clear h
  replace H := Option.bind_eq_some_iff.mp H
  obtain ⟨t141, A50, H⟩ := H
  replace H : (if (wrap64 ((wrap64 (a1 + t141)) - a2)) < a3 then (heraldref03_cut.j0 k a0 a1 a3) else (heraldref03_cut.j0 k a0 a1 (wrap64 ((wrap64 (a1 + t141)) - a2)))) = some (r1, r2) := H
  have A5 := Aside0.mk A50
  clear A50
  have HC6 := Aside0.mk H
  clear H
  go_enter Tryd.func43, Tryd.ntmps43
  go_upto_if 23 with (first | ((with_reducible refine gate_callee (f := 64) rfl ?_); refine goesL_ (some 17) rfl rfl Tryd.func64 (by kernel_rfl) rfl #[.int .u64 (IntKind.u64.wrap (a0))] rfl (by (try simp only [List.map_toArray, List.map_cons, List.map_nil]); first | done | rfl | (simp only [List.length_drop, List.length_take]; rfl)) ?_; (with_reducible refine (heraldref03_length.calls k (IntKind.u64.wrap (a0)) t141 _ A5.out).mono ?_); rintro e w' ⟨rfl, ⟨nd, rfl⟩⟩; refine ⟨_, rfl, ?_⟩))
  (try simp only [Act.put, List.setIfInBounds_toArray, List.set_cons_zero, List.set_cons_succ])
  go_cut [10] (fun v10 wc => ∃ (kq : Nat) (x10_5 : Int), v10 = .int .i64 x10_5 ∧ Aside0 (heraldref03_cut.j0 kq a0 a1 x10_5 = some (r1, r2)) ∧ Aside0 (kq ≤ k) ∧ Drawn0 w wc)
  case first =>
    have H := HC6.out
    clear HC6
    by_cases c7 : (wrap64 ((wrap64 (a1 + t141)) - a2)) < a3
    · rw [if_pos c7] at H
      have c7b0 : decide ((wrap64 ((wrap64 (a1 + t141)) - a2)) < a3) = true := decide_eq_true c7
      clear c7
      (first | rw [c7b0] | (simp only [i64_w, i32_w]; rw [c7b0]) | skip)
      have H' := Aside0.mk H
      clear H
      go_wp2
      go_meet
      case rel => exact ⟨_, (a3), (by first | rfl | (simp; done) | (simp [*]; done) | (simp [i64_w]; done) | (simp [*, i64_w]; done)), H', ⟨by first | omega | exact Nat.le_refl _⟩, by repeat (first | exact Drawn0.refl _ | apply Drawn0.step)⟩
    · rw [if_neg c7] at H
      have c7b0 : decide ((wrap64 ((wrap64 (a1 + t141)) - a2)) < a3) = false := decide_eq_false c7
      clear c7
      (first | rw [c7b0] | (simp only [i64_w, i32_w]; rw [c7b0]) | skip)
      have H' := Aside0.mk H
      clear H
      go_wp2
      go_meet
      case rel => exact ⟨_, (wrap64 ((wrap64 (a1 + t141)) - a2)), (by first | rfl | (simp; done) | (simp [*]; done) | (simp [i64_w]; done) | (simp [*, i64_w]; done)), H', ⟨by first | omega | exact Nat.le_refl _⟩, by repeat (first | exact Drawn0.refl _ | apply Drawn0.step)⟩
  case rest =>
    clear HC6
    try clear p2
    try clear c4
    try clear c6
    try clear p6
    try clear c7
    try clear c7b0
    obtain ⟨kq, x10_5, rfl, HA, HJ5, ⟨mc5, rfl⟩⟩ := hcut
    cases kq with
    | zero => exact absurd HA.out (by simp [heraldref03_cut.j0])
    | succ kj5 =>
      have H := HA.out
      clear HA
      simp only [heraldref03_cut.j0] at H
      by_cases c8 : x10_5 ≤ a1
      · rw [if_pos c8] at H
        have c8b0 : decide (x10_5 ≤ a1) = true := decide_eq_true c8
        clear c8
        obtain ⟨ji9, hji9⟩ : ∃ j_ : Int, (IntKind.u64.wrap (wrap64 (a1 - x10_5))) = j_ := ⟨_, rfl⟩
        replace H : (if 0 ≤ (ji9) then (some (shl .i64 a0 (ji9), x10_5)) else (none)) = some (r1, r2) := by first | (rw [hji9] at H; exact H) | (simp only [hji9] at H ⊢; exact H)
        by_cases c10 : 0 ≤ (ji9)
        · rw [if_pos c10] at H
          have c10b0 := eq_true c10
          have c10b1 : decide (0 ≤ (ji9)) = true := decide_eq_true c10
          clear c10
          obtain ⟨ji11, hji11⟩ : ∃ j_ : Int, (shl .i64 a0 (ji9)) = j_ := ⟨_, rfl⟩
          replace H : (some (ji11, x10_5)) = some (r1, r2) := by first | (rw [hji11] at H; exact H) | (simp only [hji11] at H ⊢; exact H)
          have hji11_ : (IntKind.i64.wrap (a0 * 2 ^ min (ji9).toNat 64)) = ji11 := hji11
          have hji11z : (ji9) ≤ 64 → (IntKind.i64.wrap (a0 * 2 ^ (ji9).toNat)) = ji11 := shl_small hji11
          have hji11y : (wrap64 (a0 * 2 ^ min (ji9).toNat 64)) = ji11 := (i64_w _).symm.trans hji11_
          have hji11x : (ji9) ≤ 64 → (wrap64 (a0 * 2 ^ (ji9).toNat)) = ji11 := fun h_ => (i64_w _).symm.trans (hji11z h_)
          simp only [Option.some.injEq, Prod.mk.injEq] at H
          obtain ⟨rfl, rfl⟩ := H
          go_wp2
          go_ret2
          exact ⟨by first | rfl | (simp; done) | (simp only [← hji9, ← hji11] <;> (first | rfl | simp)) | (simp [*]; done), by repeat (first | exact Drawn0.refl _ | apply Drawn0.step)⟩
        · rw [if_neg c10] at H
          exact absurd H (by simp)
      · rw [if_neg c8] at H
        have c8b0 : decide (x10_5 ≤ a1) = false := decide_eq_false c8
        clear c8
        by_cases c12 : (wrap64 (x10_5 - a1)) > 60
        · rw [if_pos c12] at H
          have c12b0 : decide (60 < (wrap64 (x10_5 - a1))) = true := decide_eq_true c12
          clear c12
          simp only [Option.some.injEq, Prod.mk.injEq] at H
          obtain ⟨rfl, rfl⟩ := H
          go_wp2
          go_ret2
          exact ⟨by first | rfl | (simp; done) | (simp [*]; done), by repeat (first | exact Drawn0.refl _ | apply Drawn0.step)⟩
        · rw [if_neg c12] at H
          have c12b0 : decide (60 < (wrap64 (x10_5 - a1))) = false := decide_eq_false c12
          clear c12
          obtain ⟨ji13, hji13⟩ : ∃ j_ : Int, (IntKind.u64.wrap (wrap64 (x10_5 - a1))) = j_ := ⟨_, rfl⟩
          replace H : (if 0 ≤ (ji13) then (if 0 ≤ (IntKind.u64.wrap (wrap64 ((wrap64 (x10_5 - a1)) - 1))) then (if (wrap64 (a0 - (shl .i64 (shr .i64 a0 (ji13)) (ji13)))) > (shl .i64 1 (IntKind.u64.wrap (wrap64 ((wrap64 (x10_5 - a1)) - 1)))) then (some (wrap64 ((shr .i64 a0 (ji13)) + 1), x10_5)) else (if (wrap64 (a0 - (shl .i64 (shr .i64 a0 (ji13)) (ji13)))) = (shl .i64 1 (IntKind.u64.wrap (wrap64 ((wrap64 (x10_5 - a1)) - 1)))) then (if (Int.tmod (shr .i64 a0 (ji13)) 2) = 1 then (some (wrap64 ((shr .i64 a0 (ji13)) + 1), x10_5)) else (some (shr .i64 a0 (ji13), x10_5))) else (some (shr .i64 a0 (ji13), x10_5)))) else (none)) else (none)) = some (r1, r2) := by first | (rw [hji13] at H; exact H) | (simp only [hji13] at H ⊢; exact H)
          by_cases c14 : 0 ≤ (ji13)
          · rw [if_pos c14] at H
            have c14b0 := eq_true c14
            have c14b1 : decide (0 ≤ (ji13)) = true := decide_eq_true c14
            clear c14
            obtain ⟨ji15, hji15⟩ : ∃ j_ : Int, (shr .i64 a0 (ji13)) = j_ := ⟨_, rfl⟩
            replace H : (if 0 ≤ (IntKind.u64.wrap (wrap64 ((wrap64 (x10_5 - a1)) - 1))) then (if (wrap64 (a0 - (shl .i64 (ji15) (ji13)))) > (shl .i64 1 (IntKind.u64.wrap (wrap64 ((wrap64 (x10_5 - a1)) - 1)))) then (some (wrap64 ((ji15) + 1), x10_5)) else (if (wrap64 (a0 - (shl .i64 (ji15) (ji13)))) = (shl .i64 1 (IntKind.u64.wrap (wrap64 ((wrap64 (x10_5 - a1)) - 1)))) then (if (Int.tmod (ji15) 2) = 1 then (some (wrap64 ((ji15) + 1), x10_5)) else (some (ji15, x10_5))) else (some (ji15, x10_5)))) else (none)) = some (r1, r2) := by first | (rw [hji15] at H; exact H) | (simp only [hji15] at H ⊢; exact H)
            have hji15_ : (a0 / 2 ^ min (ji13).toNat 64) = ji15 := hji15
            have hji15z : (ji13) ≤ 64 → (a0 / 2 ^ (ji13).toNat) = ji15 := shr_small hji15
            have c16b0 := eq_true (of_decide_eq_true (by first | (with_reducible assumption) | assumption) : 0 ≤ (ji13))
            obtain ⟨ji17, hji17⟩ : ∃ j_ : Int, (shl .i64 (ji15) (ji13)) = j_ := ⟨_, rfl⟩
            replace H : (if 0 ≤ (IntKind.u64.wrap (wrap64 ((wrap64 (x10_5 - a1)) - 1))) then (if (wrap64 (a0 - (ji17))) > (shl .i64 1 (IntKind.u64.wrap (wrap64 ((wrap64 (x10_5 - a1)) - 1)))) then (some (wrap64 ((ji15) + 1), x10_5)) else (if (wrap64 (a0 - (ji17))) = (shl .i64 1 (IntKind.u64.wrap (wrap64 ((wrap64 (x10_5 - a1)) - 1)))) then (if (Int.tmod (ji15) 2) = 1 then (some (wrap64 ((ji15) + 1), x10_5)) else (some (ji15, x10_5))) else (some (ji15, x10_5)))) else (none)) = some (r1, r2) := by first | (rw [hji17] at H; exact H) | (simp only [hji17] at H ⊢; exact H)
            have hji17_ : (IntKind.i64.wrap ((ji15) * 2 ^ min (ji13).toNat 64)) = ji17 := hji17
            have hji17z : (ji13) ≤ 64 → (IntKind.i64.wrap ((ji15) * 2 ^ (ji13).toNat)) = ji17 := shl_small hji17
            have hji17y : (wrap64 ((ji15) * 2 ^ min (ji13).toNat 64)) = ji17 := (i64_w _).symm.trans hji17_
            have hji17x : (ji13) ≤ 64 → (wrap64 ((ji15) * 2 ^ (ji13).toNat)) = ji17 := fun h_ => (i64_w _).symm.trans (hji17z h_)
            obtain ⟨ji18, hji18⟩ : ∃ j_ : Int, (IntKind.u64.wrap (wrap64 ((wrap64 (x10_5 - a1)) - 1))) = j_ := ⟨_, rfl⟩
            replace H : (if 0 ≤ (ji18) then (if (wrap64 (a0 - (ji17))) > (shl .i64 1 (ji18)) then (some (wrap64 ((ji15) + 1), x10_5)) else (if (wrap64 (a0 - (ji17))) = (shl .i64 1 (ji18)) then (if (Int.tmod (ji15) 2) = 1 then (some (wrap64 ((ji15) + 1), x10_5)) else (some (ji15, x10_5))) else (some (ji15, x10_5)))) else (none)) = some (r1, r2) := by first | (rw [hji18] at H; exact H) | (simp only [hji18] at H ⊢; exact H)
            by_cases c19 : 0 ≤ (ji18)
            · rw [if_pos c19] at H
              have c19b0 := eq_true c19
              have c19b1 : decide (0 ≤ (ji18)) = true := decide_eq_true c19
              clear c19
              obtain ⟨ji20, hji20⟩ : ∃ j_ : Int, (shl .i64 1 (ji18)) = j_ := ⟨_, rfl⟩
              replace H : (if (wrap64 (a0 - (ji17))) > (ji20) then (some (wrap64 ((ji15) + 1), x10_5)) else (if (wrap64 (a0 - (ji17))) = (ji20) then (if (Int.tmod (ji15) 2) = 1 then (some (wrap64 ((ji15) + 1), x10_5)) else (some (ji15, x10_5))) else (some (ji15, x10_5)))) = some (r1, r2) := by first | (rw [hji20] at H; exact H) | (simp only [hji20] at H ⊢; exact H)
              have hji20_ : (IntKind.i64.wrap (1 * 2 ^ min (ji18).toNat 64)) = ji20 := hji20
              have hji20z : (ji18) ≤ 64 → (IntKind.i64.wrap (1 * 2 ^ (ji18).toNat)) = ji20 := shl_small hji20
              have hji20u : (IntKind.i64.wrap (2 ^ min (ji18).toNat 64)) = ji20 := by have h_ := hji20_; rw [Int.one_mul] at h_; exact h_
              have hji20v : (ji18) ≤ 64 → (IntKind.i64.wrap (2 ^ (ji18).toNat)) = ji20 := fun hle_ => by have h_ := hji20z hle_; rw [Int.one_mul] at h_; exact h_
              have hji20y : (wrap64 (1 * 2 ^ min (ji18).toNat 64)) = ji20 := (i64_w _).symm.trans hji20_
              have hji20x : (ji18) ≤ 64 → (wrap64 (1 * 2 ^ (ji18).toNat)) = ji20 := fun h_ => (i64_w _).symm.trans (hji20z h_)
              by_cases c21 : (wrap64 (a0 - (ji17))) > (ji20)
              · rw [if_pos c21] at H
                have c21b0 : decide ((ji20) < (wrap64 (a0 - (ji17)))) = true := decide_eq_true c21
                clear c21
                simp only [Option.some.injEq, Prod.mk.injEq] at H
                obtain ⟨rfl, rfl⟩ := H
                go_wp2
                go_ret2
                exact ⟨by first | rfl | (simp; done) | (simp only [← hji13, ← hji15, ← hji17, ← hji18, ← hji20] <;> (first | rfl | simp)) | (simp [*]; done), by repeat (first | exact Drawn0.refl _ | apply Drawn0.step)⟩
              · rw [if_neg c21] at H
                have c21b0 : decide ((ji20) < (wrap64 (a0 - (ji17)))) = false := decide_eq_false c21
                clear c21
                by_cases c22 : (wrap64 (a0 - (ji17))) = (ji20)
                · rw [if_pos c22] at H
                  have c22b0 : ((wrap64 (a0 - (ji17))) == (ji20)) = true := beq_iff_eq.mpr c22
                  have c22b1 : ((wrap64 (a0 - (ji17))) != (ji20)) = false := bne_eq_false_iff_eq.mpr c22
                  clear c22
                  by_cases c23 : (Int.tmod (ji15) 2) = 1
                  · rw [if_pos c23] at H
                    have c23b0 : ((Int.tmod (ji15) 2) == 1) = true := beq_iff_eq.mpr c23
                    have c23b1 : ((Int.tmod (ji15) 2) != 1) = false := bne_eq_false_iff_eq.mpr c23
                    clear c23
                    simp only [Option.some.injEq, Prod.mk.injEq] at H
                    obtain ⟨rfl, rfl⟩ := H
                    go_wp2
                    go_ret2
                    exact ⟨by first | rfl | (simp; done) | (simp only [← hji13, ← hji15, ← hji17, ← hji18, ← hji20] <;> (first | rfl | simp)) | (simp [*]; done), by repeat (first | exact Drawn0.refl _ | apply Drawn0.step)⟩
                  · rw [if_neg c23] at H
                    have c23b0 : ((Int.tmod (ji15) 2) == 1) = false := beq_eq_false_iff_ne.mpr c23
                    have c23b1 : ((Int.tmod (ji15) 2) != 1) = true := bne_iff_ne.mpr c23
                    simp only [Option.some.injEq, Prod.mk.injEq] at H
                    obtain ⟨rfl, rfl⟩ := H
                    go_wp2
                    go_ret2
                    exact ⟨by first | rfl | (simp; done) | (simp only [← hji13, ← hji15, ← hji17, ← hji18, ← hji20] <;> (first | rfl | simp)) | (simp [*]; done), by repeat (first | exact Drawn0.refl _ | apply Drawn0.step)⟩
                · rw [if_neg c22] at H
                  have c22b0 : ((wrap64 (a0 - (ji17))) == (ji20)) = false := beq_eq_false_iff_ne.mpr c22
                  have c22b1 : ((wrap64 (a0 - (ji17))) != (ji20)) = true := bne_iff_ne.mpr c22
                  simp only [Option.some.injEq, Prod.mk.injEq] at H
                  obtain ⟨rfl, rfl⟩ := H
                  go_wp2
                  go_ret2
                  exact ⟨by first | rfl | (simp; done) | (simp only [← hji13, ← hji15, ← hji17, ← hji18, ← hji20] <;> (first | rfl | simp)) | (simp [*]; done), by repeat (first | exact Drawn0.refl _ | apply Drawn0.step)⟩
            · rw [if_neg c19] at H
              exact absurd H (by simp)
          · rw [if_neg c14] at H
            exact absurd H (by simp)

end Go.Proofs.YteecekhfpfnepaaDoor.PAll
