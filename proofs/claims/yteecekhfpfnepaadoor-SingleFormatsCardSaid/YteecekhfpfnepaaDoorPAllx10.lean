-- Written by a program of this session out of the translation. Lean checks it.
import Derived.Test.YteecekhfpfnepaaDoorPAllx0
import Derived.Test.YteecekhfpfnepaaDoorPAllx7
namespace Go.Proofs.YteecekhfpfnepaaDoor.PAll
open Go.RowKit Go.Proofs.YteecekhfpfnepaaDoorW.PrintWords Go.Proofs.YteecekhfpfnepaaDoorW.PrintLast Go.Proofs.YteecekhfpfnepaaDoorW.PrintMore
attribute [local go_sem] max2_int min2_int max_two min_two max_three min_three max_four min_four   -- for this text's walks alone
set_option linter.unusedVariables false
set_option linter.unusedSimpArgs false

/-! ### heraldref03_near: function 44 -/
mutual
def heraldref03_near.j0 : Nat → Int → Int → Int → Option (Int)
  | 0, _, _, _ => none
  | k + 1, x1, x2, x7 => if x1 = 0 then (heraldref03_near.j1 k x1 x2 x7 true) else (heraldref03_near.j1 k x1 x2 x7 (decide (x2 < (-400))))
def heraldref03_near.j1 : Nat → Int → Int → Int → Bool → Option (Int)
  | 0, _, _, _, _ => none
  | k + 1, x1, x2, x7, x19 => if x19 = true then (some x7) else (if x2 > 400 then (some ((x7 + 2139095040) % 4294967296)) else ((heraldref03_length.f k x1).bind fun t150 => (if (wrap64 ((wrap64 (x2 + t150)) - 24)) < (-149) then (heraldref03_near.j2 k x1 x2 x7 (-149)) else (heraldref03_near.j2 k x1 x2 x7 (wrap64 ((wrap64 (x2 + t150)) - 24))))))
def heraldref03_near.j2 : Nat → Int → Int → Int → Int → Option (Int)
  | 0, _, _, _, _ => none
  | k + 1, x1, x2, x7, x8 => if (wrap64 (x8 - x2)) ≤ 0 then (if 0 ≤ (IntKind.u64.wrap (wrap64 (-(wrap64 (x8 - x2))))) then (heraldref03_near.j3 k x7 x8 (shl .u64 x1 (IntKind.u64.wrap (wrap64 (-(wrap64 (x8 - x2))))))) else (none)) else (if (wrap64 (x8 - x2)) ≤ 64 then (if (wrap64 (x8 - x2)) < 64 then (if 0 ≤ (IntKind.u64.wrap (wrap64 (x8 - x2))) then (if 0 ≤ (IntKind.u64.wrap (wrap64 ((wrap64 (x8 - x2)) - 1))) then (if (IntKind.u64.wrap (x1 - (shl .u64 (shr .u64 x1 (IntKind.u64.wrap (wrap64 (x8 - x2)))) (IntKind.u64.wrap (wrap64 (x8 - x2)))))) > (shl .u64 1 (IntKind.u64.wrap (wrap64 ((wrap64 (x8 - x2)) - 1)))) then (heraldref03_near.j3 k x7 x8 (IntKind.u64.wrap ((shr .u64 x1 (IntKind.u64.wrap (wrap64 (x8 - x2)))) + 1))) else (if (IntKind.u64.wrap (x1 - (shl .u64 (shr .u64 x1 (IntKind.u64.wrap (wrap64 (x8 - x2)))) (IntKind.u64.wrap (wrap64 (x8 - x2)))))) = (shl .u64 1 (IntKind.u64.wrap (wrap64 ((wrap64 (x8 - x2)) - 1)))) then (if (Int.tmod (shr .u64 x1 (IntKind.u64.wrap (wrap64 (x8 - x2)))) 2) = 1 then (heraldref03_near.j3 k x7 x8 (IntKind.u64.wrap ((shr .u64 x1 (IntKind.u64.wrap (wrap64 (x8 - x2)))) + 1))) else (heraldref03_near.j3 k x7 x8 (shr .u64 x1 (IntKind.u64.wrap (wrap64 (x8 - x2)))))) else (heraldref03_near.j3 k x7 x8 (shr .u64 x1 (IntKind.u64.wrap (wrap64 (x8 - x2))))))) else (none)) else (none)) else (if 0 ≤ (IntKind.u64.wrap (wrap64 ((wrap64 (x8 - x2)) - 1))) then (if x1 > (shl .u64 1 (IntKind.u64.wrap (wrap64 ((wrap64 (x8 - x2)) - 1)))) then (heraldref03_near.j3 k x7 x8 (0 + 1)) else (if x1 = (shl .u64 1 (IntKind.u64.wrap (wrap64 ((wrap64 (x8 - x2)) - 1)))) then (if ((0 : Int) % 2) = 1 then (heraldref03_near.j3 k x7 x8 (0 + 1)) else (heraldref03_near.j3 k x7 x8 0)) else (heraldref03_near.j3 k x7 x8 0))) else (none))) else (heraldref03_near.j3 k x7 x8 0))
def heraldref03_near.j3 : Nat → Int → Int → Int → Option (Int)
  | 0, _, _, _ => none
  | k + 1, x7, x8, x9 => if x9 = 16777216 then (heraldref03_near.j4 k x7 (wrap64 (x8 + 1)) (IntKind.u64.wrap (Int.tdiv x9 2))) else (heraldref03_near.j4 k x7 x8 x9)
def heraldref03_near.j4 : Nat → Int → Int → Int → Option (Int)
  | 0, _, _, _ => none
  | k + 1, x7, x8, x9 => if x9 < 8388608 then (some ((x7 + ((x9) % 4294967296)) % 4294967296)) else (if (wrap64 (x8 + 150)) ≥ 255 then (some ((x7 + 2139095040) % 4294967296)) else (some ((((x7 + ((((wrap64 (x8 + 150)) % 4294967296) * 8388608) % 4294967296)) % 4294967296) + ((IntKind.u64.wrap (x9 - 8388608)) % 4294967296)) % 4294967296)))
end
def heraldref03_near.f (k : Nat) (a0 : Bool) (a1 : Int) (a2 : Int) : Option (Int) := if a0 = true then (heraldref03_near.j0 k a1 a2 2147483648) else (heraldref03_near.j0 k a1 a2 0)
theorem heraldref03_near.mono_l : ∀ k, (∀ y0 y1 y2, LeO (heraldref03_near.j0 k y0 y1 y2) (heraldref03_near.j0 (k + 1) y0 y1 y2)) ∧ (∀ y0 y1 y2 y3, LeO (heraldref03_near.j1 k y0 y1 y2 y3) (heraldref03_near.j1 (k + 1) y0 y1 y2 y3)) ∧ (∀ y0 y1 y2 y3, LeO (heraldref03_near.j2 k y0 y1 y2 y3) (heraldref03_near.j2 (k + 1) y0 y1 y2 y3)) ∧ (∀ y0 y1 y2, LeO (heraldref03_near.j3 k y0 y1 y2) (heraldref03_near.j3 (k + 1) y0 y1 y2)) ∧ (∀ y0 y1 y2, LeO (heraldref03_near.j4 k y0 y1 y2) (heraldref03_near.j4 (k + 1) y0 y1 y2))
  | 0 => ⟨fun _ _ _ r h => by simp [heraldref03_near.j0] at h, fun _ _ _ _ r h => by simp [heraldref03_near.j1] at h, fun _ _ _ _ r h => by simp [heraldref03_near.j2] at h, fun _ _ _ r h => by simp [heraldref03_near.j3] at h, fun _ _ _ r h => by simp [heraldref03_near.j4] at h⟩
  | k + 1 => by
    obtain ⟨ih0, ih1, ih2, ih3, ih4⟩ := heraldref03_near.mono_l k
    refine ⟨?_, ?_, ?_, ?_, ?_⟩
    · intro y0 y1 y2
      unfold heraldref03_near.j0
      repeat' first
      | (with_reducible exact ih0 _ _ _)
      | (with_reducible exact ih1 _ _ _ _)
      | (with_reducible exact ih2 _ _ _ _)
      | (with_reducible exact ih3 _ _ _)
      | (with_reducible exact ih4 _ _ _)
      | (with_reducible exact heraldref03_length.mono _ _)
      | (with_reducible exact LeO.refl _)
      | (with_reducible exact LeO.none _)
      | (with_reducible refine LeO.ite ?_ ?_)
      | (with_reducible refine LeO.bind ?_ (fun _ => ?_))
      | exact ih0 _ _ _
      | exact ih1 _ _ _ _
      | exact ih2 _ _ _ _
      | exact ih3 _ _ _
      | exact ih4 _ _ _
      | exact heraldref03_length.mono _ _
      | exact LeO.none _
      | refine LeO.ite ?_ ?_
      | refine LeO.bind ?_ (fun _ => ?_)
    · intro y0 y1 y2 y3
      unfold heraldref03_near.j1
      repeat' first
      | (with_reducible exact ih0 _ _ _)
      | (with_reducible exact ih1 _ _ _ _)
      | (with_reducible exact ih2 _ _ _ _)
      | (with_reducible exact ih3 _ _ _)
      | (with_reducible exact ih4 _ _ _)
      | (with_reducible exact heraldref03_length.mono _ _)
      | (with_reducible exact LeO.refl _)
      | (with_reducible exact LeO.none _)
      | (with_reducible refine LeO.ite ?_ ?_)
      | (with_reducible refine LeO.bind ?_ (fun _ => ?_))
      | exact ih0 _ _ _
      | exact ih1 _ _ _ _
      | exact ih2 _ _ _ _
      | exact ih3 _ _ _
      | exact ih4 _ _ _
      | exact heraldref03_length.mono _ _
      | exact LeO.none _
      | refine LeO.ite ?_ ?_
      | refine LeO.bind ?_ (fun _ => ?_)
    · intro y0 y1 y2 y3
      unfold heraldref03_near.j2
      repeat' first
      | (with_reducible exact ih0 _ _ _)
      | (with_reducible exact ih1 _ _ _ _)
      | (with_reducible exact ih2 _ _ _ _)
      | (with_reducible exact ih3 _ _ _)
      | (with_reducible exact ih4 _ _ _)
      | (with_reducible exact heraldref03_length.mono _ _)
      | (with_reducible exact LeO.refl _)
      | (with_reducible exact LeO.none _)
      | (with_reducible refine LeO.ite ?_ ?_)
      | (with_reducible refine LeO.bind ?_ (fun _ => ?_))
      | exact ih0 _ _ _
      | exact ih1 _ _ _ _
      | exact ih2 _ _ _ _
      | exact ih3 _ _ _
      | exact ih4 _ _ _
      | exact heraldref03_length.mono _ _
      | exact LeO.none _
      | refine LeO.ite ?_ ?_
      | refine LeO.bind ?_ (fun _ => ?_)
    · intro y0 y1 y2
      unfold heraldref03_near.j3
      repeat' first
      | (with_reducible exact ih0 _ _ _)
      | (with_reducible exact ih1 _ _ _ _)
      | (with_reducible exact ih2 _ _ _ _)
      | (with_reducible exact ih3 _ _ _)
      | (with_reducible exact ih4 _ _ _)
      | (with_reducible exact heraldref03_length.mono _ _)
      | (with_reducible exact LeO.refl _)
      | (with_reducible exact LeO.none _)
      | (with_reducible refine LeO.ite ?_ ?_)
      | (with_reducible refine LeO.bind ?_ (fun _ => ?_))
      | exact ih0 _ _ _
      | exact ih1 _ _ _ _
      | exact ih2 _ _ _ _
      | exact ih3 _ _ _
      | exact ih4 _ _ _
      | exact heraldref03_length.mono _ _
      | exact LeO.none _
      | refine LeO.ite ?_ ?_
      | refine LeO.bind ?_ (fun _ => ?_)
    · intro y0 y1 y2
      unfold heraldref03_near.j4
      repeat' first
      | (with_reducible exact ih0 _ _ _)
      | (with_reducible exact ih1 _ _ _ _)
      | (with_reducible exact ih2 _ _ _ _)
      | (with_reducible exact ih3 _ _ _)
      | (with_reducible exact ih4 _ _ _)
      | (with_reducible exact heraldref03_length.mono _ _)
      | (with_reducible exact LeO.refl _)
      | (with_reducible exact LeO.none _)
      | (with_reducible refine LeO.ite ?_ ?_)
      | (with_reducible refine LeO.bind ?_ (fun _ => ?_))
      | exact ih0 _ _ _
      | exact ih1 _ _ _ _
      | exact ih2 _ _ _ _
      | exact ih3 _ _ _
      | exact ih4 _ _ _
      | exact heraldref03_length.mono _ _
      | exact LeO.none _
      | refine LeO.ite ?_ ?_
      | refine LeO.bind ?_ (fun _ => ?_)
theorem heraldref03_near.mono : ∀ a0 a1 a2 k, LeO (heraldref03_near.f k a0 a1 a2) (heraldref03_near.f (k + 1) a0 a1 a2) := by
  intro a0 a1 a2 k
  obtain ⟨ih0, ih1, ih2, ih3, ih4⟩ := heraldref03_near.mono_l k
  unfold heraldref03_near.f
  repeat' first
      | (with_reducible exact ih0 _ _ _)
      | (with_reducible exact ih1 _ _ _ _)
      | (with_reducible exact ih2 _ _ _ _)
      | (with_reducible exact ih3 _ _ _)
      | (with_reducible exact ih4 _ _ _)
      | (with_reducible exact heraldref03_length.mono _ _)
      | (with_reducible exact LeO.refl _)
      | (with_reducible exact LeO.none _)
      | (with_reducible refine LeO.ite ?_ ?_)
      | (with_reducible refine LeO.bind ?_ (fun _ => ?_))
      | exact ih0 _ _ _
      | exact ih1 _ _ _ _
      | exact ih2 _ _ _ _
      | exact ih3 _ _ _
      | exact ih4 _ _ _
      | exact heraldref03_length.mono _ _
      | exact LeO.none _
      | refine LeO.ite ?_ ?_
      | refine LeO.bind ?_ (fun _ => ?_)
set_option maxHeartbeats 8000000 in
set_option maxRecDepth 100000 in
theorem heraldref03_near.calls (k : Nat) (a0 : Bool) (a1 : Int) (a2 : Int) (r : Int) (w : World) (h : heraldref03_near.f k a0 a1 a2 = some r) :
    Calls Tryd.prog 44 #[.bool a0, .int .u64 a1, .int .i64 a2] w fun e w' => e = .returned (.int .u32 r) ∧ Drawn0 w w' := by
  have H : (if a0 = true then (heraldref03_near.j0 k a1 a2 2147483648) else (heraldref03_near.j0 k a1 a2 0)) = some r := h
  clear h
  have HC4 := Aside0.mk H
  clear H
  go_enter Tryd.func44, Tryd.ntmps44
  go_upto_if 13 with (fail)
  go_cut [7] (fun v7 wc => ∃ (kq : Nat) (x7_3 : Int), v7 = .int .u32 x7_3 ∧ Aside0 (heraldref03_near.j0 kq a1 a2 x7_3 = some r) ∧ Aside0 (kq ≤ k) ∧ Drawn0 w wc)
  case first =>
    have H := HC4.out
    clear HC4
    by_cases c5 : a0 = true
    · subst c5
      have H1 : (heraldref03_near.j0 k a1 a2 2147483648) = some r := by rw [if_pos rfl] at H; exact H
      clear H
      have H := H1
      clear H1
      have H' := Aside0.mk H
      clear H
      go_wp2
      go_meet
      case rel => exact ⟨_, (2147483648), (by first | rfl | (simp; done) | (simp [*]; done) | (simp [i64_w]; done) | (simp [*, i64_w]; done)), H', ⟨by first | omega | exact Nat.le_refl _⟩, by repeat (first | exact Drawn0.refl _ | apply Drawn0.step)⟩
    · replace c5 := Bool.eq_false_iff.mpr c5
      subst c5
      have H1 : (heraldref03_near.j0 k a1 a2 0) = some r := by rw [if_neg (show ¬ (false = true) by decide)] at H; exact H
      clear H
      have H := H1
      clear H1
      have H' := Aside0.mk H
      clear H
      go_wp2
      go_meet
      case rel => exact ⟨_, (0), (by first | rfl | (simp; done) | (simp [*]; done) | (simp [i64_w]; done) | (simp [*, i64_w]; done)), H', ⟨by first | omega | exact Nat.le_refl _⟩, by repeat (first | exact Drawn0.refl _ | apply Drawn0.step)⟩
  case rest =>
    clear HC4
    try clear p2
    try clear c4
    try clear c5
    obtain ⟨kq, x7_3, rfl, HA, HJ3, ⟨mc3, rfl⟩⟩ := hcut
    cases kq with
    | zero => exact absurd HA.out (by simp [heraldref03_near.j0])
    | succ kj3 =>
      have H := HA.out
      clear HA
      simp only [heraldref03_near.j0] at H
      have HC6 := Aside0.mk H
      clear H
      go_upto_region 4 with (fail)
      go_cut [19] (fun v19 wc => ∃ (kq : Nat) (x19_5 : Bool), v19 = .bool x19_5 ∧ Aside0 (heraldref03_near.j1 kq a1 a2 x7_3 x19_5 = some r) ∧ Aside0 (kq ≤ kj3) ∧ Drawn0 w wc)
      case first =>
        have H := HC6.out
        clear HC6
        by_cases c7 : a1 = 0
        · rw [if_pos c7] at H
          have c7b0 : (a1 == 0) = true := beq_iff_eq.mpr c7
          have c7b1 : (a1 != 0) = false := bne_eq_false_iff_eq.mpr c7
          clear c7
          (first | rw [c7b0] | (simp only [i64_w, i32_w]; rw [c7b0]) | skip)
          have H' := Aside0.mk H
          clear H
          go_wp2
          go_meet
          case rel => exact ⟨_, (true), (by first | rfl | (simp; done) | (simp [*]; done) | (simp [i64_w]; done) | (simp [*, i64_w]; done)), H', ⟨by have := HJ3.out; first | omega | exact Nat.le_refl _⟩, by repeat (first | exact Drawn0.refl _ | apply Drawn0.step)⟩
        · rw [if_neg c7] at H
          have c7b0 : (a1 == 0) = false := beq_eq_false_iff_ne.mpr c7
          have c7b1 : (a1 != 0) = true := bne_iff_ne.mpr c7
          (first | rw [c7b0] | (simp only [i64_w, i32_w]; rw [c7b0]) | skip)
          have H' := Aside0.mk H
          clear H
          go_wp2
          go_meet
          case rel => exact ⟨_, (decide (a2 < (-400))), (by first | rfl | (simp; done) | (simp [*]; done) | (simp [i64_w]; done) | (simp [*, i64_w]; done)), H', ⟨by have := HJ3.out; first | omega | exact Nat.le_refl _⟩, by repeat (first | exact Drawn0.refl _ | apply Drawn0.step)⟩
      case rest =>
        clear HC6
        try clear p2
        try clear c3
        try clear c4
        try clear c5
        try clear c7
        try clear c7b0
        try clear c7b1
        try clear p2
        obtain ⟨kq, x19_5, rfl, HA, HJ5, ⟨mc5, rfl⟩⟩ := hcut
        cases kq with
        | zero => exact absurd HA.out (by simp [heraldref03_near.j1])
        | succ kj5 =>
          have H := HA.out
          clear HA
          simp only [heraldref03_near.j1] at H
          by_cases c8 : x19_5 = true
          · subst c8
            have H1 : (some x7_3) = some r := by rw [if_pos rfl] at H; exact H
            clear H
            have H := H1
            clear H1
            obtain rfl := Option.some.inj H
            go_wp2
            go_ret
            exact ⟨by first | rfl | (simp; done) | (simp [*]; done), by repeat (first | exact Drawn0.refl _ | apply Drawn0.step)⟩
          · replace c8 := Bool.eq_false_iff.mpr c8
            subst c8
            have H1 : (if a2 > 400 then (some ((x7_3 + 2139095040) % 4294967296)) else ((heraldref03_length.f kj5 a1).bind fun t150 => (if (wrap64 ((wrap64 (a2 + t150)) - 24)) < (-149) then (heraldref03_near.j2 kj5 a1 a2 x7_3 (-149)) else (heraldref03_near.j2 kj5 a1 a2 x7_3 (wrap64 ((wrap64 (a2 + t150)) - 24)))))) = some r := by rw [if_neg (show ¬ (false = true) by decide)] at H; exact H
            clear H
            have H := H1
            clear H1
            by_cases c9 : a2 > 400
            · rw [if_pos c9] at H
              have c9b0 : decide (400 < a2) = true := decide_eq_true c9
              clear c9
              obtain rfl := Option.some.inj H
              go_wp2
              go_ret
              exact ⟨by first | rfl | (simp; done) | (simp [*]; done), by repeat (first | exact Drawn0.refl _ | apply Drawn0.step)⟩
            · rw [if_neg c9] at H
              have c9b0 : decide (400 < a2) = false := decide_eq_false c9
              clear c9
              replace H := Option.bind_eq_some_iff.mp H
              obtain ⟨t150, A100, H⟩ := H
              replace H : (if (wrap64 ((wrap64 (a2 + t150)) - 24)) < (-149) then (heraldref03_near.j2 kj5 a1 a2 x7_3 (-149)) else (heraldref03_near.j2 kj5 a1 a2 x7_3 (wrap64 ((wrap64 (a2 + t150)) - 24)))) = some r := H
              have A10 := Aside0.mk A100
              clear A100
              have HC11 := Aside0.mk H
              clear H
              go_upto_if 31 with (first | ((with_reducible refine gate_callee (f := 64) rfl ?_); refine goesL_ (some 27) rfl rfl Tryd.func64 (by kernel_rfl) rfl #[.int .u64 a1] rfl (by (try simp only [List.map_toArray, List.map_cons, List.map_nil]); first | done | rfl | (simp only [List.length_drop, List.length_take]; rfl)) ?_; (with_reducible refine (heraldref03_length.calls kj5 a1 t150 _ A10.out).mono ?_); rintro e w' ⟨rfl, ⟨nd, rfl⟩⟩; refine ⟨_, rfl, ?_⟩))
              (try simp only [Act.put, List.setIfInBounds_toArray, List.set_cons_zero, List.set_cons_succ])
              go_cut [8] (fun v8 wc => ∃ (kq : Nat) (x8_10 : Int), v8 = .int .i64 x8_10 ∧ Aside0 (heraldref03_near.j2 kq a1 a2 x7_3 x8_10 = some r) ∧ Aside0 (kq ≤ kj5) ∧ Drawn0 w wc)
              case first =>
                have H := HC11.out
                clear HC11
                by_cases c12 : (wrap64 ((wrap64 (a2 + t150)) - 24)) < (-149)
                · rw [if_pos c12] at H
                  have c12b0 : decide ((wrap64 ((wrap64 (a2 + t150)) - 24)) < (-149)) = true := decide_eq_true c12
                  clear c12
                  (first | rw [c12b0] | (simp only [i64_w, i32_w]; rw [c12b0]) | skip)
                  have H' := Aside0.mk H
                  clear H
                  go_wp2
                  go_meet
                  case rel => exact ⟨_, ((-149)), (by first | rfl | (simp; done) | (simp [*]; done) | (simp [i64_w]; done) | (simp [*, i64_w]; done)), H', ⟨by have := HJ3.out; have := HJ5.out; first | omega | exact Nat.le_refl _⟩, by repeat (first | exact Drawn0.refl _ | apply Drawn0.step)⟩
                · rw [if_neg c12] at H
                  have c12b0 : decide ((wrap64 ((wrap64 (a2 + t150)) - 24)) < (-149)) = false := decide_eq_false c12
                  clear c12
                  (first | rw [c12b0] | (simp only [i64_w, i32_w]; rw [c12b0]) | skip)
                  have H' := Aside0.mk H
                  clear H
                  go_wp2
                  go_meet
                  case rel => exact ⟨_, (wrap64 ((wrap64 (a2 + t150)) - 24)), (by first | rfl | (simp; done) | (simp [*]; done) | (simp [i64_w]; done) | (simp [*, i64_w]; done)), H', ⟨by have := HJ3.out; have := HJ5.out; first | omega | exact Nat.le_refl _⟩, by repeat (first | exact Drawn0.refl _ | apply Drawn0.step)⟩
              case rest =>
                clear HC11
                try clear c1
                try clear p2
                try clear c3
                try clear c4
                try clear c5
                try clear c6
                try clear p6
                try clear c7
                try clear c7b0
                try clear c7b1
                try clear c8
                try clear c9
                try clear c9b0
                try clear c12
                try clear c12b0
                try clear p2
                obtain ⟨kq, x8_10, rfl, HA, HJ10, ⟨mc10, rfl⟩⟩ := hcut
                cases kq with
                | zero => exact absurd HA.out (by simp [heraldref03_near.j2])
                | succ kj10 =>
                  have H := HA.out
                  clear HA
                  simp only [heraldref03_near.j2] at H
                  have HC13 := Aside0.mk H
                  clear H
                  go_upto_if 36 with (fail)
                  go_cut [9] (fun v9 wc => ∃ (kq : Nat) (x9_12 : Int), v9 = .int .u64 x9_12 ∧ Aside0 (heraldref03_near.j3 kq x7_3 x8_10 x9_12 = some r) ∧ Aside0 (kq ≤ kj10) ∧ Drawn0 w wc)
                  case first =>
                    have H := HC13.out
                    clear HC13
                    by_cases c14 : (wrap64 (x8_10 - a2)) ≤ 0
                    · rw [if_pos c14] at H
                      have c14b0 : decide ((wrap64 (x8_10 - a2)) ≤ 0) = true := decide_eq_true c14
                      clear c14
                      (first | rw [c14b0] | (simp only [i64_w, i32_w]; rw [c14b0]) | skip)
                      obtain ⟨ji15, hji15⟩ : ∃ j_ : Int, (IntKind.u64.wrap (wrap64 (-(wrap64 (x8_10 - a2))))) = j_ := ⟨_, rfl⟩
                      replace H : (if 0 ≤ (ji15) then (heraldref03_near.j3 kj10 x7_3 x8_10 (shl .u64 a1 (ji15))) else (none)) = some r := by first | (rw [hji15] at H; exact H) | (simp only [hji15] at H ⊢; exact H)
                      by_cases c16 : 0 ≤ (ji15)
                      · rw [if_pos c16] at H
                        have c16b0 := eq_true c16
                        have c16b1 : decide (0 ≤ (ji15)) = true := decide_eq_true c16
                        clear c16
                        obtain ⟨ji17, hji17⟩ : ∃ j_ : Int, (shl .u64 a1 (ji15)) = j_ := ⟨_, rfl⟩
                        replace H : (heraldref03_near.j3 kj10 x7_3 x8_10 ji17) = some r := by first | (rw [hji17] at H; exact H) | (simp only [hji17] at H ⊢; exact H)
                        have hji17_ : (IntKind.u64.wrap (a1 * 2 ^ min (ji15).toNat 64)) = ji17 := hji17
                        have hji17z : (ji15) ≤ 64 → (IntKind.u64.wrap (a1 * 2 ^ (ji15).toNat)) = ji17 := shl_small hji17
                        have H' := Aside0.mk H
                        clear H
                        go_wp2
                        go_meet
                        case rel => exact ⟨_, (ji17), (by first | rfl | (simp; done) | (simp only [← hji17] <;> (first | rfl | simp)) | (simp [*]; done)), H', ⟨by have := HJ3.out; have := HJ5.out; have := HJ10.out; first | omega | exact Nat.le_refl _⟩, by repeat (first | exact Drawn0.refl _ | apply Drawn0.step)⟩
                      · rw [if_neg c16] at H
                        exact absurd H (by simp)
                    · rw [if_neg c14] at H
                      have c14b0 : decide ((wrap64 (x8_10 - a2)) ≤ 0) = false := decide_eq_false c14
                      clear c14
                      (first | rw [c14b0] | (simp only [i64_w, i32_w]; rw [c14b0]) | skip)
                      by_cases c18 : (wrap64 (x8_10 - a2)) ≤ 64
                      · rw [if_pos c18] at H
                        have c18b0 : decide ((wrap64 (x8_10 - a2)) ≤ 64) = true := decide_eq_true c18
                        clear c18
                        by_cases c19 : (wrap64 (x8_10 - a2)) < 64
                        · rw [if_pos c19] at H
                          have c19b0 : decide ((wrap64 (x8_10 - a2)) < 64) = true := decide_eq_true c19
                          clear c19
                          obtain ⟨ji20, hji20⟩ : ∃ j_ : Int, (IntKind.u64.wrap (wrap64 (x8_10 - a2))) = j_ := ⟨_, rfl⟩
                          replace H : (if 0 ≤ (ji20) then (if 0 ≤ (IntKind.u64.wrap (wrap64 ((wrap64 (x8_10 - a2)) - 1))) then (if (IntKind.u64.wrap (a1 - (shl .u64 (shr .u64 a1 (ji20)) (ji20)))) > (shl .u64 1 (IntKind.u64.wrap (wrap64 ((wrap64 (x8_10 - a2)) - 1)))) then (heraldref03_near.j3 kj10 x7_3 x8_10 (IntKind.u64.wrap ((shr .u64 a1 (ji20)) + 1))) else (if (IntKind.u64.wrap (a1 - (shl .u64 (shr .u64 a1 (ji20)) (ji20)))) = (shl .u64 1 (IntKind.u64.wrap (wrap64 ((wrap64 (x8_10 - a2)) - 1)))) then (if (Int.tmod (shr .u64 a1 (ji20)) 2) = 1 then (heraldref03_near.j3 kj10 x7_3 x8_10 (IntKind.u64.wrap ((shr .u64 a1 (ji20)) + 1))) else (heraldref03_near.j3 kj10 x7_3 x8_10 (shr .u64 a1 (ji20)))) else (heraldref03_near.j3 kj10 x7_3 x8_10 (shr .u64 a1 (ji20))))) else (none)) else (none)) = some r := by first | (rw [hji20] at H; exact H) | (simp only [hji20] at H ⊢; exact H)
                          by_cases c21 : 0 ≤ (ji20)
                          · rw [if_pos c21] at H
                            have c21b0 := eq_true c21
                            have c21b1 : decide (0 ≤ (ji20)) = true := decide_eq_true c21
                            clear c21
                            obtain ⟨ji22, hji22⟩ : ∃ j_ : Int, (shr .u64 a1 (ji20)) = j_ := ⟨_, rfl⟩
                            replace H : (if 0 ≤ (IntKind.u64.wrap (wrap64 ((wrap64 (x8_10 - a2)) - 1))) then (if (IntKind.u64.wrap (a1 - (shl .u64 (ji22) (ji20)))) > (shl .u64 1 (IntKind.u64.wrap (wrap64 ((wrap64 (x8_10 - a2)) - 1)))) then (heraldref03_near.j3 kj10 x7_3 x8_10 (IntKind.u64.wrap ((ji22) + 1))) else (if (IntKind.u64.wrap (a1 - (shl .u64 (ji22) (ji20)))) = (shl .u64 1 (IntKind.u64.wrap (wrap64 ((wrap64 (x8_10 - a2)) - 1)))) then (if (Int.tmod (ji22) 2) = 1 then (heraldref03_near.j3 kj10 x7_3 x8_10 (IntKind.u64.wrap ((ji22) + 1))) else (heraldref03_near.j3 kj10 x7_3 x8_10 ji22)) else (heraldref03_near.j3 kj10 x7_3 x8_10 ji22))) else (none)) = some r := by first | (rw [hji22] at H; exact H) | (simp only [hji22] at H ⊢; exact H)
                            have hji22_ : (a1 / 2 ^ min (ji20).toNat 64) = ji22 := hji22
                            have hji22z : (ji20) ≤ 64 → (a1 / 2 ^ (ji20).toNat) = ji22 := shr_small hji22
                            have c23b0 := eq_true (of_decide_eq_true (by first | (with_reducible assumption) | assumption) : 0 ≤ (ji20))
                            obtain ⟨ji24, hji24⟩ : ∃ j_ : Int, (shl .u64 (ji22) (ji20)) = j_ := ⟨_, rfl⟩
                            replace H : (if 0 ≤ (IntKind.u64.wrap (wrap64 ((wrap64 (x8_10 - a2)) - 1))) then (if (IntKind.u64.wrap (a1 - (ji24))) > (shl .u64 1 (IntKind.u64.wrap (wrap64 ((wrap64 (x8_10 - a2)) - 1)))) then (heraldref03_near.j3 kj10 x7_3 x8_10 (IntKind.u64.wrap ((ji22) + 1))) else (if (IntKind.u64.wrap (a1 - (ji24))) = (shl .u64 1 (IntKind.u64.wrap (wrap64 ((wrap64 (x8_10 - a2)) - 1)))) then (if (Int.tmod (ji22) 2) = 1 then (heraldref03_near.j3 kj10 x7_3 x8_10 (IntKind.u64.wrap ((ji22) + 1))) else (heraldref03_near.j3 kj10 x7_3 x8_10 ji22)) else (heraldref03_near.j3 kj10 x7_3 x8_10 ji22))) else (none)) = some r := by first | (rw [hji24] at H; exact H) | (simp only [hji24] at H ⊢; exact H)
                            have hji24_ : (IntKind.u64.wrap ((ji22) * 2 ^ min (ji20).toNat 64)) = ji24 := hji24
                            have hji24z : (ji20) ≤ 64 → (IntKind.u64.wrap ((ji22) * 2 ^ (ji20).toNat)) = ji24 := shl_small hji24
                            obtain ⟨ji25, hji25⟩ : ∃ j_ : Int, (IntKind.u64.wrap (wrap64 ((wrap64 (x8_10 - a2)) - 1))) = j_ := ⟨_, rfl⟩
                            replace H : (if 0 ≤ (ji25) then (if (IntKind.u64.wrap (a1 - (ji24))) > (shl .u64 1 (ji25)) then (heraldref03_near.j3 kj10 x7_3 x8_10 (IntKind.u64.wrap ((ji22) + 1))) else (if (IntKind.u64.wrap (a1 - (ji24))) = (shl .u64 1 (ji25)) then (if (Int.tmod (ji22) 2) = 1 then (heraldref03_near.j3 kj10 x7_3 x8_10 (IntKind.u64.wrap ((ji22) + 1))) else (heraldref03_near.j3 kj10 x7_3 x8_10 ji22)) else (heraldref03_near.j3 kj10 x7_3 x8_10 ji22))) else (none)) = some r := by first | (rw [hji25] at H; exact H) | (simp only [hji25] at H ⊢; exact H)
                            by_cases c26 : 0 ≤ (ji25)
                            · rw [if_pos c26] at H
                              have c26b0 := eq_true c26
                              have c26b1 : decide (0 ≤ (ji25)) = true := decide_eq_true c26
                              clear c26
                              obtain ⟨ji27, hji27⟩ : ∃ j_ : Int, (shl .u64 1 (ji25)) = j_ := ⟨_, rfl⟩
                              replace H : (if (IntKind.u64.wrap (a1 - (ji24))) > (ji27) then (heraldref03_near.j3 kj10 x7_3 x8_10 (IntKind.u64.wrap ((ji22) + 1))) else (if (IntKind.u64.wrap (a1 - (ji24))) = (ji27) then (if (Int.tmod (ji22) 2) = 1 then (heraldref03_near.j3 kj10 x7_3 x8_10 (IntKind.u64.wrap ((ji22) + 1))) else (heraldref03_near.j3 kj10 x7_3 x8_10 ji22)) else (heraldref03_near.j3 kj10 x7_3 x8_10 ji22))) = some r := by first | (rw [hji27] at H; exact H) | (simp only [hji27] at H ⊢; exact H)
                              have hji27_ : (IntKind.u64.wrap (1 * 2 ^ min (ji25).toNat 64)) = ji27 := hji27
                              have hji27z : (ji25) ≤ 64 → (IntKind.u64.wrap (1 * 2 ^ (ji25).toNat)) = ji27 := shl_small hji27
                              have hji27u : (IntKind.u64.wrap (2 ^ min (ji25).toNat 64)) = ji27 := by have h_ := hji27_; rw [Int.one_mul] at h_; exact h_
                              have hji27v : (ji25) ≤ 64 → (IntKind.u64.wrap (2 ^ (ji25).toNat)) = ji27 := fun hle_ => by have h_ := hji27z hle_; rw [Int.one_mul] at h_; exact h_
                              by_cases c28 : (IntKind.u64.wrap (a1 - (ji24))) > (ji27)
                              · rw [if_pos c28] at H
                                have c28b0 : decide ((ji27) < (IntKind.u64.wrap (a1 - (ji24)))) = true := decide_eq_true c28
                                clear c28
                                have H' := Aside0.mk H
                                clear H
                                go_wp2
                                go_meet
                                case rel => exact ⟨_, (IntKind.u64.wrap ((ji22) + 1)), (by first | rfl | (simp; done) | (simp only [← hji22] <;> (first | rfl | simp)) | (simp [*]; done)), H', ⟨by have := HJ3.out; have := HJ5.out; have := HJ10.out; first | omega | exact Nat.le_refl _⟩, by repeat (first | exact Drawn0.refl _ | apply Drawn0.step)⟩
                              · rw [if_neg c28] at H
                                have c28b0 : decide ((ji27) < (IntKind.u64.wrap (a1 - (ji24)))) = false := decide_eq_false c28
                                clear c28
                                by_cases c29 : (IntKind.u64.wrap (a1 - (ji24))) = (ji27)
                                · rw [if_pos c29] at H
                                  have c29b0 : ((IntKind.u64.wrap (a1 - (ji24))) == (ji27)) = true := beq_iff_eq.mpr c29
                                  have c29b1 : ((IntKind.u64.wrap (a1 - (ji24))) != (ji27)) = false := bne_eq_false_iff_eq.mpr c29
                                  clear c29
                                  by_cases c30 : (Int.tmod (ji22) 2) = 1
                                  · rw [if_pos c30] at H
                                    have c30b0 : ((Int.tmod (ji22) 2) == 1) = true := beq_iff_eq.mpr c30
                                    have c30b1 : ((Int.tmod (ji22) 2) != 1) = false := bne_eq_false_iff_eq.mpr c30
                                    clear c30
                                    have H' := Aside0.mk H
                                    clear H
                                    go_wp2
                                    go_meet
                                    case rel => exact ⟨_, (IntKind.u64.wrap ((ji22) + 1)), (by first | rfl | (simp; done) | (simp only [← hji22] <;> (first | rfl | simp)) | (simp [*]; done)), H', ⟨by have := HJ3.out; have := HJ5.out; have := HJ10.out; first | omega | exact Nat.le_refl _⟩, by repeat (first | exact Drawn0.refl _ | apply Drawn0.step)⟩
                                  · rw [if_neg c30] at H
                                    have c30b0 : ((Int.tmod (ji22) 2) == 1) = false := beq_eq_false_iff_ne.mpr c30
                                    have c30b1 : ((Int.tmod (ji22) 2) != 1) = true := bne_iff_ne.mpr c30
                                    have H' := Aside0.mk H
                                    clear H
                                    go_wp2
                                    go_meet
                                    case rel => exact ⟨_, (ji22), (by first | rfl | (simp; done) | (simp only [← hji22] <;> (first | rfl | simp)) | (simp [*]; done)), H', ⟨by have := HJ3.out; have := HJ5.out; have := HJ10.out; first | omega | exact Nat.le_refl _⟩, by repeat (first | exact Drawn0.refl _ | apply Drawn0.step)⟩
                                · rw [if_neg c29] at H
                                  have c29b0 : ((IntKind.u64.wrap (a1 - (ji24))) == (ji27)) = false := beq_eq_false_iff_ne.mpr c29
                                  have c29b1 : ((IntKind.u64.wrap (a1 - (ji24))) != (ji27)) = true := bne_iff_ne.mpr c29
                                  have H' := Aside0.mk H
                                  clear H
                                  go_wp2
                                  go_meet
                                  case rel => exact ⟨_, (ji22), (by first | rfl | (simp; done) | (simp only [← hji22] <;> (first | rfl | simp)) | (simp [*]; done)), H', ⟨by have := HJ3.out; have := HJ5.out; have := HJ10.out; first | omega | exact Nat.le_refl _⟩, by repeat (first | exact Drawn0.refl _ | apply Drawn0.step)⟩
                            · rw [if_neg c26] at H
                              exact absurd H (by simp)
                          · rw [if_neg c21] at H
                            exact absurd H (by simp)
                        · rw [if_neg c19] at H
                          have c19b0 : decide ((wrap64 (x8_10 - a2)) < 64) = false := decide_eq_false c19
                          clear c19
                          obtain ⟨ji31, hji31⟩ : ∃ j_ : Int, (IntKind.u64.wrap (wrap64 ((wrap64 (x8_10 - a2)) - 1))) = j_ := ⟨_, rfl⟩
                          replace H : (if 0 ≤ (ji31) then (if a1 > (shl .u64 1 (ji31)) then (heraldref03_near.j3 kj10 x7_3 x8_10 (0 + 1)) else (if a1 = (shl .u64 1 (ji31)) then (if ((0 : Int) % 2) = 1 then (heraldref03_near.j3 kj10 x7_3 x8_10 (0 + 1)) else (heraldref03_near.j3 kj10 x7_3 x8_10 0)) else (heraldref03_near.j3 kj10 x7_3 x8_10 0))) else (none)) = some r := by first | (rw [hji31] at H; exact H) | (simp only [hji31] at H ⊢; exact H)
                          by_cases c32 : 0 ≤ (ji31)
                          · rw [if_pos c32] at H
                            have c32b0 := eq_true c32
                            have c32b1 : decide (0 ≤ (ji31)) = true := decide_eq_true c32
                            clear c32
                            obtain ⟨ji33, hji33⟩ : ∃ j_ : Int, (shl .u64 1 (ji31)) = j_ := ⟨_, rfl⟩
                            replace H : (if a1 > (ji33) then (heraldref03_near.j3 kj10 x7_3 x8_10 (0 + 1)) else (if a1 = (ji33) then (if ((0 : Int) % 2) = 1 then (heraldref03_near.j3 kj10 x7_3 x8_10 (0 + 1)) else (heraldref03_near.j3 kj10 x7_3 x8_10 0)) else (heraldref03_near.j3 kj10 x7_3 x8_10 0))) = some r := by first | (rw [hji33] at H; exact H) | (simp only [hji33] at H ⊢; exact H)
                            have hji33_ : (IntKind.u64.wrap (1 * 2 ^ min (ji31).toNat 64)) = ji33 := hji33
                            have hji33z : (ji31) ≤ 64 → (IntKind.u64.wrap (1 * 2 ^ (ji31).toNat)) = ji33 := shl_small hji33
                            have hji33u : (IntKind.u64.wrap (2 ^ min (ji31).toNat 64)) = ji33 := by have h_ := hji33_; rw [Int.one_mul] at h_; exact h_
                            have hji33v : (ji31) ≤ 64 → (IntKind.u64.wrap (2 ^ (ji31).toNat)) = ji33 := fun hle_ => by have h_ := hji33z hle_; rw [Int.one_mul] at h_; exact h_
                            by_cases c34 : a1 > (ji33)
                            · rw [if_pos c34] at H
                              have c34b0 : decide ((ji33) < a1) = true := decide_eq_true c34
                              clear c34
                              have H' := Aside0.mk H
                              clear H
                              go_wp2
                              all_goals (go_meet; (case rel => exact ⟨_, (0 + 1), (by first | rfl | (simp; done) | (simp [*]; done) | (simp [i64_w]; done) | (simp [*, i64_w]; done)), H', ⟨by have := HJ3.out; have := HJ5.out; have := HJ10.out; first | omega | exact Nat.le_refl _⟩, by repeat (first | exact Drawn0.refl _ | apply Drawn0.step)⟩))
                            · rw [if_neg c34] at H
                              have c34b0 : decide ((ji33) < a1) = false := decide_eq_false c34
                              clear c34
                              by_cases c35 : a1 = (ji33)
                              · rw [if_pos c35] at H
                                have c35b0 : (a1 == (ji33)) = true := beq_iff_eq.mpr c35
                                have c35b1 : (a1 != (ji33)) = false := bne_eq_false_iff_eq.mpr c35
                                clear c35
                                by_cases c36 : ((0 : Int) % 2) = 1
                                · rw [if_pos c36] at H
                                  have c36b0 : (((0 : Int) % 2) == 1) = true := beq_iff_eq.mpr c36
                                  have c36b1 : (((0 : Int) % 2) != 1) = false := bne_eq_false_iff_eq.mpr c36
                                  clear c36
                                  have H' := Aside0.mk H
                                  clear H
                                  go_wp2
                                  all_goals (go_meet; (case rel => exact ⟨_, (0 + 1), (by first | rfl | (simp; done) | (simp [*]; done) | (simp [i64_w]; done) | (simp [*, i64_w]; done)), H', ⟨by have := HJ3.out; have := HJ5.out; have := HJ10.out; first | omega | exact Nat.le_refl _⟩, by repeat (first | exact Drawn0.refl _ | apply Drawn0.step)⟩))
                                · rw [if_neg c36] at H
                                  have c36b0 : (((0 : Int) % 2) == 1) = false := beq_eq_false_iff_ne.mpr c36
                                  have c36b1 : (((0 : Int) % 2) != 1) = true := bne_iff_ne.mpr c36
                                  have H' := Aside0.mk H
                                  clear H
                                  go_wp2
                                  go_meet
                                  case rel => exact ⟨_, (0), (by first | rfl | (simp; done) | (simp [*]; done) | (simp [i64_w]; done) | (simp [*, i64_w]; done)), H', ⟨by have := HJ3.out; have := HJ5.out; have := HJ10.out; first | omega | exact Nat.le_refl _⟩, by repeat (first | exact Drawn0.refl _ | apply Drawn0.step)⟩
                              · rw [if_neg c35] at H
                                have c35b0 : (a1 == (ji33)) = false := beq_eq_false_iff_ne.mpr c35
                                have c35b1 : (a1 != (ji33)) = true := bne_iff_ne.mpr c35
                                have H' := Aside0.mk H
                                clear H
                                go_wp2
                                go_meet
                                case rel => exact ⟨_, (0), (by first | rfl | (simp; done) | (simp [*]; done) | (simp [i64_w]; done) | (simp [*, i64_w]; done)), H', ⟨by have := HJ3.out; have := HJ5.out; have := HJ10.out; first | omega | exact Nat.le_refl _⟩, by repeat (first | exact Drawn0.refl _ | apply Drawn0.step)⟩
                          · rw [if_neg c32] at H
                            exact absurd H (by simp)
                      · rw [if_neg c18] at H
                        have c18b0 : decide ((wrap64 (x8_10 - a2)) ≤ 64) = false := decide_eq_false c18
                        clear c18
                        have H' := Aside0.mk H
                        clear H
                        go_wp2
                        go_meet
                        case rel => exact ⟨_, (0), (by first | rfl | (simp; done) | (simp [*]; done) | (simp [i64_w]; done) | (simp [*, i64_w]; done)), H', ⟨by have := HJ3.out; have := HJ5.out; have := HJ10.out; first | omega | exact Nat.le_refl _⟩, by repeat (first | exact Drawn0.refl _ | apply Drawn0.step)⟩
                  case rest =>
                    clear HC13
                    try clear c1
                    try clear c2
                    try clear p2
                    try clear c3
                    try clear c4
                    try clear c5
                    try clear c6
                    try clear p6
                    try clear c7
                    try clear c7b0
                    try clear c7b1
                    try clear c8
                    try clear c9
                    try clear c9b0
                    try clear c10
                    try clear c12
                    try clear c12b0
                    try clear c14
                    try clear c14b0
                    try clear c16
                    try clear c16b0
                    try clear c16b1
                    try clear c18
                    try clear c18b0
                    try clear c19
                    try clear c19b0
                    try clear c21
                    try clear c21b0
                    try clear c21b1
                    try clear c23
                    try clear c23b0
                    try clear c26
                    try clear c26b0
                    try clear c26b1
                    try clear c28
                    try clear c28b0
                    try clear c29
                    try clear c29b0
                    try clear c29b1
                    try clear c30
                    try clear c30b0
                    try clear c30b1
                    try clear c32
                    try clear c32b0
                    try clear c32b1
                    try clear c34
                    try clear c34b0
                    try clear c35
                    try clear c35b0
                    try clear c35b1
                    try clear c36
                    try clear c36b0
                    try clear c36b1
                    try clear p2
                    try clear p6
                    obtain ⟨kq, x9_12, rfl, HA, HJ12, ⟨mc12, rfl⟩⟩ := hcut
                    cases kq with
                    | zero => exact absurd HA.out (by simp [heraldref03_near.j3])
                    | succ kj12 =>
                      have H := HA.out
                      clear HA
                      simp only [heraldref03_near.j3] at H
                      have HC37 := Aside0.mk H
                      clear H
                      go_upto_if 77 with (fail)
                      go_cut [8, 9] (fun v8 v9 wc => ∃ (kq : Nat) (x8_36 : Int) (x9_36 : Int), v8 = .int .i64 x8_36 ∧ v9 = .int .u64 x9_36 ∧ Aside0 (heraldref03_near.j4 kq x7_3 x8_36 x9_36 = some r) ∧ Aside0 (kq ≤ kj12) ∧ Drawn0 w wc)
                      case first =>
                        have H := HC37.out
                        clear HC37
                        by_cases c38 : x9_12 = 16777216
                        · rw [if_pos c38] at H
                          have c38b0 : (x9_12 == 16777216) = true := beq_iff_eq.mpr c38
                          have c38b1 : (x9_12 != 16777216) = false := bne_eq_false_iff_eq.mpr c38
                          clear c38
                          (first | rw [c38b0] | (simp only [i64_w, i32_w]; rw [c38b0]) | skip)
                          have H' := Aside0.mk H
                          clear H
                          go_wp2
                          go_meet
                          case rel => exact ⟨_, (wrap64 (x8_10 + 1)), (IntKind.u64.wrap (Int.tdiv x9_12 2)), (by first | rfl | (simp; done) | (simp [*]; done) | (simp [i64_w]; done) | (simp [*, i64_w]; done)), (by first | rfl | (simp; done) | (simp [*]; done) | (simp [i64_w]; done) | (simp [*, i64_w]; done)), H', ⟨by have := HJ3.out; have := HJ5.out; have := HJ10.out; have := HJ12.out; first | omega | exact Nat.le_refl _⟩, by repeat (first | exact Drawn0.refl _ | apply Drawn0.step)⟩
                        · rw [if_neg c38] at H
                          have c38b0 : (x9_12 == 16777216) = false := beq_eq_false_iff_ne.mpr c38
                          have c38b1 : (x9_12 != 16777216) = true := bne_iff_ne.mpr c38
                          (first | rw [c38b0] | (simp only [i64_w, i32_w]; rw [c38b0]) | skip)
                          have H' := Aside0.mk H
                          clear H
                          go_wp2
                          go_meet
                          case rel => exact ⟨_, (x8_10), (x9_12), (by first | rfl | (simp; done) | (simp [*]; done) | (simp [i64_w]; done) | (simp [*, i64_w]; done)), (by first | rfl | (simp; done) | (simp [*]; done) | (simp [i64_w]; done) | (simp [*, i64_w]; done)), H', ⟨by have := HJ3.out; have := HJ5.out; have := HJ10.out; have := HJ12.out; first | omega | exact Nat.le_refl _⟩, by repeat (first | exact Drawn0.refl _ | apply Drawn0.step)⟩
                      case rest =>
                        clear HC37
                        try clear c1
                        try clear c2
                        try clear p2
                        try clear c3
                        try clear c4
                        try clear c5
                        try clear c6
                        try clear p6
                        try clear c7
                        try clear c7b0
                        try clear c7b1
                        try clear c8
                        try clear c9
                        try clear c9b0
                        try clear c10
                        try clear c12
                        try clear c12b0
                        try clear c14
                        try clear c14b0
                        try clear c16
                        try clear c16b0
                        try clear c16b1
                        try clear c18
                        try clear c18b0
                        try clear c19
                        try clear c19b0
                        try clear c21
                        try clear c21b0
                        try clear c21b1
                        try clear c23
                        try clear c23b0
                        try clear c26
                        try clear c26b0
                        try clear c26b1
                        try clear c28
                        try clear c28b0
                        try clear c29
                        try clear c29b0
                        try clear c29b1
                        try clear c30
                        try clear c30b0
                        try clear c30b1
                        try clear c32
                        try clear c32b0
                        try clear c32b1
                        try clear c34
                        try clear c34b0
                        try clear c35
                        try clear c35b0
                        try clear c35b1
                        try clear c36
                        try clear c36b0
                        try clear c36b1
                        try clear c38
                        try clear c38b0
                        try clear c38b1
                        try clear p2
                        try clear p6
                        obtain ⟨kq, x8_36, x9_36, rfl, rfl, HA, HJ36, ⟨mc36, rfl⟩⟩ := hcut
                        cases kq with
                        | zero => exact absurd HA.out (by simp [heraldref03_near.j4])
                        | succ kj36 =>
                          have H := HA.out
                          clear HA
                          simp only [heraldref03_near.j4] at H
                          by_cases c39 : x9_36 < 8388608
                          · rw [if_pos c39] at H
                            have c39b0 : decide (x9_36 < 8388608) = true := decide_eq_true c39
                            clear c39
                            obtain rfl := Option.some.inj H
                            go_wp2
                            go_ret
                            exact ⟨by first | rfl | (simp; done) | (simp [*]; done), by repeat (first | exact Drawn0.refl _ | apply Drawn0.step)⟩
                          · rw [if_neg c39] at H
                            have c39b0 : decide (x9_36 < 8388608) = false := decide_eq_false c39
                            clear c39
                            by_cases c40 : (wrap64 (x8_36 + 150)) ≥ 255
                            · rw [if_pos c40] at H
                              have c40b0 : decide (255 ≤ (wrap64 (x8_36 + 150))) = true := decide_eq_true c40
                              clear c40
                              obtain rfl := Option.some.inj H
                              go_wp2
                              go_ret
                              exact ⟨by first | rfl | (simp; done) | (simp [*]; done), by repeat (first | exact Drawn0.refl _ | apply Drawn0.step)⟩
                            · rw [if_neg c40] at H
                              have c40b0 : decide (255 ≤ (wrap64 (x8_36 + 150))) = false := decide_eq_false c40
                              clear c40
                              obtain rfl := Option.some.inj H
                              go_wp2
                              go_ret
                              exact ⟨by first | rfl | (simp; done) | (simp [*]; done), by repeat (first | exact Drawn0.refl _ | apply Drawn0.step)⟩

end Go.Proofs.YteecekhfpfnepaaDoor.PAll
