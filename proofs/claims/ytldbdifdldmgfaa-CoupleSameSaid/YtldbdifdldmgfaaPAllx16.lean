-- Written by a program of this session out of the translation. Lean checks it.
import Derived.Test.YtldbdifdldmgfaaPAllx0
import Derived.Test.YtldbdifdldmgfaaPAllx1
import Derived.Test.YtldbdifdldmgfaaPAllx3
import Derived.Test.YtldbdifdldmgfaaPAllx4
import Derived.Test.YtldbdifdldmgfaaPAllx6
import Derived.Test.YtldbdifdldmgfaaHDraw
import Derived.Test.YtldbdifdldmgfaaHGuess
namespace Go.Proofs.Ytldbdifdldmgfaa.PAll
open Go.RowKit Go.Proofs.YtldbdifdldmgfaaW.PrintWords Go.Proofs.YtldbdifdldmgfaaW.PrintLast Go.Proofs.YtldbdifdldmgfaaW.PrintMore
attribute [local go_sem] max2_int min2_int max_two min_two max_three min_three max_four min_four   -- for this text's walks alone
set_option linter.unusedVariables false
set_option linter.unusedSimpArgs false

attribute [local go_sem high] eqA26
/-! ### heraldlaw24_CoupleSame: function 10 -/
mutual
def heraldlaw24_CoupleSame.j0 : Nat → List Int → List Int → Int → Int → Bool → Option (Bool)
  | 0, _, _, _, _, _ => none
  | k + 1, x0, x1, x2, x7, x32 => if x32 = true then (some true) else ((couple_Guess.f k x0 x0 x2).bind fun bt335 => ((couple_Draw.f k x0 x2).bind fun bt340 => (if bt335.2.2.2 = 0 then (if bt340.2 = 0 then (heraldlaw24_CoupleSame.j1 k x0 x1 x2 x7 (!(bt335.1 == bt340.1) || (!(bt335.2.1 == bt340.1) || (!bt335.2.2.1)))) else (heraldlaw24_CoupleSame.j1 k x0 x1 x2 x7 true)) else (heraldlaw24_CoupleSame.j1 k x0 x1 x2 x7 true))))
def heraldlaw24_CoupleSame.j1 : Nat → List Int → List Int → Int → Int → Bool → Option (Bool)
  | 0, _, _, _, _, _ => none
  | k + 1, x0, x1, x2, x7, x58 => if x58 = true then (some false) else ((heraldref24_Sum.f k x1).bind fun t342 => (if t342 = x7 then (heraldlaw24_CoupleSame.j2 k x0 x1 x2 x7 ((x1.length : Int) != (x0.length : Int))) else (heraldlaw24_CoupleSame.j2 k x0 x1 x2 x7 true)))
def heraldlaw24_CoupleSame.j2 : Nat → List Int → List Int → Int → Int → Bool → Option (Bool)
  | 0, _, _, _, _, _ => none
  | k + 1, x0, x1, x2, x7, x69 => if x69 = true then (some true) else ((couple_Guess.f k x0 x1 x2).bind fun bt343 => (if bt343.2.2.2 = 0 then (if bt343.2.1 < 0 then (heraldlaw24_CoupleSame.j3 k x0 x1 x7 true) else (if bt343.2.1 ≥ (x0.length : Int) then (heraldlaw24_CoupleSame.j3 k x0 x1 x7 true) else (if bt343.1 < 0 then (heraldlaw24_CoupleSame.j3 k x0 x1 x7 true) else (if bt343.1 ≥ (x0.length : Int) then (heraldlaw24_CoupleSame.j3 k x0 x1 x7 true) else (if 0 ≤ bt343.2.1 then (if bt343.2.1 < (x0.length : Int) then (if (rd x0 bt343.2.1) = 0 then (heraldlaw24_CoupleSame.j3 k x0 x1 x7 true) else (if 0 ≤ bt343.1 then (if bt343.1 < (x1.length : Int) then (heraldlaw24_CoupleSame.j3 k x0 x1 x7 ((rd x1 bt343.1) == 0)) else (none)) else (none))) else (none)) else (none)))))) else (heraldlaw24_CoupleSame.j3 k x0 x1 x7 true)))
def heraldlaw24_CoupleSame.j3 : Nat → List Int → List Int → Int → Bool → Option (Bool)
  | 0, _, _, _, _ => none
  | k + 1, x0, x1, x7, x118 => if x118 = true then (some false) else ((couple_Kept.f k x0 x1).bind fun bt349 => ((couple_Kept.f k x1 x0).bind fun bt351 => ((couple_Left.f k x0 x1).bind fun bt353 => (if bt349.2 = 0 then (if bt351.2 = 0 then (if bt353.2 = 0 then (if bt349.1 = bt351.1 then (heraldlaw24_CoupleSame.j4 k x0 x7 bt349.1 bt353.1 ((bt353.1.length : Int) != (x0.length : Int))) else (heraldlaw24_CoupleSame.j4 k x0 x7 bt349.1 bt353.1 true)) else (heraldlaw24_CoupleSame.j4 k x0 x7 bt349.1 bt353.1 true)) else (heraldlaw24_CoupleSame.j4 k x0 x7 bt349.1 bt353.1 true)) else (heraldlaw24_CoupleSame.j4 k x0 x7 bt349.1 bt353.1 true)))))
def heraldlaw24_CoupleSame.j4 : Nat → List Int → Int → Int → List Int → Bool → Option (Bool)
  | 0, _, _, _, _, _ => none
  | k + 1, x0, x7, x12, x14, x158 => if x158 = true then (some false) else (heraldlaw24_CoupleSame.l0 k x0 x7 x12 x14 (x14.length : Int) 0)
def heraldlaw24_CoupleSame.l0 : Nat → List Int → Int → Int → List Int → Int → Int → Option (Bool)
  | 0, _, _, _, _, _, _ => none
  | k + 1, x0, x7, x12, x159, x160, x161 => if x161 < x160 then (if 0 ≤ x161 then (if x161 < (x159.length : Int) then (if (rd x159 x161) < 0 then (some false) else (if x161 < (x0.length : Int) then (if (rd x159 x161) > (rd x0 x161) then (some false) else (heraldlaw24_CoupleSame.l0 k x0 x7 (wrap64 (x12 + (rd x159 x161))) x159 x160 (wrap64 (x161 + 1)))) else (none))) else (none)) else (none)) else (some (x12 == x7))
end
def heraldlaw24_CoupleSame.f (k : Nat) (l0 : List Int) (l1 : List Int) (a2 : Int) : Option (Bool) := (heraldlaw24_awake.f k).bind fun t333 => (if t333 = true then ((heraldref24_Sum.f k l0).bind fun t334 => (if t334 = 0 then (heraldlaw24_CoupleSame.j0 k l0 l1 a2 t334 true) else (if a2 < 0 then (heraldlaw24_CoupleSame.j0 k l0 l1 a2 t334 true) else (heraldlaw24_CoupleSame.j0 k l0 l1 a2 t334 (decide (a2 ≥ t334)))))) else (some false))
theorem heraldlaw24_CoupleSame.mono_l : ∀ k, (∀ y0 y1 y2 y3 y4, LeO (heraldlaw24_CoupleSame.j0 k y0 y1 y2 y3 y4) (heraldlaw24_CoupleSame.j0 (k + 1) y0 y1 y2 y3 y4)) ∧ (∀ y0 y1 y2 y3 y4, LeO (heraldlaw24_CoupleSame.j1 k y0 y1 y2 y3 y4) (heraldlaw24_CoupleSame.j1 (k + 1) y0 y1 y2 y3 y4)) ∧ (∀ y0 y1 y2 y3 y4, LeO (heraldlaw24_CoupleSame.j2 k y0 y1 y2 y3 y4) (heraldlaw24_CoupleSame.j2 (k + 1) y0 y1 y2 y3 y4)) ∧ (∀ y0 y1 y2 y3, LeO (heraldlaw24_CoupleSame.j3 k y0 y1 y2 y3) (heraldlaw24_CoupleSame.j3 (k + 1) y0 y1 y2 y3)) ∧ (∀ y0 y1 y2 y3 y4, LeO (heraldlaw24_CoupleSame.j4 k y0 y1 y2 y3 y4) (heraldlaw24_CoupleSame.j4 (k + 1) y0 y1 y2 y3 y4)) ∧ (∀ y0 y1 y2 y3 y4 y5, LeO (heraldlaw24_CoupleSame.l0 k y0 y1 y2 y3 y4 y5) (heraldlaw24_CoupleSame.l0 (k + 1) y0 y1 y2 y3 y4 y5))
  | 0 => ⟨fun _ _ _ _ _ r h => by simp [heraldlaw24_CoupleSame.j0] at h, fun _ _ _ _ _ r h => by simp [heraldlaw24_CoupleSame.j1] at h, fun _ _ _ _ _ r h => by simp [heraldlaw24_CoupleSame.j2] at h, fun _ _ _ _ r h => by simp [heraldlaw24_CoupleSame.j3] at h, fun _ _ _ _ _ r h => by simp [heraldlaw24_CoupleSame.j4] at h, fun _ _ _ _ _ _ r h => by simp [heraldlaw24_CoupleSame.l0] at h⟩
  | k + 1 => by
    obtain ⟨ih0, ih1, ih2, ih3, ih4, ih5⟩ := heraldlaw24_CoupleSame.mono_l k
    refine ⟨?_, ?_, ?_, ?_, ?_, ?_⟩
    · intro y0 y1 y2 y3 y4
      unfold heraldlaw24_CoupleSame.j0
      repeat' first
      | (with_reducible exact ih0 _ _ _ _ _)
      | (with_reducible exact ih1 _ _ _ _ _)
      | (with_reducible exact ih2 _ _ _ _ _)
      | (with_reducible exact ih3 _ _ _ _)
      | (with_reducible exact ih4 _ _ _ _ _)
      | (with_reducible exact ih5 _ _ _ _ _ _)
      | (with_reducible exact couple_Draw.mono _ _ _)
      | (with_reducible exact couple_Guess.mono _ _ _ _)
      | (with_reducible exact couple_Kept.mono _ _ _)
      | (with_reducible exact couple_Left.mono _ _ _)
      | (with_reducible exact heraldlaw24_awake.mono _)
      | (with_reducible exact heraldref24_Sum.mono _ _)
      | (with_reducible exact LeO.refl _)
      | (with_reducible exact LeO.none _)
      | (with_reducible refine LeO.ite ?_ ?_)
      | (with_reducible refine LeO.bind ?_ (fun _ => ?_))
      | exact ih0 _ _ _ _ _
      | exact ih1 _ _ _ _ _
      | exact ih2 _ _ _ _ _
      | exact ih3 _ _ _ _
      | exact ih4 _ _ _ _ _
      | exact ih5 _ _ _ _ _ _
      | exact couple_Draw.mono _ _ _
      | exact couple_Guess.mono _ _ _ _
      | exact couple_Kept.mono _ _ _
      | exact couple_Left.mono _ _ _
      | exact heraldlaw24_awake.mono _
      | exact heraldref24_Sum.mono _ _
      | exact LeO.none _
      | refine LeO.ite ?_ ?_
      | refine LeO.bind ?_ (fun _ => ?_)
    · intro y0 y1 y2 y3 y4
      unfold heraldlaw24_CoupleSame.j1
      repeat' first
      | (with_reducible exact ih0 _ _ _ _ _)
      | (with_reducible exact ih1 _ _ _ _ _)
      | (with_reducible exact ih2 _ _ _ _ _)
      | (with_reducible exact ih3 _ _ _ _)
      | (with_reducible exact ih4 _ _ _ _ _)
      | (with_reducible exact ih5 _ _ _ _ _ _)
      | (with_reducible exact couple_Draw.mono _ _ _)
      | (with_reducible exact couple_Guess.mono _ _ _ _)
      | (with_reducible exact couple_Kept.mono _ _ _)
      | (with_reducible exact couple_Left.mono _ _ _)
      | (with_reducible exact heraldlaw24_awake.mono _)
      | (with_reducible exact heraldref24_Sum.mono _ _)
      | (with_reducible exact LeO.refl _)
      | (with_reducible exact LeO.none _)
      | (with_reducible refine LeO.ite ?_ ?_)
      | (with_reducible refine LeO.bind ?_ (fun _ => ?_))
      | exact ih0 _ _ _ _ _
      | exact ih1 _ _ _ _ _
      | exact ih2 _ _ _ _ _
      | exact ih3 _ _ _ _
      | exact ih4 _ _ _ _ _
      | exact ih5 _ _ _ _ _ _
      | exact couple_Draw.mono _ _ _
      | exact couple_Guess.mono _ _ _ _
      | exact couple_Kept.mono _ _ _
      | exact couple_Left.mono _ _ _
      | exact heraldlaw24_awake.mono _
      | exact heraldref24_Sum.mono _ _
      | exact LeO.none _
      | refine LeO.ite ?_ ?_
      | refine LeO.bind ?_ (fun _ => ?_)
    · intro y0 y1 y2 y3 y4
      unfold heraldlaw24_CoupleSame.j2
      repeat' first
      | (with_reducible exact ih0 _ _ _ _ _)
      | (with_reducible exact ih1 _ _ _ _ _)
      | (with_reducible exact ih2 _ _ _ _ _)
      | (with_reducible exact ih3 _ _ _ _)
      | (with_reducible exact ih4 _ _ _ _ _)
      | (with_reducible exact ih5 _ _ _ _ _ _)
      | (with_reducible exact couple_Draw.mono _ _ _)
      | (with_reducible exact couple_Guess.mono _ _ _ _)
      | (with_reducible exact couple_Kept.mono _ _ _)
      | (with_reducible exact couple_Left.mono _ _ _)
      | (with_reducible exact heraldlaw24_awake.mono _)
      | (with_reducible exact heraldref24_Sum.mono _ _)
      | (with_reducible exact LeO.refl _)
      | (with_reducible exact LeO.none _)
      | (with_reducible refine LeO.ite ?_ ?_)
      | (with_reducible refine LeO.bind ?_ (fun _ => ?_))
      | exact ih0 _ _ _ _ _
      | exact ih1 _ _ _ _ _
      | exact ih2 _ _ _ _ _
      | exact ih3 _ _ _ _
      | exact ih4 _ _ _ _ _
      | exact ih5 _ _ _ _ _ _
      | exact couple_Draw.mono _ _ _
      | exact couple_Guess.mono _ _ _ _
      | exact couple_Kept.mono _ _ _
      | exact couple_Left.mono _ _ _
      | exact heraldlaw24_awake.mono _
      | exact heraldref24_Sum.mono _ _
      | exact LeO.none _
      | refine LeO.ite ?_ ?_
      | refine LeO.bind ?_ (fun _ => ?_)
    · intro y0 y1 y2 y3
      unfold heraldlaw24_CoupleSame.j3
      repeat' first
      | (with_reducible exact ih0 _ _ _ _ _)
      | (with_reducible exact ih1 _ _ _ _ _)
      | (with_reducible exact ih2 _ _ _ _ _)
      | (with_reducible exact ih3 _ _ _ _)
      | (with_reducible exact ih4 _ _ _ _ _)
      | (with_reducible exact ih5 _ _ _ _ _ _)
      | (with_reducible exact couple_Draw.mono _ _ _)
      | (with_reducible exact couple_Guess.mono _ _ _ _)
      | (with_reducible exact couple_Kept.mono _ _ _)
      | (with_reducible exact couple_Left.mono _ _ _)
      | (with_reducible exact heraldlaw24_awake.mono _)
      | (with_reducible exact heraldref24_Sum.mono _ _)
      | (with_reducible exact LeO.refl _)
      | (with_reducible exact LeO.none _)
      | (with_reducible refine LeO.ite ?_ ?_)
      | (with_reducible refine LeO.bind ?_ (fun _ => ?_))
      | exact ih0 _ _ _ _ _
      | exact ih1 _ _ _ _ _
      | exact ih2 _ _ _ _ _
      | exact ih3 _ _ _ _
      | exact ih4 _ _ _ _ _
      | exact ih5 _ _ _ _ _ _
      | exact couple_Draw.mono _ _ _
      | exact couple_Guess.mono _ _ _ _
      | exact couple_Kept.mono _ _ _
      | exact couple_Left.mono _ _ _
      | exact heraldlaw24_awake.mono _
      | exact heraldref24_Sum.mono _ _
      | exact LeO.none _
      | refine LeO.ite ?_ ?_
      | refine LeO.bind ?_ (fun _ => ?_)
    · intro y0 y1 y2 y3 y4
      unfold heraldlaw24_CoupleSame.j4
      repeat' first
      | (with_reducible exact ih0 _ _ _ _ _)
      | (with_reducible exact ih1 _ _ _ _ _)
      | (with_reducible exact ih2 _ _ _ _ _)
      | (with_reducible exact ih3 _ _ _ _)
      | (with_reducible exact ih4 _ _ _ _ _)
      | (with_reducible exact ih5 _ _ _ _ _ _)
      | (with_reducible exact couple_Draw.mono _ _ _)
      | (with_reducible exact couple_Guess.mono _ _ _ _)
      | (with_reducible exact couple_Kept.mono _ _ _)
      | (with_reducible exact couple_Left.mono _ _ _)
      | (with_reducible exact heraldlaw24_awake.mono _)
      | (with_reducible exact heraldref24_Sum.mono _ _)
      | (with_reducible exact LeO.refl _)
      | (with_reducible exact LeO.none _)
      | (with_reducible refine LeO.ite ?_ ?_)
      | (with_reducible refine LeO.bind ?_ (fun _ => ?_))
      | exact ih0 _ _ _ _ _
      | exact ih1 _ _ _ _ _
      | exact ih2 _ _ _ _ _
      | exact ih3 _ _ _ _
      | exact ih4 _ _ _ _ _
      | exact ih5 _ _ _ _ _ _
      | exact couple_Draw.mono _ _ _
      | exact couple_Guess.mono _ _ _ _
      | exact couple_Kept.mono _ _ _
      | exact couple_Left.mono _ _ _
      | exact heraldlaw24_awake.mono _
      | exact heraldref24_Sum.mono _ _
      | exact LeO.none _
      | refine LeO.ite ?_ ?_
      | refine LeO.bind ?_ (fun _ => ?_)
    · intro y0 y1 y2 y3 y4 y5
      unfold heraldlaw24_CoupleSame.l0
      repeat' first
      | (with_reducible exact ih0 _ _ _ _ _)
      | (with_reducible exact ih1 _ _ _ _ _)
      | (with_reducible exact ih2 _ _ _ _ _)
      | (with_reducible exact ih3 _ _ _ _)
      | (with_reducible exact ih4 _ _ _ _ _)
      | (with_reducible exact ih5 _ _ _ _ _ _)
      | (with_reducible exact couple_Draw.mono _ _ _)
      | (with_reducible exact couple_Guess.mono _ _ _ _)
      | (with_reducible exact couple_Kept.mono _ _ _)
      | (with_reducible exact couple_Left.mono _ _ _)
      | (with_reducible exact heraldlaw24_awake.mono _)
      | (with_reducible exact heraldref24_Sum.mono _ _)
      | (with_reducible exact LeO.refl _)
      | (with_reducible exact LeO.none _)
      | (with_reducible refine LeO.ite ?_ ?_)
      | (with_reducible refine LeO.bind ?_ (fun _ => ?_))
      | exact ih0 _ _ _ _ _
      | exact ih1 _ _ _ _ _
      | exact ih2 _ _ _ _ _
      | exact ih3 _ _ _ _
      | exact ih4 _ _ _ _ _
      | exact ih5 _ _ _ _ _ _
      | exact couple_Draw.mono _ _ _
      | exact couple_Guess.mono _ _ _ _
      | exact couple_Kept.mono _ _ _
      | exact couple_Left.mono _ _ _
      | exact heraldlaw24_awake.mono _
      | exact heraldref24_Sum.mono _ _
      | exact LeO.none _
      | refine LeO.ite ?_ ?_
      | refine LeO.bind ?_ (fun _ => ?_)
theorem heraldlaw24_CoupleSame.mono : ∀ a0 a1 a2 k, LeO (heraldlaw24_CoupleSame.f k a0 a1 a2) (heraldlaw24_CoupleSame.f (k + 1) a0 a1 a2) := by
  intro a0 a1 a2 k
  obtain ⟨ih0, ih1, ih2, ih3, ih4, ih5⟩ := heraldlaw24_CoupleSame.mono_l k
  unfold heraldlaw24_CoupleSame.f
  repeat' first
      | (with_reducible exact ih0 _ _ _ _ _)
      | (with_reducible exact ih1 _ _ _ _ _)
      | (with_reducible exact ih2 _ _ _ _ _)
      | (with_reducible exact ih3 _ _ _ _)
      | (with_reducible exact ih4 _ _ _ _ _)
      | (with_reducible exact ih5 _ _ _ _ _ _)
      | (with_reducible exact couple_Draw.mono _ _ _)
      | (with_reducible exact couple_Guess.mono _ _ _ _)
      | (with_reducible exact couple_Kept.mono _ _ _)
      | (with_reducible exact couple_Left.mono _ _ _)
      | (with_reducible exact heraldlaw24_awake.mono _)
      | (with_reducible exact heraldref24_Sum.mono _ _)
      | (with_reducible exact LeO.refl _)
      | (with_reducible exact LeO.none _)
      | (with_reducible refine LeO.ite ?_ ?_)
      | (with_reducible refine LeO.bind ?_ (fun _ => ?_))
      | exact ih0 _ _ _ _ _
      | exact ih1 _ _ _ _ _
      | exact ih2 _ _ _ _ _
      | exact ih3 _ _ _ _
      | exact ih4 _ _ _ _ _
      | exact ih5 _ _ _ _ _ _
      | exact couple_Draw.mono _ _ _
      | exact couple_Guess.mono _ _ _ _
      | exact couple_Kept.mono _ _ _
      | exact couple_Left.mono _ _ _
      | exact heraldlaw24_awake.mono _
      | exact heraldref24_Sum.mono _ _
      | exact LeO.none _
      | refine LeO.ite ?_ ?_
      | refine LeO.bind ?_ (fun _ => ?_)
set_option maxHeartbeats 8000000 in
set_option maxRecDepth 100000 in
theorem heraldlaw24_CoupleSame.calls (k : Nat) (A0 : Option Addr) (c0 : Nat) (l0 : List Int) (A1 : Option Addr) (c1 : Nat) (l1 : List Int) (a2 : Int) (r : Bool) (w : World) (hr0 : Kd.C (Kd.int .i64) w A0 l0.length l0) (hc0 : l0.length ≤ c0) (hr1 : Kd.C (Kd.int .i64) w A1 l1.length l1) (hc1 : l1.length ≤ c1) (h : heraldlaw24_CoupleSame.f k l0 l1 a2 = some r) :
    Calls Try.prog 10 #[.slice A0 l0.length c0, .slice A1 l1.length c1, .int .i64 a2] w fun e w' => e = .returned (.bool r) ∧ Below w.heap.size w w' := by
  have hu26 := Try.underlying26
  have HR0 := Aside0.mk hr0
  have HC0 := Aside0.mk hc0
  clear hr0 hc0
  have HR1 := Aside0.mk hr1
  have HC1 := Aside0.mk hc1
  clear hr1 hc1
  have HB := Aside0.mk (Below.refl w.heap.size w)
  have H : ((heraldlaw24_awake.f k).bind fun t333 => (if t333 = true then ((heraldref24_Sum.f k l0).bind fun t334 => (if t334 = 0 then (heraldlaw24_CoupleSame.j0 k l0 l1 a2 t334 true) else (if a2 < 0 then (heraldlaw24_CoupleSame.j0 k l0 l1 a2 t334 true) else (heraldlaw24_CoupleSame.j0 k l0 l1 a2 t334 (decide (a2 ≥ t334)))))) else (some false))) = some r := h
  clear h
  replace H := Option.bind_eq_some_iff.mp H
  obtain ⟨t333, A40, H⟩ := H
  replace H : (if t333 = true then ((heraldref24_Sum.f k l0).bind fun t334 => (if t334 = 0 then (heraldlaw24_CoupleSame.j0 k l0 l1 a2 t334 true) else (if a2 < 0 then (heraldlaw24_CoupleSame.j0 k l0 l1 a2 t334 true) else (heraldlaw24_CoupleSame.j0 k l0 l1 a2 t334 (decide (a2 ≥ t334)))))) else (some false)) = some r := H
  have A4 := Aside0.mk A40
  clear A40
  by_cases c5 : t333 = true
  · subst c5
    have H1 : ((heraldref24_Sum.f k l0).bind fun t334 => (if t334 = 0 then (heraldlaw24_CoupleSame.j0 k l0 l1 a2 t334 true) else (if a2 < 0 then (heraldlaw24_CoupleSame.j0 k l0 l1 a2 t334 true) else (heraldlaw24_CoupleSame.j0 k l0 l1 a2 t334 (decide (a2 ≥ t334)))))) = some r := by rw [if_pos rfl] at H; exact H
    clear H
    have H := H1
    clear H1
    replace H := Option.bind_eq_some_iff.mp H
    obtain ⟨t334, A60, H⟩ := H
    replace H : (if t334 = 0 then (heraldlaw24_CoupleSame.j0 k l0 l1 a2 t334 true) else (if a2 < 0 then (heraldlaw24_CoupleSame.j0 k l0 l1 a2 t334 true) else (heraldlaw24_CoupleSame.j0 k l0 l1 a2 t334 (decide (a2 ≥ t334))))) = some r := H
    have A6 := Aside0.mk A60
    clear A60
    have HC7 := Aside0.mk H
    clear H
    go_enter Try.func10, Try.ntmps10
    go_upto_region 4 with (first | ((with_reducible refine gate_callee (f := 14) rfl ?_); refine goesL_ (some 18) rfl rfl Try.func14 (by kernel_rfl) rfl #[] rfl (by (try simp only [List.map_toArray, List.map_cons, List.map_nil]); first | done | rfl | (simp only [List.length_drop, List.length_take]; rfl)) ?_; (with_reducible refine (heraldlaw24_awake.calls k  true _ A4.out).mono ?_); rintro e w8 ⟨rfl, hb⟩; refine ⟨_, rfl, ?_⟩; have n0_ := Aside0.mk (below_step (by repeat (first | (with_reducible first | exact HB.out | apply below_alloc | apply pw_below_drewN | apply below_drew1) | exact HB.out)) hb); clear HB; have HB := n0_; clear n0_; (try clear hb); (try clear hb2); (try clear hk); (try clear hi)) | ((with_reducible refine gate_callee (f := 15) rfl ?_); refine goesL_ (some 21) rfl rfl Try.func15 (by kernel_rfl) rfl #[.slice A0 l0.length c0] rfl (by (try simp only [List.map_toArray, List.map_cons, List.map_nil]); first | done | rfl | (simp only [List.length_drop, List.length_take]; rfl)) ?_; (with_reducible refine (heraldref24_Sum.calls k _ _ l0 t334 _ ?side1 ?side2 A6.out).mono ?_); (case side1 => repeat (first | exact (Kd.C_below HR0.out HB.out) | (with_reducible refine Kd.C_alloc ?_ _) | (with_reducible refine Kd.C_drewN ?_ _) | (with_reducible refine Kd.C_drew ?_))); (case side2 => exact HC0.out); rintro e w' ⟨rfl, ⟨nd, rfl⟩⟩; refine ⟨_, rfl, ?_⟩))
    (try simp only [Act.put, List.setIfInBounds_toArray, List.set_cons_zero, List.set_cons_succ])
    go_cut [32] (fun v32 wc => ∃ (kq : Nat) (x32_6 : Bool), v32 = .bool x32_6 ∧ Aside0 (heraldlaw24_CoupleSame.j0 kq l0 l1 a2 t334 x32_6 = some r) ∧ Aside0 (kq ≤ k) ∧ Aside0 (Below w.heap.size w wc))
    case first => as_aux_lemma =>
      have H := HC7.out
      clear HC7
      by_cases c9 : t334 = 0
      · rw [if_pos c9] at H
        have c9b0 : (t334 == 0) = true := beq_iff_eq.mpr c9
        have c9b1 : (t334 != 0) = false := bne_eq_false_iff_eq.mpr c9
        clear c9
        (first | rw [c9b0] | (simp only [i64_w, i32_w]; rw [c9b0]) | skip)
        have H' := Aside0.mk H
        clear H
        go_wp2
        go_meet
        case rel => exact ⟨_, (true), (by first | rfl | (simp; done) | (simp [*]; done) | (simp [i64_w]; done) | (simp [*, i64_w]; done)), H', ⟨by first | omega | exact Nat.le_refl _⟩, ⟨by repeat (first | (with_reducible first | exact HB.out | apply below_alloc | apply pw_below_drewN | apply below_drew1) | exact HB.out)⟩⟩
      · rw [if_neg c9] at H
        have c9b0 : (t334 == 0) = false := beq_eq_false_iff_ne.mpr c9
        have c9b1 : (t334 != 0) = true := bne_iff_ne.mpr c9
        (first | rw [c9b0] | (simp only [i64_w, i32_w]; rw [c9b0]) | skip)
        by_cases c10 : a2 < 0
        · rw [if_pos c10] at H
          have c10b0 : decide (a2 < 0) = true := decide_eq_true c10
          clear c10
          have H' := Aside0.mk H
          clear H
          go_wp2
          go_meet
          case rel => exact ⟨_, (true), (by first | rfl | (simp; done) | (simp [*]; done) | (simp [i64_w]; done) | (simp [*, i64_w]; done)), H', ⟨by first | omega | exact Nat.le_refl _⟩, ⟨by repeat (first | (with_reducible first | exact HB.out | apply below_alloc | apply pw_below_drewN | apply below_drew1) | exact HB.out)⟩⟩
        · rw [if_neg c10] at H
          have c10b0 : decide (a2 < 0) = false := decide_eq_false c10
          clear c10
          have H' := Aside0.mk H
          clear H
          go_wp2
          go_meet
          case rel => exact ⟨_, (decide (a2 ≥ t334)), (by first | rfl | (simp; done) | (simp [*]; done) | (simp [i64_w]; done) | (simp [*, i64_w]; done)), H', ⟨by first | omega | exact Nat.le_refl _⟩, ⟨by repeat (first | (with_reducible first | exact HB.out | apply below_alloc | apply pw_below_drewN | apply below_drew1) | exact HB.out)⟩⟩
    case rest => as_aux_lemma =>
      clear HC7
      try clear c1
      try clear p2
      try clear c5
      try clear c9
      try clear c9b0
      try clear c9b1
      try clear c10
      try clear c10b0
      obtain ⟨kq, x32_6, rfl, HA, HJ6, HB⟩ := hcut
      cases kq with
      | zero => exact absurd HA.out (by simp [heraldlaw24_CoupleSame.j0])
      | succ kj6 =>
        have H := HA.out
        clear HA
        simp only [heraldlaw24_CoupleSame.j0] at H
        by_cases c11 : x32_6 = true
        · subst c11
          have H1 : (some true) = some r := by rw [if_pos rfl] at H; exact H
          clear H
          have H := H1
          clear H1
          obtain rfl := Option.some.inj H
          go_wp2
          go_ret
          exact ⟨by first | rfl | (simp [errW_none, errW_some] <;> rfl) | (simp [*, errW_none, errW_some] <;> rfl), by repeat (first | (with_reducible first | exact HB.out | apply below_alloc | apply pw_below_drewN | apply below_drew1) | exact HB.out)⟩
        · replace c11 := Bool.eq_false_iff.mpr c11
          subst c11
          have H1 : ((couple_Guess.f kj6 l0 l0 a2).bind fun bt335 => ((couple_Draw.f kj6 l0 a2).bind fun bt340 => (if bt335.2.2.2 = 0 then (if bt340.2 = 0 then (heraldlaw24_CoupleSame.j1 kj6 l0 l1 a2 t334 (!(bt335.1 == bt340.1) || (!(bt335.2.1 == bt340.1) || (!bt335.2.2.1)))) else (heraldlaw24_CoupleSame.j1 kj6 l0 l1 a2 t334 true)) else (heraldlaw24_CoupleSame.j1 kj6 l0 l1 a2 t334 true)))) = some r := by rw [if_neg (show ¬ (false = true) by decide)] at H; exact H
          clear H
          have H := H1
          clear H1
          replace H := Option.bind_eq_some_iff.mp H
          obtain ⟨⟨t335, t336, t337, t338⟩, A120, H⟩ := H
          replace H : ((couple_Draw.f kj6 l0 a2).bind fun bt340 => (if t338 = 0 then (if bt340.2 = 0 then (heraldlaw24_CoupleSame.j1 kj6 l0 l1 a2 t334 (!(t335 == bt340.1) || (!(t336 == bt340.1) || (!t337)))) else (heraldlaw24_CoupleSame.j1 kj6 l0 l1 a2 t334 true)) else (heraldlaw24_CoupleSame.j1 kj6 l0 l1 a2 t334 true))) = some r := H
          have A12 := Aside0.mk A120
          clear A120
          replace H := Option.bind_eq_some_iff.mp H
          obtain ⟨⟨t340, t341⟩, A130, H⟩ := H
          replace H : (if t338 = 0 then (if t341 = 0 then (heraldlaw24_CoupleSame.j1 kj6 l0 l1 a2 t334 (!(t335 == t340) || (!(t336 == t340) || (!t337)))) else (heraldlaw24_CoupleSame.j1 kj6 l0 l1 a2 t334 true)) else (heraldlaw24_CoupleSame.j1 kj6 l0 l1 a2 t334 true)) = some r := H
          have A13 := Aside0.mk A130
          clear A130
          have HC14 := Aside0.mk H
          clear H
          go_upto_region 8 with (first | ((with_reducible refine gate_callee (f := 16) rfl ?_); refine goesL_ (some 37) rfl rfl Try.func16 (by kernel_rfl) rfl #[.slice A0 l0.length c0, .slice A0 l0.length c0, .int .i64 a2] rfl (by (try simp only [List.map_toArray, List.map_cons, List.map_nil]); first | done | rfl | (simp only [List.length_drop, List.length_take]; rfl)) ?_; (with_reducible refine (couple_Guess.calls kj6 _ _ l0 _ _ l0 a2 t335 t336 t337 t338 _ ?side1 ?side2 ?side3 ?side4 A12.out).mono ?_); (case side1 => repeat (first | exact (Kd.C_below HR0.out HB.out) | (with_reducible refine Kd.C_alloc ?_ _) | (with_reducible refine Kd.C_drewN ?_ _) | (with_reducible refine Kd.C_drew ?_))); (case side2 => exact HC0.out); (case side3 => repeat (first | exact (Kd.C_below HR0.out HB.out) | (with_reducible refine Kd.C_alloc ?_ _) | (with_reducible refine Kd.C_drewN ?_ _) | (with_reducible refine Kd.C_drew ?_))); (case side4 => exact HC0.out); rintro e w15 ⟨rfl, hb⟩; refine ⟨_, rfl, ?_⟩; have n0_ := Aside0.mk (below_step (by repeat (first | (with_reducible first | exact HB.out | apply below_alloc | apply pw_below_drewN | apply below_drew1) | exact HB.out)) hb); clear HB; have HB := n0_; clear n0_; (try clear hb); (try clear hb2); (try clear hk); (try clear hi)) | ((with_reducible refine gate_dst (N := 8) rfl ?_); (try (refine gate_guard (by rfl) ?_; dsimp only)); refine box_event ?hg (N := 8) ?hd (cs := #[.int .i64 0, .int .i64 0, .bool false]) (t := 26) ?hr ?_; (case hd => rfl); (case hg => rfl); (case hr => first | (go_simp; done) | (go_simp; rfl)); intro gb339 hg w16 hbox hb; have n0_ := Aside0.mk (below_step (by repeat (first | (with_reducible first | exact HB.out | apply below_alloc | apply pw_below_drewN | apply below_drew1) | exact HB.out)) hb); have n1_ := Aside0.mk (hbox); have n2_ := Aside0.mk ((by rw [hg]; exact (below_size (by repeat (first | (with_reducible first | exact HB.out | apply below_alloc | apply pw_below_drewN | apply below_drew1) | exact HB.out))) : w.heap.size ≤ gb339)); have n3_ := Aside0.mk ((by rw [hg]; exact (below_size (by repeat (first | (with_reducible first | exact HB.out | apply below_alloc | apply pw_below_drewN | apply below_drew1) | exact HB.out))) : w.heap.size ≤ gb339)); clear HB; have HB := n0_; have BK339 := n1_; have GW339 := n2_; have GE339 := n3_; clear n0_ n1_ n2_ n3_; clear hb hbox hg; have hcz17_0 : w16.cell? ⟨gb339, 0, none⟩ = some (.int .i64 0) := (blk_cell BK339.out 0).trans rfl; have hcz17_1 : w16.cell? ⟨gb339, 1, none⟩ = some (.int .i64 0) := (blk_cell BK339.out 1).trans rfl; have hcz17_2 : w16.cell? ⟨gb339, 2, none⟩ = some (.bool false) := (blk_cell BK339.out 2).trans rfl; have hfz17_0 := blk_frozen BK339.out 0; have hfz17_1 := blk_frozen BK339.out 1; have hfz17_2 := blk_frozen BK339.out 2) | ((with_reducible refine gate_callee (f := 27) rfl ?_); refine goesL_ (some 43) rfl rfl Try.func27 (by kernel_rfl) rfl #[.slice A0 l0.length c0, .int .i64 a2] rfl (by (try simp only [List.map_toArray, List.map_cons, List.map_nil]); first | done | rfl | (simp only [List.length_drop, List.length_take]; rfl)) ?_; (with_reducible refine (couple_Draw.calls kj6 _ _ l0 a2 t340 t341 _ ?side1 ?side2 A13.out).mono ?_); (case side1 => exact Kd.C_below HR0.out (by repeat (first | (with_reducible first | exact HB.out | apply below_alloc | apply pw_below_drewN | apply below_drew1 | refine below_set ?_ GE339.out) | exact HB.out))); (case side2 => exact HC0.out); rintro e w18 ⟨rfl, hb⟩; refine ⟨_, rfl, ?_⟩; have n0_ := Aside0.mk (blk_below (g := gb339) (o := .cells #[.int .i64 t335, .int .i64 t336, .bool t337] 26 (0, 0)) (by (with_reducible repeat (first | refine blk_drewN ?_ _ | refine blk_drew ?_ | refine blk_alloc ?_ _)); refine blk_put (cs := #[.int .i64 t335, .int .i64 t336, .bool false]) ?_ 2 _ rfl; (with_reducible repeat (first | refine blk_drewN ?_ _ | refine blk_drew ?_ | refine blk_alloc ?_ _)); refine blk_put (cs := #[.int .i64 t335, .int .i64 0, .bool false]) ?_ 1 _ rfl; (with_reducible repeat (first | refine blk_drewN ?_ _ | refine blk_drew ?_ | refine blk_alloc ?_ _)); refine blk_put (cs := #[.int .i64 0, .int .i64 0, .bool false]) ?_ 0 _ rfl; (with_reducible repeat (first | refine blk_drewN ?_ _ | refine blk_drew ?_ | refine blk_alloc ?_ _)); exact BK339.out) hb); have n1_ := Aside0.mk (below_step (by repeat (first | (with_reducible first | exact HB.out | apply below_alloc | apply pw_below_drewN | apply below_drew1 | refine below_set ?_ GE339.out) | exact HB.out)) hb); clear BK339; clear HB; have BK339 := n0_; have HB := n1_; clear n0_ n1_; (try clear hb); (try clear hb2); (try clear hk); (try clear hi)))
          (try simp only [Act.put, List.setIfInBounds_toArray, List.set_cons_zero, List.set_cons_succ])
          go_cut [58] (fun v58 wc => ∃ (kq : Nat) (x58_13 : Bool), v58 = .bool x58_13 ∧ Aside0 (heraldlaw24_CoupleSame.j1 kq l0 l1 a2 t334 x58_13 = some r) ∧ Aside0 (kq ≤ kj6) ∧ Aside0 (wc.heap[gb339]? = some (.cells #[.int .i64 t335, .int .i64 t336, .bool t337] 26 (0, 0))) ∧ Aside0 (Below w.heap.size w wc))
          case first => as_aux_lemma =>
            have H := HC14.out
            clear HC14
            by_cases c19 : t338 = 0
            · rw [if_pos c19] at H
              have c19b0 : (t338 == 0) = true := beq_iff_eq.mpr c19
              have c19b1 : (t338 != 0) = false := bne_eq_false_iff_eq.mpr c19
              clear c19
              (first | rw [c19b0] | (simp only [i64_w, i32_w]; rw [c19b0]) | skip)
              by_cases c20 : t341 = 0
              · rw [if_pos c20] at H
                have c20b0 : (t341 == 0) = true := beq_iff_eq.mpr c20
                have c20b1 : (t341 != 0) = false := bne_eq_false_iff_eq.mpr c20
                clear c20
                have H' := Aside0.mk H
                clear H
                have hcz21_0 : w18.cell? ⟨gb339, 0, none⟩ = some (.int .i64 t335) := (blk_cell BK339.out 0).trans rfl
                have hcz21_1 : w18.cell? ⟨gb339, 1, none⟩ = some (.int .i64 t336) := (blk_cell BK339.out 1).trans rfl
                have hcz21_2 : w18.cell? ⟨gb339, 2, none⟩ = some (.bool t337) := (blk_cell BK339.out 2).trans rfl
                have hfz21_0 := blk_frozen BK339.out 0
                have hfz21_1 := blk_frozen BK339.out 1
                have hfz21_2 := blk_frozen BK339.out 2
                go_wp2
                go_meet
                case rel => exact ⟨_, ((!(t335 == t340) || (!(t336 == t340) || (!t337)))), (by first | rfl | (simp; done) | (simp [*]; done) | (simp [i64_w]; done) | (simp [*, i64_w]; done)), H', ⟨by have := HJ6.out; first | omega | exact Nat.le_refl _⟩, ⟨by (with_reducible repeat (first | refine blk_drewN ?_ _ | refine blk_drew ?_ | refine blk_alloc ?_ _)); exact BK339.out⟩, ⟨by repeat (first | (with_reducible first | exact HB.out | apply below_alloc | apply pw_below_drewN | apply below_drew1 | refine below_set ?_ GE339.out) | exact HB.out)⟩⟩
              · rw [if_neg c20] at H
                have c20b0 : (t341 == 0) = false := beq_eq_false_iff_ne.mpr c20
                have c20b1 : (t341 != 0) = true := bne_iff_ne.mpr c20
                have H' := Aside0.mk H
                clear H
                go_wp2
                go_meet
                case rel => exact ⟨_, (true), (by first | rfl | (simp; done) | (simp [*]; done) | (simp [i64_w]; done) | (simp [*, i64_w]; done)), H', ⟨by have := HJ6.out; first | omega | exact Nat.le_refl _⟩, ⟨by (with_reducible repeat (first | refine blk_drewN ?_ _ | refine blk_drew ?_ | refine blk_alloc ?_ _)); exact BK339.out⟩, ⟨by repeat (first | (with_reducible first | exact HB.out | apply below_alloc | apply pw_below_drewN | apply below_drew1 | refine below_set ?_ GE339.out) | exact HB.out)⟩⟩
            · rw [if_neg c19] at H
              have c19b0 : (t338 == 0) = false := beq_eq_false_iff_ne.mpr c19
              have c19b1 : (t338 != 0) = true := bne_iff_ne.mpr c19
              (first | rw [c19b0] | (simp only [i64_w, i32_w]; rw [c19b0]) | skip)
              have H' := Aside0.mk H
              clear H
              go_wp2
              go_meet
              case rel => exact ⟨_, (true), (by first | rfl | (simp; done) | (simp [*]; done) | (simp [i64_w]; done) | (simp [*, i64_w]; done)), H', ⟨by have := HJ6.out; first | omega | exact Nat.le_refl _⟩, ⟨by (with_reducible repeat (first | refine blk_drewN ?_ _ | refine blk_drew ?_ | refine blk_alloc ?_ _)); exact BK339.out⟩, ⟨by repeat (first | (with_reducible first | exact HB.out | apply below_alloc | apply pw_below_drewN | apply below_drew1 | refine below_set ?_ GE339.out) | exact HB.out)⟩⟩
          case rest => as_aux_lemma =>
            clear HC14
            try clear c1
            try clear c2
            try clear p2
            try clear c5
            try clear c9
            try clear c9b0
            try clear c9b1
            try clear c10
            try clear c10b0
            try clear c11
            try clear c14
            try clear c15
            try clear c16
            try clear c19
            try clear c19b0
            try clear c19b1
            try clear c20
            try clear c20b0
            try clear c20b1
            try clear hcz17_0
            try clear hcz17_1
            try clear hcz17_2
            try clear hcz21_0
            try clear hcz21_1
            try clear hcz21_2
            try clear hfz17_0
            try clear hfz17_1
            try clear hfz17_2
            try clear hfz21_0
            try clear hfz21_1
            try clear hfz21_2
            try clear p2
            obtain ⟨kq, x58_13, rfl, HA, HJ13, BK339, HB⟩ := hcut
            cases kq with
            | zero => exact absurd HA.out (by simp [heraldlaw24_CoupleSame.j1])
            | succ kj13 =>
              have H := HA.out
              clear HA
              simp only [heraldlaw24_CoupleSame.j1] at H
              by_cases c22 : x58_13 = true
              · subst c22
                have H1 : (some false) = some r := by rw [if_pos rfl] at H; exact H
                clear H
                have H := H1
                clear H1
                obtain rfl := Option.some.inj H
                go_wp2
                go_ret
                exact ⟨by first | rfl | (simp [errW_none, errW_some] <;> rfl) | (simp [*, errW_none, errW_some] <;> rfl), by repeat (first | (with_reducible first | exact HB.out | apply below_alloc | apply pw_below_drewN | apply below_drew1 | refine below_set ?_ GE339.out) | exact HB.out)⟩
              · replace c22 := Bool.eq_false_iff.mpr c22
                subst c22
                have H1 : ((heraldref24_Sum.f kj13 l1).bind fun t342 => (if t342 = t334 then (heraldlaw24_CoupleSame.j2 kj13 l0 l1 a2 t334 ((l1.length : Int) != (l0.length : Int))) else (heraldlaw24_CoupleSame.j2 kj13 l0 l1 a2 t334 true))) = some r := by rw [if_neg (show ¬ (false = true) by decide)] at H; exact H
                clear H
                have H := H1
                clear H1
                have HC23 := Aside0.mk H
                clear H
                go_upto_region 10 with (fail)
                go_cut [69] (fun v69 wc => ∃ (kq : Nat) (x69_22 : Bool), v69 = .bool x69_22 ∧ Aside0 (heraldlaw24_CoupleSame.j2 kq l0 l1 a2 t334 x69_22 = some r) ∧ Aside0 (kq ≤ kj13) ∧ Aside0 (wc.heap[gb339]? = some (.cells #[.int .i64 t335, .int .i64 t336, .bool t337] 26 (0, 0))) ∧ Aside0 (Below w.heap.size w wc))
                case first => as_aux_lemma =>
                  have H := HC23.out
                  clear HC23
                  replace H := Option.bind_eq_some_iff.mp H
                  obtain ⟨t342, A240, H⟩ := H
                  replace H : (if t342 = t334 then (heraldlaw24_CoupleSame.j2 kj13 l0 l1 a2 t334 ((l1.length : Int) != (l0.length : Int))) else (heraldlaw24_CoupleSame.j2 kj13 l0 l1 a2 t334 true)) = some r := H
                  have A24 := Aside0.mk A240
                  clear A240
                  by_cases c25 : t342 = t334
                  · rw [if_pos c25] at H
                    have c25b0 : (t342 == t334) = true := beq_iff_eq.mpr c25
                    have c25b1 : (t342 != t334) = false := bne_eq_false_iff_eq.mpr c25
                    clear c25
                    (first | rw [c25b0] | (simp only [i64_w, i32_w]; rw [c25b0]) | skip)
                    have H' := Aside0.mk H
                    clear H
                    go_wp2_with (first | ((with_reducible refine gate_callee (f := 15) rfl ?_); refine goesL_ (some 60) rfl rfl Try.func15 (by kernel_rfl) rfl #[.slice A1 l1.length c1] rfl (by (try simp only [List.map_toArray, List.map_cons, List.map_nil]); first | done | rfl | (simp only [List.length_drop, List.length_take]; rfl)) ?_; (with_reducible refine (heraldref24_Sum.calls kj13 _ _ l1 t342 _ ?side1 ?side2 A24.out).mono ?_); (case side1 => repeat (first | exact (Kd.C_below HR1.out HB.out) | (with_reducible refine Kd.C_alloc ?_ _) | (with_reducible refine Kd.C_drewN ?_ _) | (with_reducible refine Kd.C_drew ?_))); (case side2 => exact HC1.out); rintro e w' ⟨rfl, ⟨nd, rfl⟩⟩; refine ⟨_, rfl, ?_⟩))
                    go_meet
                    case rel => exact ⟨_, (((l1.length : Int) != (l0.length : Int))), (by first | rfl | (simp; done) | (simp [*]; done) | (simp [i64_w]; done) | (simp [*, i64_w]; done)), H', ⟨by have := HJ6.out; have := HJ13.out; first | omega | exact Nat.le_refl _⟩, ⟨by (with_reducible repeat (first | refine blk_drewN ?_ _ | refine blk_drew ?_ | refine blk_alloc ?_ _)); exact BK339.out⟩, ⟨by repeat (first | (with_reducible first | exact HB.out | apply below_alloc | apply pw_below_drewN | apply below_drew1 | refine below_set ?_ GE339.out) | exact HB.out)⟩⟩
                  · rw [if_neg c25] at H
                    have c25b0 : (t342 == t334) = false := beq_eq_false_iff_ne.mpr c25
                    have c25b1 : (t342 != t334) = true := bne_iff_ne.mpr c25
                    (first | rw [c25b0] | (simp only [i64_w, i32_w]; rw [c25b0]) | skip)
                    have H' := Aside0.mk H
                    clear H
                    go_wp2_with (first | ((with_reducible refine gate_callee (f := 15) rfl ?_); refine goesL_ (some 60) rfl rfl Try.func15 (by kernel_rfl) rfl #[.slice A1 l1.length c1] rfl (by (try simp only [List.map_toArray, List.map_cons, List.map_nil]); first | done | rfl | (simp only [List.length_drop, List.length_take]; rfl)) ?_; (with_reducible refine (heraldref24_Sum.calls kj13 _ _ l1 t342 _ ?side1 ?side2 A24.out).mono ?_); (case side1 => repeat (first | exact (Kd.C_below HR1.out HB.out) | (with_reducible refine Kd.C_alloc ?_ _) | (with_reducible refine Kd.C_drewN ?_ _) | (with_reducible refine Kd.C_drew ?_))); (case side2 => exact HC1.out); rintro e w' ⟨rfl, ⟨nd, rfl⟩⟩; refine ⟨_, rfl, ?_⟩))
                    go_meet
                    case rel => exact ⟨_, (true), (by first | rfl | (simp; done) | (simp [*]; done) | (simp [i64_w]; done) | (simp [*, i64_w]; done)), H', ⟨by have := HJ6.out; have := HJ13.out; first | omega | exact Nat.le_refl _⟩, ⟨by (with_reducible repeat (first | refine blk_drewN ?_ _ | refine blk_drew ?_ | refine blk_alloc ?_ _)); exact BK339.out⟩, ⟨by repeat (first | (with_reducible first | exact HB.out | apply below_alloc | apply pw_below_drewN | apply below_drew1 | refine below_set ?_ GE339.out) | exact HB.out)⟩⟩
                case rest => as_aux_lemma =>
                  clear HC23
                  try clear c1
                  try clear c2
                  try clear p2
                  try clear c5
                  try clear c9
                  try clear c9b0
                  try clear c9b1
                  try clear c10
                  try clear c10b0
                  try clear c11
                  try clear c14
                  try clear c15
                  try clear c16
                  try clear c19
                  try clear c19b0
                  try clear c19b1
                  try clear c20
                  try clear c20b0
                  try clear c20b1
                  try clear c22
                  try clear c25
                  try clear c25b0
                  try clear c25b1
                  try clear hcz17_0
                  try clear hcz17_1
                  try clear hcz17_2
                  try clear hcz21_0
                  try clear hcz21_1
                  try clear hcz21_2
                  try clear hfz17_0
                  try clear hfz17_1
                  try clear hfz17_2
                  try clear hfz21_0
                  try clear hfz21_1
                  try clear hfz21_2
                  try clear p2
                  obtain ⟨kq, x69_22, rfl, HA, HJ22, BK339, HB⟩ := hcut
                  cases kq with
                  | zero => exact absurd HA.out (by simp [heraldlaw24_CoupleSame.j2])
                  | succ kj22 =>
                    have H := HA.out
                    clear HA
                    simp only [heraldlaw24_CoupleSame.j2] at H
                    by_cases c26 : x69_22 = true
                    · subst c26
                      have H1 : (some true) = some r := by rw [if_pos rfl] at H; exact H
                      clear H
                      have H := H1
                      clear H1
                      obtain rfl := Option.some.inj H
                      go_wp2
                      go_ret
                      exact ⟨by first | rfl | (simp [errW_none, errW_some] <;> rfl) | (simp [*, errW_none, errW_some] <;> rfl), by repeat (first | (with_reducible first | exact HB.out | apply below_alloc | apply pw_below_drewN | apply below_drew1 | refine below_set ?_ GE339.out) | exact HB.out)⟩
                    · replace c26 := Bool.eq_false_iff.mpr c26
                      subst c26
                      have H1 : ((couple_Guess.f kj22 l0 l1 a2).bind fun bt343 => (if bt343.2.2.2 = 0 then (if bt343.2.1 < 0 then (heraldlaw24_CoupleSame.j3 kj22 l0 l1 t334 true) else (if bt343.2.1 ≥ (l0.length : Int) then (heraldlaw24_CoupleSame.j3 kj22 l0 l1 t334 true) else (if bt343.1 < 0 then (heraldlaw24_CoupleSame.j3 kj22 l0 l1 t334 true) else (if bt343.1 ≥ (l0.length : Int) then (heraldlaw24_CoupleSame.j3 kj22 l0 l1 t334 true) else (if 0 ≤ bt343.2.1 then (if bt343.2.1 < (l0.length : Int) then (if (rd l0 bt343.2.1) = 0 then (heraldlaw24_CoupleSame.j3 kj22 l0 l1 t334 true) else (if 0 ≤ bt343.1 then (if bt343.1 < (l1.length : Int) then (heraldlaw24_CoupleSame.j3 kj22 l0 l1 t334 ((rd l1 bt343.1) == 0)) else (none)) else (none))) else (none)) else (none)))))) else (heraldlaw24_CoupleSame.j3 kj22 l0 l1 t334 true))) = some r := by rw [if_neg (show ¬ (false = true) by decide)] at H; exact H
                      clear H
                      have H := H1
                      clear H1
                      replace H := Option.bind_eq_some_iff.mp H
                      obtain ⟨⟨t343, t344, t345, t346⟩, A270, H⟩ := H
                      replace H : (if t346 = 0 then (if t344 < 0 then (heraldlaw24_CoupleSame.j3 kj22 l0 l1 t334 true) else (if t344 ≥ (l0.length : Int) then (heraldlaw24_CoupleSame.j3 kj22 l0 l1 t334 true) else (if t343 < 0 then (heraldlaw24_CoupleSame.j3 kj22 l0 l1 t334 true) else (if t343 ≥ (l0.length : Int) then (heraldlaw24_CoupleSame.j3 kj22 l0 l1 t334 true) else (if 0 ≤ t344 then (if t344 < (l0.length : Int) then (if (rd l0 t344) = 0 then (heraldlaw24_CoupleSame.j3 kj22 l0 l1 t334 true) else (if 0 ≤ t343 then (if t343 < (l1.length : Int) then (heraldlaw24_CoupleSame.j3 kj22 l0 l1 t334 ((rd l1 t343) == 0)) else (none)) else (none))) else (none)) else (none)))))) else (heraldlaw24_CoupleSame.j3 kj22 l0 l1 t334 true)) = some r := H
                      have A27 := Aside0.mk A270
                      clear A270
                      have HC28 := Aside0.mk H
                      clear H
                      go_upto_region 13 with (first | ((with_reducible refine gate_callee (f := 16) rfl ?_); refine goesL_ (some 74) rfl rfl Try.func16 (by kernel_rfl) rfl #[.slice A0 l0.length c0, .slice A1 l1.length c1, .int .i64 a2] rfl (by (try simp only [List.map_toArray, List.map_cons, List.map_nil]); first | done | rfl | (simp only [List.length_drop, List.length_take]; rfl)) ?_; (with_reducible refine (couple_Guess.calls kj22 _ _ l0 _ _ l1 a2 t343 t344 t345 t346 _ ?side1 ?side2 ?side3 ?side4 A27.out).mono ?_); (case side1 => repeat (first | exact (Kd.C_below HR0.out HB.out) | (with_reducible refine Kd.C_alloc ?_ _) | (with_reducible refine Kd.C_drewN ?_ _) | (with_reducible refine Kd.C_drew ?_))); (case side2 => exact HC0.out); (case side3 => repeat (first | exact (Kd.C_below HR1.out HB.out) | (with_reducible refine Kd.C_alloc ?_ _) | (with_reducible refine Kd.C_drewN ?_ _) | (with_reducible refine Kd.C_drew ?_))); (case side4 => exact HC1.out); rintro e w29 ⟨rfl, hb⟩; refine ⟨_, rfl, ?_⟩; have n0_ := Aside0.mk (blk_below (g := gb339) (o := .cells #[.int .i64 t335, .int .i64 t336, .bool t337] 26 (0, 0)) (by (with_reducible repeat (first | refine blk_drewN ?_ _ | refine blk_drew ?_ | refine blk_alloc ?_ _)); exact BK339.out) hb); have n1_ := Aside0.mk (below_step (by repeat (first | (with_reducible first | exact HB.out | apply below_alloc | apply pw_below_drewN | apply below_drew1 | refine below_set ?_ GE339.out) | exact HB.out)) hb); clear BK339; clear HB; have BK339 := n0_; have HB := n1_; clear n0_ n1_; (try clear hb); (try clear hb2); (try clear hk); (try clear hi); have hcz30_0 : w29.cell? ⟨gb339, 0, none⟩ = some (.int .i64 t335) := (blk_cell BK339.out 0).trans rfl; have hcz30_1 : w29.cell? ⟨gb339, 1, none⟩ = some (.int .i64 t336) := (blk_cell BK339.out 1).trans rfl; have hcz30_2 : w29.cell? ⟨gb339, 2, none⟩ = some (.bool t337) := (blk_cell BK339.out 2).trans rfl; have hfz30_0 := blk_frozen BK339.out 0; have hfz30_1 := blk_frozen BK339.out 1; have hfz30_2 := blk_frozen BK339.out 2))
                      (try simp only [Act.put, List.setIfInBounds_toArray, List.set_cons_zero, List.set_cons_succ])
                      go_cut [118] (fun v118 wc => ∃ (kq : Nat) (x118_27 : Bool), v118 = .bool x118_27 ∧ Aside0 (heraldlaw24_CoupleSame.j3 kq l0 l1 t334 x118_27 = some r) ∧ Aside0 (kq ≤ kj22) ∧ Aside0 (wc.heap[gb339]? = some (.cells #[.int .i64 t343, .int .i64 t344, .bool t345] 26 (0, 0))) ∧ Aside0 (Below w.heap.size w wc))
                      case first => as_aux_lemma =>
                        have H := HC28.out
                        clear HC28
                        by_cases c31 : t346 = 0
                        · rw [if_pos c31] at H
                          have c31b0 : (t346 == 0) = true := beq_iff_eq.mpr c31
                          have c31b1 : (t346 != 0) = false := bne_eq_false_iff_eq.mpr c31
                          clear c31
                          (first | rw [c31b0] | (simp only [i64_w, i32_w]; rw [c31b0]) | skip)
                          by_cases c32 : t344 < 0
                          · rw [if_pos c32] at H
                            have c32b0 : decide (t344 < 0) = true := decide_eq_true c32
                            clear c32
                            have H' := Aside0.mk H
                            clear H
                            have hcz33_0 : w29.cell? ⟨gb339, 0, none⟩ = some (.int .i64 t335) := (blk_cell BK339.out 0).trans rfl
                            have hcz33_1 : w29.cell? ⟨gb339, 1, none⟩ = some (.int .i64 t336) := (blk_cell BK339.out 1).trans rfl
                            have hcz33_2 : w29.cell? ⟨gb339, 2, none⟩ = some (.bool t337) := (blk_cell BK339.out 2).trans rfl
                            have hfz33_0 := blk_frozen BK339.out 0
                            have hfz33_1 := blk_frozen BK339.out 1
                            have hfz33_2 := blk_frozen BK339.out 2
                            go_wp2
                            go_meet
                            case rel => exact ⟨_, (true), (by first | rfl | (simp; done) | (simp [*]; done) | (simp [i64_w]; done) | (simp [*, i64_w]; done)), H', ⟨by have := HJ6.out; have := HJ13.out; have := HJ22.out; first | omega | exact Nat.le_refl _⟩, ⟨by (with_reducible repeat (first | refine blk_drewN ?_ _ | refine blk_drew ?_ | refine blk_alloc ?_ _)); refine blk_put (cs := #[.int .i64 t343, .int .i64 t344, .bool t337]) ?_ 2 _ rfl; (with_reducible repeat (first | refine blk_drewN ?_ _ | refine blk_drew ?_ | refine blk_alloc ?_ _)); refine blk_put (cs := #[.int .i64 t343, .int .i64 t336, .bool t337]) ?_ 1 _ rfl; (with_reducible repeat (first | refine blk_drewN ?_ _ | refine blk_drew ?_ | refine blk_alloc ?_ _)); refine blk_put (cs := #[.int .i64 t335, .int .i64 t336, .bool t337]) ?_ 0 _ rfl; (with_reducible repeat (first | refine blk_drewN ?_ _ | refine blk_drew ?_ | refine blk_alloc ?_ _)); exact BK339.out⟩, ⟨by repeat (first | (with_reducible first | exact HB.out | apply below_alloc | apply pw_below_drewN | apply below_drew1 | refine below_set ?_ GE339.out) | exact HB.out)⟩⟩
                          · rw [if_neg c32] at H
                            have c32b0 : decide (t344 < 0) = false := decide_eq_false c32
                            clear c32
                            by_cases c34 : t344 ≥ (l0.length : Int)
                            · rw [if_pos c34] at H
                              have c34b0 : decide ((l0.length : Int) ≤ t344) = true := decide_eq_true c34
                              clear c34
                              have H' := Aside0.mk H
                              clear H
                              have hcz35_0 : w29.cell? ⟨gb339, 0, none⟩ = some (.int .i64 t335) := (blk_cell BK339.out 0).trans rfl
                              have hcz35_1 : w29.cell? ⟨gb339, 1, none⟩ = some (.int .i64 t336) := (blk_cell BK339.out 1).trans rfl
                              have hcz35_2 : w29.cell? ⟨gb339, 2, none⟩ = some (.bool t337) := (blk_cell BK339.out 2).trans rfl
                              have hfz35_0 := blk_frozen BK339.out 0
                              have hfz35_1 := blk_frozen BK339.out 1
                              have hfz35_2 := blk_frozen BK339.out 2
                              go_wp2
                              go_meet
                              case rel => exact ⟨_, (true), (by first | rfl | (simp; done) | (simp [*]; done) | (simp [i64_w]; done) | (simp [*, i64_w]; done)), H', ⟨by have := HJ6.out; have := HJ13.out; have := HJ22.out; first | omega | exact Nat.le_refl _⟩, ⟨by (with_reducible repeat (first | refine blk_drewN ?_ _ | refine blk_drew ?_ | refine blk_alloc ?_ _)); refine blk_put (cs := #[.int .i64 t343, .int .i64 t344, .bool t337]) ?_ 2 _ rfl; (with_reducible repeat (first | refine blk_drewN ?_ _ | refine blk_drew ?_ | refine blk_alloc ?_ _)); refine blk_put (cs := #[.int .i64 t343, .int .i64 t336, .bool t337]) ?_ 1 _ rfl; (with_reducible repeat (first | refine blk_drewN ?_ _ | refine blk_drew ?_ | refine blk_alloc ?_ _)); refine blk_put (cs := #[.int .i64 t335, .int .i64 t336, .bool t337]) ?_ 0 _ rfl; (with_reducible repeat (first | refine blk_drewN ?_ _ | refine blk_drew ?_ | refine blk_alloc ?_ _)); exact BK339.out⟩, ⟨by repeat (first | (with_reducible first | exact HB.out | apply below_alloc | apply pw_below_drewN | apply below_drew1 | refine below_set ?_ GE339.out) | exact HB.out)⟩⟩
                            · rw [if_neg c34] at H
                              have c34b0 : decide ((l0.length : Int) ≤ t344) = false := decide_eq_false c34
                              clear c34
                              by_cases c36 : t343 < 0
                              · rw [if_pos c36] at H
                                have c36b0 : decide (t343 < 0) = true := decide_eq_true c36
                                clear c36
                                have H' := Aside0.mk H
                                clear H
                                have hcz37_0 : w29.cell? ⟨gb339, 0, none⟩ = some (.int .i64 t335) := (blk_cell BK339.out 0).trans rfl
                                have hcz37_1 : w29.cell? ⟨gb339, 1, none⟩ = some (.int .i64 t336) := (blk_cell BK339.out 1).trans rfl
                                have hcz37_2 : w29.cell? ⟨gb339, 2, none⟩ = some (.bool t337) := (blk_cell BK339.out 2).trans rfl
                                have hfz37_0 := blk_frozen BK339.out 0
                                have hfz37_1 := blk_frozen BK339.out 1
                                have hfz37_2 := blk_frozen BK339.out 2
                                go_wp2
                                go_meet
                                case rel => exact ⟨_, (true), (by first | rfl | (simp; done) | (simp [*]; done) | (simp [i64_w]; done) | (simp [*, i64_w]; done)), H', ⟨by have := HJ6.out; have := HJ13.out; have := HJ22.out; first | omega | exact Nat.le_refl _⟩, ⟨by (with_reducible repeat (first | refine blk_drewN ?_ _ | refine blk_drew ?_ | refine blk_alloc ?_ _)); refine blk_put (cs := #[.int .i64 t343, .int .i64 t344, .bool t337]) ?_ 2 _ rfl; (with_reducible repeat (first | refine blk_drewN ?_ _ | refine blk_drew ?_ | refine blk_alloc ?_ _)); refine blk_put (cs := #[.int .i64 t343, .int .i64 t336, .bool t337]) ?_ 1 _ rfl; (with_reducible repeat (first | refine blk_drewN ?_ _ | refine blk_drew ?_ | refine blk_alloc ?_ _)); refine blk_put (cs := #[.int .i64 t335, .int .i64 t336, .bool t337]) ?_ 0 _ rfl; (with_reducible repeat (first | refine blk_drewN ?_ _ | refine blk_drew ?_ | refine blk_alloc ?_ _)); exact BK339.out⟩, ⟨by repeat (first | (with_reducible first | exact HB.out | apply below_alloc | apply pw_below_drewN | apply below_drew1 | refine below_set ?_ GE339.out) | exact HB.out)⟩⟩
                              · rw [if_neg c36] at H
                                have c36b0 : decide (t343 < 0) = false := decide_eq_false c36
                                clear c36
                                by_cases c38 : t343 ≥ (l0.length : Int)
                                · rw [if_pos c38] at H
                                  have c38b0 : decide ((l0.length : Int) ≤ t343) = true := decide_eq_true c38
                                  clear c38
                                  have H' := Aside0.mk H
                                  clear H
                                  have hcz39_0 : w29.cell? ⟨gb339, 0, none⟩ = some (.int .i64 t335) := (blk_cell BK339.out 0).trans rfl
                                  have hcz39_1 : w29.cell? ⟨gb339, 1, none⟩ = some (.int .i64 t336) := (blk_cell BK339.out 1).trans rfl
                                  have hcz39_2 : w29.cell? ⟨gb339, 2, none⟩ = some (.bool t337) := (blk_cell BK339.out 2).trans rfl
                                  have hfz39_0 := blk_frozen BK339.out 0
                                  have hfz39_1 := blk_frozen BK339.out 1
                                  have hfz39_2 := blk_frozen BK339.out 2
                                  go_wp2
                                  go_meet
                                  case rel => exact ⟨_, (true), (by first | rfl | (simp; done) | (simp [*]; done) | (simp [i64_w]; done) | (simp [*, i64_w]; done)), H', ⟨by have := HJ6.out; have := HJ13.out; have := HJ22.out; first | omega | exact Nat.le_refl _⟩, ⟨by (with_reducible repeat (first | refine blk_drewN ?_ _ | refine blk_drew ?_ | refine blk_alloc ?_ _)); refine blk_put (cs := #[.int .i64 t343, .int .i64 t344, .bool t337]) ?_ 2 _ rfl; (with_reducible repeat (first | refine blk_drewN ?_ _ | refine blk_drew ?_ | refine blk_alloc ?_ _)); refine blk_put (cs := #[.int .i64 t343, .int .i64 t336, .bool t337]) ?_ 1 _ rfl; (with_reducible repeat (first | refine blk_drewN ?_ _ | refine blk_drew ?_ | refine blk_alloc ?_ _)); refine blk_put (cs := #[.int .i64 t335, .int .i64 t336, .bool t337]) ?_ 0 _ rfl; (with_reducible repeat (first | refine blk_drewN ?_ _ | refine blk_drew ?_ | refine blk_alloc ?_ _)); exact BK339.out⟩, ⟨by repeat (first | (with_reducible first | exact HB.out | apply below_alloc | apply pw_below_drewN | apply below_drew1 | refine below_set ?_ GE339.out) | exact HB.out)⟩⟩
                                · rw [if_neg c38] at H
                                  have c38b0 : decide ((l0.length : Int) ≤ t343) = false := decide_eq_false c38
                                  clear c38
                                  by_cases c40 : 0 ≤ t344
                                  · rw [if_pos c40] at H
                                    have c40b0 : decide (0 ≤ t344) = true := decide_eq_true c40
                                    clear c40
                                    by_cases c41 : t344 < (l0.length : Int)
                                    · rw [if_pos c41] at H
                                      have c41b0 : decide (t344 < (l0.length : Int)) = true := decide_eq_true c41
                                      clear c41
                                      by_cases c42 : (rd l0 t344) = 0
                                      · rw [if_pos c42] at H
                                        have c42b0 : ((rd l0 t344) == 0) = true := beq_iff_eq.mpr c42
                                        have c42b1 : ((rd l0 t344) != 0) = false := bne_eq_false_iff_eq.mpr c42
                                        clear c42
                                        have H' := Aside0.mk H
                                        clear H
                                        have hcz43_0 : w29.cell? ⟨gb339, 0, none⟩ = some (.int .i64 t335) := (blk_cell BK339.out 0).trans rfl
                                        have hcz43_1 : w29.cell? ⟨gb339, 1, none⟩ = some (.int .i64 t336) := (blk_cell BK339.out 1).trans rfl
                                        have hcz43_2 : w29.cell? ⟨gb339, 2, none⟩ = some (.bool t337) := (blk_cell BK339.out 2).trans rfl
                                        have hfz43_0 := blk_frozen BK339.out 0
                                        have hfz43_1 := blk_frozen BK339.out 1
                                        have hfz43_2 := blk_frozen BK339.out 2
                                        have p347 : 0 ≤ (t344 : Int) := of_decide_eq_true (by first | (with_reducible assumption) | assumption)
                                        have q347 : t344 < (l0.length : Int) := of_decide_eq_true (by first | (with_reducible assumption) | assumption)
                                        obtain ⟨ad347, e347, hx347_0⟩ := Kd.at_int HR0.out t344 p347 q347
                                        cases e347
                                        have hn347_0 : ad347.block ≠ gb339 := Nat.ne_of_lt (Nat.lt_of_lt_of_le (by have := World.block_lt_of_cell? _ _ hx347_0; first | rwa [add_block] at this | exact this) GW339.out)
                                        have hn347_1 : ad347.block ≠ gb339 := Nat.ne_of_lt (Nat.lt_of_lt_of_le (by have := World.block_lt_of_cell? _ _ hx347_0; first | rwa [add_block] at this | exact this) GW339.out)
                                        have hn347_2 : ad347.block ≠ gb339 := Nat.ne_of_lt (Nat.lt_of_lt_of_le (by have := World.block_lt_of_cell? _ _ hx347_0; first | rwa [add_block] at this | exact this) GW339.out)
                                        replace hx347_0 := (HB.out.cell (World.block_lt_of_cell? w _ hx347_0)).trans hx347_0
                                        replace hx347_0 := (cell_far (p := ⟨gb339, 0, none⟩) (by first | (rw [add_block]; exact hn347_0) | (show (Addr.add _ _).block ≠ _; rw [add_block]; exact hn347_0) | exact hn347_0) (.int .i64 t343)).trans hx347_0
                                        replace hx347_0 := (cell_far (p := ⟨gb339, 1, none⟩) (by first | (rw [add_block]; exact hn347_1) | (show (Addr.add _ _).block ≠ _; rw [add_block]; exact hn347_1) | exact hn347_1) (.int .i64 t344)).trans hx347_0
                                        replace hx347_0 := (cell_far (p := ⟨gb339, 2, none⟩) (by first | (rw [add_block]; exact hn347_2) | (show (Addr.add _ _).block ≠ _; rw [add_block]; exact hn347_2) | exact hn347_2) (.bool t345)).trans hx347_0
                                        clear hn347_0
                                        clear hn347_1
                                        clear hn347_2
                                        replace p347 := eq_true p347
                                        replace q347 := eq_true q347
                                        go_wp2
                                        go_meet
                                        case rel => exact ⟨_, (true), (by first | rfl | (simp; done) | (simp [*]; done) | (simp [i64_w]; done) | (simp [*, i64_w]; done)), H', ⟨by have := HJ6.out; have := HJ13.out; have := HJ22.out; first | omega | exact Nat.le_refl _⟩, ⟨by (with_reducible repeat (first | refine blk_drewN ?_ _ | refine blk_drew ?_ | refine blk_alloc ?_ _)); refine blk_put (cs := #[.int .i64 t343, .int .i64 t344, .bool t337]) ?_ 2 _ rfl; (with_reducible repeat (first | refine blk_drewN ?_ _ | refine blk_drew ?_ | refine blk_alloc ?_ _)); refine blk_put (cs := #[.int .i64 t343, .int .i64 t336, .bool t337]) ?_ 1 _ rfl; (with_reducible repeat (first | refine blk_drewN ?_ _ | refine blk_drew ?_ | refine blk_alloc ?_ _)); refine blk_put (cs := #[.int .i64 t335, .int .i64 t336, .bool t337]) ?_ 0 _ rfl; (with_reducible repeat (first | refine blk_drewN ?_ _ | refine blk_drew ?_ | refine blk_alloc ?_ _)); exact BK339.out⟩, ⟨by repeat (first | (with_reducible first | exact HB.out | apply below_alloc | apply pw_below_drewN | apply below_drew1 | refine below_set ?_ GE339.out) | exact HB.out)⟩⟩
                                      · rw [if_neg c42] at H
                                        have c42b0 : ((rd l0 t344) == 0) = false := beq_eq_false_iff_ne.mpr c42
                                        have c42b1 : ((rd l0 t344) != 0) = true := bne_iff_ne.mpr c42
                                        by_cases c44 : 0 ≤ t343
                                        · rw [if_pos c44] at H
                                          have c44b0 : decide (0 ≤ t343) = true := decide_eq_true c44
                                          clear c44
                                          by_cases c45 : t343 < (l1.length : Int)
                                          · rw [if_pos c45] at H
                                            have c45b0 : decide (t343 < (l1.length : Int)) = true := decide_eq_true c45
                                            clear c45
                                            have H' := Aside0.mk H
                                            clear H
                                            have hcz46_0 : w29.cell? ⟨gb339, 0, none⟩ = some (.int .i64 t335) := (blk_cell BK339.out 0).trans rfl
                                            have hcz46_1 : w29.cell? ⟨gb339, 1, none⟩ = some (.int .i64 t336) := (blk_cell BK339.out 1).trans rfl
                                            have hcz46_2 : w29.cell? ⟨gb339, 2, none⟩ = some (.bool t337) := (blk_cell BK339.out 2).trans rfl
                                            have hfz46_0 := blk_frozen BK339.out 0
                                            have hfz46_1 := blk_frozen BK339.out 1
                                            have hfz46_2 := blk_frozen BK339.out 2
                                            have p347 : 0 ≤ (t344 : Int) := of_decide_eq_true (by first | (with_reducible assumption) | assumption)
                                            have q347 : t344 < (l0.length : Int) := of_decide_eq_true (by first | (with_reducible assumption) | assumption)
                                            obtain ⟨ad347, e347, hx347_0⟩ := Kd.at_int HR0.out t344 p347 q347
                                            cases e347
                                            have hn347_0 : ad347.block ≠ gb339 := Nat.ne_of_lt (Nat.lt_of_lt_of_le (by have := World.block_lt_of_cell? _ _ hx347_0; first | rwa [add_block] at this | exact this) GW339.out)
                                            have hn347_1 : ad347.block ≠ gb339 := Nat.ne_of_lt (Nat.lt_of_lt_of_le (by have := World.block_lt_of_cell? _ _ hx347_0; first | rwa [add_block] at this | exact this) GW339.out)
                                            have hn347_2 : ad347.block ≠ gb339 := Nat.ne_of_lt (Nat.lt_of_lt_of_le (by have := World.block_lt_of_cell? _ _ hx347_0; first | rwa [add_block] at this | exact this) GW339.out)
                                            replace hx347_0 := (HB.out.cell (World.block_lt_of_cell? w _ hx347_0)).trans hx347_0
                                            replace hx347_0 := (cell_far (p := ⟨gb339, 0, none⟩) (by first | (rw [add_block]; exact hn347_0) | (show (Addr.add _ _).block ≠ _; rw [add_block]; exact hn347_0) | exact hn347_0) (.int .i64 t343)).trans hx347_0
                                            replace hx347_0 := (cell_far (p := ⟨gb339, 1, none⟩) (by first | (rw [add_block]; exact hn347_1) | (show (Addr.add _ _).block ≠ _; rw [add_block]; exact hn347_1) | exact hn347_1) (.int .i64 t344)).trans hx347_0
                                            replace hx347_0 := (cell_far (p := ⟨gb339, 2, none⟩) (by first | (rw [add_block]; exact hn347_2) | (show (Addr.add _ _).block ≠ _; rw [add_block]; exact hn347_2) | exact hn347_2) (.bool t345)).trans hx347_0
                                            clear hn347_0
                                            clear hn347_1
                                            clear hn347_2
                                            replace p347 := eq_true p347
                                            replace q347 := eq_true q347
                                            have p348 : 0 ≤ (t343 : Int) := of_decide_eq_true (by first | (with_reducible assumption) | assumption)
                                            have q348 : t343 < (l1.length : Int) := of_decide_eq_true (by first | (with_reducible assumption) | assumption)
                                            obtain ⟨ad348, e348, hx348_0⟩ := Kd.at_int HR1.out t343 p348 q348
                                            cases e348
                                            have hn348_0 : ad348.block ≠ gb339 := Nat.ne_of_lt (Nat.lt_of_lt_of_le (by have := World.block_lt_of_cell? _ _ hx348_0; first | rwa [add_block] at this | exact this) GW339.out)
                                            have hn348_1 : ad348.block ≠ gb339 := Nat.ne_of_lt (Nat.lt_of_lt_of_le (by have := World.block_lt_of_cell? _ _ hx348_0; first | rwa [add_block] at this | exact this) GW339.out)
                                            have hn348_2 : ad348.block ≠ gb339 := Nat.ne_of_lt (Nat.lt_of_lt_of_le (by have := World.block_lt_of_cell? _ _ hx348_0; first | rwa [add_block] at this | exact this) GW339.out)
                                            replace hx348_0 := (HB.out.cell (World.block_lt_of_cell? w _ hx348_0)).trans hx348_0
                                            replace hx348_0 := (cell_far (p := ⟨gb339, 0, none⟩) (by first | (rw [add_block]; exact hn348_0) | (show (Addr.add _ _).block ≠ _; rw [add_block]; exact hn348_0) | exact hn348_0) (.int .i64 t343)).trans hx348_0
                                            replace hx348_0 := (cell_far (p := ⟨gb339, 1, none⟩) (by first | (rw [add_block]; exact hn348_1) | (show (Addr.add _ _).block ≠ _; rw [add_block]; exact hn348_1) | exact hn348_1) (.int .i64 t344)).trans hx348_0
                                            replace hx348_0 := (cell_far (p := ⟨gb339, 2, none⟩) (by first | (rw [add_block]; exact hn348_2) | (show (Addr.add _ _).block ≠ _; rw [add_block]; exact hn348_2) | exact hn348_2) (.bool t345)).trans hx348_0
                                            clear hn348_0
                                            clear hn348_1
                                            clear hn348_2
                                            replace p348 := eq_true p348
                                            replace q348 := eq_true q348
                                            go_wp2
                                            go_meet
                                            case rel => exact ⟨_, (((rd l1 t343) == 0)), (by first | rfl | (simp; done) | (simp [*]; done) | (simp [i64_w]; done) | (simp [*, i64_w]; done)), H', ⟨by have := HJ6.out; have := HJ13.out; have := HJ22.out; first | omega | exact Nat.le_refl _⟩, ⟨by (with_reducible repeat (first | refine blk_drewN ?_ _ | refine blk_drew ?_ | refine blk_alloc ?_ _)); refine blk_put (cs := #[.int .i64 t343, .int .i64 t344, .bool t337]) ?_ 2 _ rfl; (with_reducible repeat (first | refine blk_drewN ?_ _ | refine blk_drew ?_ | refine blk_alloc ?_ _)); refine blk_put (cs := #[.int .i64 t343, .int .i64 t336, .bool t337]) ?_ 1 _ rfl; (with_reducible repeat (first | refine blk_drewN ?_ _ | refine blk_drew ?_ | refine blk_alloc ?_ _)); refine blk_put (cs := #[.int .i64 t335, .int .i64 t336, .bool t337]) ?_ 0 _ rfl; (with_reducible repeat (first | refine blk_drewN ?_ _ | refine blk_drew ?_ | refine blk_alloc ?_ _)); exact BK339.out⟩, ⟨by repeat (first | (with_reducible first | exact HB.out | apply below_alloc | apply pw_below_drewN | apply below_drew1 | refine below_set ?_ GE339.out) | exact HB.out)⟩⟩
                                          · rw [if_neg c45] at H
                                            exact absurd H (by simp)
                                        · rw [if_neg c44] at H
                                          exact absurd H (by simp)
                                    · rw [if_neg c41] at H
                                      exact absurd H (by simp)
                                  · rw [if_neg c40] at H
                                    exact absurd H (by simp)
                        · rw [if_neg c31] at H
                          have c31b0 : (t346 == 0) = false := beq_eq_false_iff_ne.mpr c31
                          have c31b1 : (t346 != 0) = true := bne_iff_ne.mpr c31
                          (first | rw [c31b0] | (simp only [i64_w, i32_w]; rw [c31b0]) | skip)
                          have H' := Aside0.mk H
                          clear H
                          go_wp2
                          go_meet
                          case rel => exact ⟨_, (true), (by first | rfl | (simp; done) | (simp [*]; done) | (simp [i64_w]; done) | (simp [*, i64_w]; done)), H', ⟨by have := HJ6.out; have := HJ13.out; have := HJ22.out; first | omega | exact Nat.le_refl _⟩, ⟨by (with_reducible repeat (first | refine blk_drewN ?_ _ | refine blk_drew ?_ | refine blk_alloc ?_ _)); refine blk_put (cs := #[.int .i64 t343, .int .i64 t344, .bool t337]) ?_ 2 _ rfl; (with_reducible repeat (first | refine blk_drewN ?_ _ | refine blk_drew ?_ | refine blk_alloc ?_ _)); refine blk_put (cs := #[.int .i64 t343, .int .i64 t336, .bool t337]) ?_ 1 _ rfl; (with_reducible repeat (first | refine blk_drewN ?_ _ | refine blk_drew ?_ | refine blk_alloc ?_ _)); refine blk_put (cs := #[.int .i64 t335, .int .i64 t336, .bool t337]) ?_ 0 _ rfl; (with_reducible repeat (first | refine blk_drewN ?_ _ | refine blk_drew ?_ | refine blk_alloc ?_ _)); exact BK339.out⟩, ⟨by repeat (first | (with_reducible first | exact HB.out | apply below_alloc | apply pw_below_drewN | apply below_drew1 | refine below_set ?_ GE339.out) | exact HB.out)⟩⟩
                      case rest => as_aux_lemma =>
                        clear HC28
                        try clear c1
                        try clear c2
                        try clear p2
                        try clear c3
                        try clear p3
                        try clear q3
                        try clear hx3
                        try clear c4
                        try clear c5
                        try clear c9
                        try clear c9b0
                        try clear c9b1
                        try clear c10
                        try clear c10b0
                        try clear c11
                        try clear c14
                        try clear c15
                        try clear c16
                        try clear c19
                        try clear c19b0
                        try clear c19b1
                        try clear c20
                        try clear c20b0
                        try clear c20b1
                        try clear c22
                        try clear c25
                        try clear c25b0
                        try clear c25b1
                        try clear c26
                        try clear c27
                        try clear c31
                        try clear c31b0
                        try clear c31b1
                        try clear c32
                        try clear c32b0
                        try clear c34
                        try clear c34b0
                        try clear p34
                        try clear q34
                        try clear hx34
                        try clear c36
                        try clear c36b0
                        try clear c38
                        try clear c38b0
                        try clear c40
                        try clear c40b0
                        try clear c41
                        try clear c41b0
                        try clear c42
                        try clear c42b0
                        try clear c42b1
                        try clear c44
                        try clear c44b0
                        try clear c45
                        try clear c45b0
                        try clear hcz17_0
                        try clear hcz17_1
                        try clear hcz17_2
                        try clear hcz21_0
                        try clear hcz21_1
                        try clear hcz21_2
                        try clear hcz30_0
                        try clear hcz30_1
                        try clear hcz30_2
                        try clear hcz33_0
                        try clear hcz33_1
                        try clear hcz33_2
                        try clear hcz35_0
                        try clear hcz35_1
                        try clear hcz35_2
                        try clear hcz37_0
                        try clear hcz37_1
                        try clear hcz37_2
                        try clear hcz39_0
                        try clear hcz39_1
                        try clear hcz39_2
                        try clear hcz43_0
                        try clear hcz43_1
                        try clear hcz43_2
                        try clear hcz46_0
                        try clear hcz46_1
                        try clear hcz46_2
                        try clear hfz17_0
                        try clear hfz17_1
                        try clear hfz17_2
                        try clear hfz21_0
                        try clear hfz21_1
                        try clear hfz21_2
                        try clear hfz30_0
                        try clear hfz30_1
                        try clear hfz30_2
                        try clear hfz33_0
                        try clear hfz33_1
                        try clear hfz33_2
                        try clear hfz35_0
                        try clear hfz35_1
                        try clear hfz35_2
                        try clear hfz37_0
                        try clear hfz37_1
                        try clear hfz37_2
                        try clear hfz39_0
                        try clear hfz39_1
                        try clear hfz39_2
                        try clear hfz43_0
                        try clear hfz43_1
                        try clear hfz43_2
                        try clear hfz46_0
                        try clear hfz46_1
                        try clear hfz46_2
                        try clear hx347_0
                        try clear hx348_0
                        try clear p2
                        try clear p347
                        try clear p348
                        try clear q347
                        try clear q348
                        obtain ⟨kq, x118_27, rfl, HA, HJ27, BK339, HB⟩ := hcut
                        cases kq with
                        | zero => exact absurd HA.out (by simp [heraldlaw24_CoupleSame.j3])
                        | succ kj27 =>
                          have H := HA.out
                          clear HA
                          simp only [heraldlaw24_CoupleSame.j3] at H
                          by_cases c47 : x118_27 = true
                          · subst c47
                            have H1 : (some false) = some r := by rw [if_pos rfl] at H; exact H
                            clear H
                            have H := H1
                            clear H1
                            obtain rfl := Option.some.inj H
                            go_wp2
                            go_ret
                            exact ⟨by first | rfl | (simp [errW_none, errW_some] <;> rfl) | (simp [*, errW_none, errW_some] <;> rfl), by repeat (first | (with_reducible first | exact HB.out | apply below_alloc | apply pw_below_drewN | apply below_drew1 | refine below_set ?_ GE339.out) | exact HB.out)⟩
                          · replace c47 := Bool.eq_false_iff.mpr c47
                            subst c47
                            have H1 : ((couple_Kept.f kj27 l0 l1).bind fun bt349 => ((couple_Kept.f kj27 l1 l0).bind fun bt351 => ((couple_Left.f kj27 l0 l1).bind fun bt353 => (if bt349.2 = 0 then (if bt351.2 = 0 then (if bt353.2 = 0 then (if bt349.1 = bt351.1 then (heraldlaw24_CoupleSame.j4 kj27 l0 t334 bt349.1 bt353.1 ((bt353.1.length : Int) != (l0.length : Int))) else (heraldlaw24_CoupleSame.j4 kj27 l0 t334 bt349.1 bt353.1 true)) else (heraldlaw24_CoupleSame.j4 kj27 l0 t334 bt349.1 bt353.1 true)) else (heraldlaw24_CoupleSame.j4 kj27 l0 t334 bt349.1 bt353.1 true)) else (heraldlaw24_CoupleSame.j4 kj27 l0 t334 bt349.1 bt353.1 true))))) = some r := by rw [if_neg (show ¬ (false = true) by decide)] at H; exact H
                            clear H
                            have H := H1
                            clear H1
                            replace H := Option.bind_eq_some_iff.mp H
                            obtain ⟨⟨t349, t350⟩, A480, H⟩ := H
                            replace H : ((couple_Kept.f kj27 l1 l0).bind fun bt351 => ((couple_Left.f kj27 l0 l1).bind fun bt353 => (if t350 = 0 then (if bt351.2 = 0 then (if bt353.2 = 0 then (if t349 = bt351.1 then (heraldlaw24_CoupleSame.j4 kj27 l0 t334 t349 bt353.1 ((bt353.1.length : Int) != (l0.length : Int))) else (heraldlaw24_CoupleSame.j4 kj27 l0 t334 t349 bt353.1 true)) else (heraldlaw24_CoupleSame.j4 kj27 l0 t334 t349 bt353.1 true)) else (heraldlaw24_CoupleSame.j4 kj27 l0 t334 t349 bt353.1 true)) else (heraldlaw24_CoupleSame.j4 kj27 l0 t334 t349 bt353.1 true)))) = some r := H
                            have A48 := Aside0.mk A480
                            clear A480
                            replace H := Option.bind_eq_some_iff.mp H
                            obtain ⟨⟨t351, t352⟩, A490, H⟩ := H
                            replace H : ((couple_Left.f kj27 l0 l1).bind fun bt353 => (if t350 = 0 then (if t352 = 0 then (if bt353.2 = 0 then (if t349 = t351 then (heraldlaw24_CoupleSame.j4 kj27 l0 t334 t349 bt353.1 ((bt353.1.length : Int) != (l0.length : Int))) else (heraldlaw24_CoupleSame.j4 kj27 l0 t334 t349 bt353.1 true)) else (heraldlaw24_CoupleSame.j4 kj27 l0 t334 t349 bt353.1 true)) else (heraldlaw24_CoupleSame.j4 kj27 l0 t334 t349 bt353.1 true)) else (heraldlaw24_CoupleSame.j4 kj27 l0 t334 t349 bt353.1 true))) = some r := H
                            have A49 := Aside0.mk A490
                            clear A490
                            replace H := Option.bind_eq_some_iff.mp H
                            obtain ⟨⟨t353, t354⟩, A500, H⟩ := H
                            replace H : (if t350 = 0 then (if t352 = 0 then (if t354 = 0 then (if t349 = t351 then (heraldlaw24_CoupleSame.j4 kj27 l0 t334 t349 t353 ((t353.length : Int) != (l0.length : Int))) else (heraldlaw24_CoupleSame.j4 kj27 l0 t334 t349 t353 true)) else (heraldlaw24_CoupleSame.j4 kj27 l0 t334 t349 t353 true)) else (heraldlaw24_CoupleSame.j4 kj27 l0 t334 t349 t353 true)) else (heraldlaw24_CoupleSame.j4 kj27 l0 t334 t349 t353 true)) = some r := H
                            have A50 := Aside0.mk A500
                            clear A500
                            have HC51 := Aside0.mk H
                            clear H
                            go_upto_region 18 with (first | ((with_reducible refine gate_callee (f := 17) rfl ?_); refine goesL_ (some 122) rfl rfl Try.func17 (by kernel_rfl) rfl #[.slice A0 l0.length c0, .slice A1 l1.length c1] rfl (by (try simp only [List.map_toArray, List.map_cons, List.map_nil]); first | done | rfl | (simp only [List.length_drop, List.length_take]; rfl)) ?_; (with_reducible refine (couple_Kept.calls kj27 _ _ l0 _ _ l1 t349 t350 _ ?side1 ?side2 ?side3 ?side4 A48.out).mono ?_); (case side1 => repeat (first | exact (Kd.C_below HR0.out HB.out) | (with_reducible refine Kd.C_alloc ?_ _) | (with_reducible refine Kd.C_drewN ?_ _) | (with_reducible refine Kd.C_drew ?_))); (case side2 => exact HC0.out); (case side3 => repeat (first | exact (Kd.C_below HR1.out HB.out) | (with_reducible refine Kd.C_alloc ?_ _) | (with_reducible refine Kd.C_drewN ?_ _) | (with_reducible refine Kd.C_drew ?_))); (case side4 => exact HC1.out); rintro e w52 ⟨rfl, hb⟩; refine ⟨_, rfl, ?_⟩; have n0_ := Aside0.mk (blk_below (g := gb339) (o := .cells #[.int .i64 t343, .int .i64 t344, .bool t345] 26 (0, 0)) (by (with_reducible repeat (first | refine blk_drewN ?_ _ | refine blk_drew ?_ | refine blk_alloc ?_ _)); exact BK339.out) hb); have n1_ := Aside0.mk (below_step (by repeat (first | (with_reducible first | exact HB.out | apply below_alloc | apply pw_below_drewN | apply below_drew1 | refine below_set ?_ GE339.out) | exact HB.out)) hb); clear BK339; clear HB; have BK339 := n0_; have HB := n1_; clear n0_ n1_; (try clear hb); (try clear hb2); (try clear hk); (try clear hi)) | ((with_reducible refine gate_callee (f := 17) rfl ?_); refine goesL_ (some 128) rfl rfl Try.func17 (by kernel_rfl) rfl #[.slice A1 l1.length c1, .slice A0 l0.length c0] rfl (by (try simp only [List.map_toArray, List.map_cons, List.map_nil]); first | done | rfl | (simp only [List.length_drop, List.length_take]; rfl)) ?_; (with_reducible refine (couple_Kept.calls kj27 _ _ l1 _ _ l0 t351 t352 _ ?side1 ?side2 ?side3 ?side4 A49.out).mono ?_); (case side1 => repeat (first | exact (Kd.C_below HR1.out HB.out) | (with_reducible refine Kd.C_alloc ?_ _) | (with_reducible refine Kd.C_drewN ?_ _) | (with_reducible refine Kd.C_drew ?_))); (case side2 => exact HC1.out); (case side3 => repeat (first | exact (Kd.C_below HR0.out HB.out) | (with_reducible refine Kd.C_alloc ?_ _) | (with_reducible refine Kd.C_drewN ?_ _) | (with_reducible refine Kd.C_drew ?_))); (case side4 => exact HC0.out); rintro e w53 ⟨rfl, hb⟩; refine ⟨_, rfl, ?_⟩; have n0_ := Aside0.mk (blk_below (g := gb339) (o := .cells #[.int .i64 t343, .int .i64 t344, .bool t345] 26 (0, 0)) (by (with_reducible repeat (first | refine blk_drewN ?_ _ | refine blk_drew ?_ | refine blk_alloc ?_ _)); exact BK339.out) hb); have n1_ := Aside0.mk (below_step (by repeat (first | (with_reducible first | exact HB.out | apply below_alloc | apply pw_below_drewN | apply below_drew1 | refine below_set ?_ GE339.out) | exact HB.out)) hb); clear BK339; clear HB; have BK339 := n0_; have HB := n1_; clear n0_ n1_; (try clear hb); (try clear hb2); (try clear hk); (try clear hi)) | ((with_reducible refine gate_callee (f := 20) rfl ?_); refine goesL_ (some 134) rfl rfl Try.func20 (by kernel_rfl) rfl #[.slice A0 l0.length c0, .slice A1 l1.length c1] rfl (by (try simp only [List.map_toArray, List.map_cons, List.map_nil]); first | done | rfl | (simp only [List.length_drop, List.length_take]; rfl)) ?_; (with_reducible refine (couple_Left.calls kj27 _ _ l0 _ _ l1 t353 t354 _ ?side1 ?side2 ?side3 ?side4 A50.out).mono ?_); (case side1 => repeat (first | exact (Kd.C_below HR0.out HB.out) | (with_reducible refine Kd.C_alloc ?_ _) | (with_reducible refine Kd.C_drewN ?_ _) | (with_reducible refine Kd.C_drew ?_))); (case side2 => exact HC0.out); (case side3 => repeat (first | exact (Kd.C_below HR1.out HB.out) | (with_reducible refine Kd.C_alloc ?_ _) | (with_reducible refine Kd.C_drewN ?_ _) | (with_reducible refine Kd.C_drew ?_))); (case side4 => exact HC1.out); rintro e w54 ⟨v355, rfl, ho0, hb⟩; refine ⟨_, rfl, ?_⟩; have n0_ := Aside0.mk (Kd.R_lower ho0 (below_size (by repeat (first | (with_reducible first | exact HB.out | apply below_alloc | apply pw_below_drewN | apply below_drew1 | refine below_set ?_ GE339.out) | exact HB.out)))); have n1_ := Aside0.mk (blk_below (g := gb339) (o := .cells #[.int .i64 t343, .int .i64 t344, .bool t345] 26 (0, 0)) (by (with_reducible repeat (first | refine blk_drewN ?_ _ | refine blk_drew ?_ | refine blk_alloc ?_ _)); exact BK339.out) hb); have n2_ := Aside0.mk (below_step (by repeat (first | (with_reducible first | exact HB.out | apply below_alloc | apply pw_below_drewN | apply below_drew1 | refine below_set ?_ GE339.out) | exact HB.out)) hb); clear BK339; clear HB; have HO356 := n0_; have BK339 := n1_; have HB := n2_; clear n0_ n1_ n2_; (try clear hb); (try clear hb2); (try clear hk); (try clear hi); (try clear ho0)))
                            (try simp only [Act.put, List.setIfInBounds_toArray, List.set_cons_zero, List.set_cons_succ])
                            go_cut [158] (fun v158 wc => ∃ (kq : Nat) (x158_50 : Bool), v158 = .bool x158_50 ∧ Aside0 (heraldlaw24_CoupleSame.j4 kq l0 t334 t349 t353 x158_50 = some r) ∧ Aside0 (kq ≤ kj27) ∧ Aside0 (Kd.R (Kd.int .i64) 2 wc w.heap.size (fun _ => True) v355 t353) ∧ Aside0 (wc.heap[gb339]? = some (.cells #[.int .i64 t343, .int .i64 t344, .bool t345] 26 (0, 0))) ∧ Aside0 (Below w.heap.size w wc))
                            case first => as_aux_lemma =>
                              have H := HC51.out
                              clear HC51
                              by_cases c55 : t350 = 0
                              · rw [if_pos c55] at H
                                have c55b0 : (t350 == 0) = true := beq_iff_eq.mpr c55
                                have c55b1 : (t350 != 0) = false := bne_eq_false_iff_eq.mpr c55
                                clear c55
                                (first | rw [c55b0] | (simp only [i64_w, i32_w]; rw [c55b0]) | skip)
                                by_cases c56 : t352 = 0
                                · rw [if_pos c56] at H
                                  have c56b0 : (t352 == 0) = true := beq_iff_eq.mpr c56
                                  have c56b1 : (t352 != 0) = false := bne_eq_false_iff_eq.mpr c56
                                  clear c56
                                  by_cases c57 : t354 = 0
                                  · rw [if_pos c57] at H
                                    have c57b0 : (t354 == 0) = true := beq_iff_eq.mpr c57
                                    have c57b1 : (t354 != 0) = false := bne_eq_false_iff_eq.mpr c57
                                    clear c57
                                    by_cases c58 : t349 = t351
                                    · rw [if_pos c58] at H
                                      have c58b0 : (t349 == t351) = true := beq_iff_eq.mpr c58
                                      have c58b1 : (t349 != t351) = false := bne_eq_false_iff_eq.mpr c58
                                      clear c58
                                      have H' := Aside0.mk H
                                      clear H
                                      obtain ⟨Ao59, co59, eo59⟩ := Kd.R_slice HO356.out
                                      subst eo59
                                      go_wp2
                                      go_meet
                                      case rel => exact ⟨_, (((t353.length : Int) != (l0.length : Int))), (by first | rfl | (simp; done) | (simp [*]; done) | (simp [i64_w]; done) | (simp [*, i64_w]; done)), H', ⟨by have := HJ6.out; have := HJ13.out; have := HJ22.out; have := HJ27.out; first | omega | exact Nat.le_refl _⟩, ⟨by (with_reducible repeat (first | apply Kd.R_alloc | apply Kd.R_drewN | apply Kd.R_drew)); exact HO356.out⟩, ⟨by (with_reducible repeat (first | refine blk_drewN ?_ _ | refine blk_drew ?_ | refine blk_alloc ?_ _)); exact BK339.out⟩, ⟨by repeat (first | (with_reducible first | exact HB.out | apply below_alloc | apply pw_below_drewN | apply below_drew1 | refine below_set ?_ GE339.out) | exact HB.out)⟩⟩
                                    · rw [if_neg c58] at H
                                      have c58b0 : (t349 == t351) = false := beq_eq_false_iff_ne.mpr c58
                                      have c58b1 : (t349 != t351) = true := bne_iff_ne.mpr c58
                                      have H' := Aside0.mk H
                                      clear H
                                      go_wp2
                                      go_meet
                                      case rel => exact ⟨_, (true), (by first | rfl | (simp; done) | (simp [*]; done) | (simp [i64_w]; done) | (simp [*, i64_w]; done)), H', ⟨by have := HJ6.out; have := HJ13.out; have := HJ22.out; have := HJ27.out; first | omega | exact Nat.le_refl _⟩, ⟨by (with_reducible repeat (first | apply Kd.R_alloc | apply Kd.R_drewN | apply Kd.R_drew)); exact HO356.out⟩, ⟨by (with_reducible repeat (first | refine blk_drewN ?_ _ | refine blk_drew ?_ | refine blk_alloc ?_ _)); exact BK339.out⟩, ⟨by repeat (first | (with_reducible first | exact HB.out | apply below_alloc | apply pw_below_drewN | apply below_drew1 | refine below_set ?_ GE339.out) | exact HB.out)⟩⟩
                                  · rw [if_neg c57] at H
                                    have c57b0 : (t354 == 0) = false := beq_eq_false_iff_ne.mpr c57
                                    have c57b1 : (t354 != 0) = true := bne_iff_ne.mpr c57
                                    have H' := Aside0.mk H
                                    clear H
                                    go_wp2
                                    go_meet
                                    case rel => exact ⟨_, (true), (by first | rfl | (simp; done) | (simp [*]; done) | (simp [i64_w]; done) | (simp [*, i64_w]; done)), H', ⟨by have := HJ6.out; have := HJ13.out; have := HJ22.out; have := HJ27.out; first | omega | exact Nat.le_refl _⟩, ⟨by (with_reducible repeat (first | apply Kd.R_alloc | apply Kd.R_drewN | apply Kd.R_drew)); exact HO356.out⟩, ⟨by (with_reducible repeat (first | refine blk_drewN ?_ _ | refine blk_drew ?_ | refine blk_alloc ?_ _)); exact BK339.out⟩, ⟨by repeat (first | (with_reducible first | exact HB.out | apply below_alloc | apply pw_below_drewN | apply below_drew1 | refine below_set ?_ GE339.out) | exact HB.out)⟩⟩
                                · rw [if_neg c56] at H
                                  have c56b0 : (t352 == 0) = false := beq_eq_false_iff_ne.mpr c56
                                  have c56b1 : (t352 != 0) = true := bne_iff_ne.mpr c56
                                  have H' := Aside0.mk H
                                  clear H
                                  go_wp2
                                  go_meet
                                  case rel => exact ⟨_, (true), (by first | rfl | (simp; done) | (simp [*]; done) | (simp [i64_w]; done) | (simp [*, i64_w]; done)), H', ⟨by have := HJ6.out; have := HJ13.out; have := HJ22.out; have := HJ27.out; first | omega | exact Nat.le_refl _⟩, ⟨by (with_reducible repeat (first | apply Kd.R_alloc | apply Kd.R_drewN | apply Kd.R_drew)); exact HO356.out⟩, ⟨by (with_reducible repeat (first | refine blk_drewN ?_ _ | refine blk_drew ?_ | refine blk_alloc ?_ _)); exact BK339.out⟩, ⟨by repeat (first | (with_reducible first | exact HB.out | apply below_alloc | apply pw_below_drewN | apply below_drew1 | refine below_set ?_ GE339.out) | exact HB.out)⟩⟩
                              · rw [if_neg c55] at H
                                have c55b0 : (t350 == 0) = false := beq_eq_false_iff_ne.mpr c55
                                have c55b1 : (t350 != 0) = true := bne_iff_ne.mpr c55
                                (first | rw [c55b0] | (simp only [i64_w, i32_w]; rw [c55b0]) | skip)
                                have H' := Aside0.mk H
                                clear H
                                go_wp2
                                go_meet
                                case rel => exact ⟨_, (true), (by first | rfl | (simp; done) | (simp [*]; done) | (simp [i64_w]; done) | (simp [*, i64_w]; done)), H', ⟨by have := HJ6.out; have := HJ13.out; have := HJ22.out; have := HJ27.out; first | omega | exact Nat.le_refl _⟩, ⟨by (with_reducible repeat (first | apply Kd.R_alloc | apply Kd.R_drewN | apply Kd.R_drew)); exact HO356.out⟩, ⟨by (with_reducible repeat (first | refine blk_drewN ?_ _ | refine blk_drew ?_ | refine blk_alloc ?_ _)); exact BK339.out⟩, ⟨by repeat (first | (with_reducible first | exact HB.out | apply below_alloc | apply pw_below_drewN | apply below_drew1 | refine below_set ?_ GE339.out) | exact HB.out)⟩⟩
                            case rest => as_aux_lemma =>
                              clear HC51
                              try clear c1
                              try clear c2
                              try clear p2
                              try clear c3
                              try clear p3
                              try clear q3
                              try clear hx3
                              try clear c4
                              try clear c5
                              try clear c9
                              try clear c9b0
                              try clear c9b1
                              try clear c10
                              try clear c10b0
                              try clear c11
                              try clear c14
                              try clear c15
                              try clear c16
                              try clear c17
                              try clear c19
                              try clear c19b0
                              try clear c19b1
                              try clear c20
                              try clear c20b0
                              try clear c20b1
                              try clear c22
                              try clear c25
                              try clear c25b0
                              try clear c25b1
                              try clear c26
                              try clear c27
                              try clear c31
                              try clear c31b0
                              try clear c31b1
                              try clear c32
                              try clear c32b0
                              try clear c34
                              try clear c34b0
                              try clear p34
                              try clear q34
                              try clear hx34
                              try clear c36
                              try clear c36b0
                              try clear c38
                              try clear c38b0
                              try clear c40
                              try clear c40b0
                              try clear c41
                              try clear c41b0
                              try clear c42
                              try clear c42b0
                              try clear c42b1
                              try clear c44
                              try clear c44b0
                              try clear c45
                              try clear c45b0
                              try clear c47
                              try clear c55
                              try clear c55b0
                              try clear c55b1
                              try clear c56
                              try clear c56b0
                              try clear c56b1
                              try clear c57
                              try clear c57b0
                              try clear c57b1
                              try clear c58
                              try clear c58b0
                              try clear c58b1
                              try clear hcz17_0
                              try clear hcz17_1
                              try clear hcz17_2
                              try clear hcz21_0
                              try clear hcz21_1
                              try clear hcz21_2
                              try clear hcz30_0
                              try clear hcz30_1
                              try clear hcz30_2
                              try clear hcz33_0
                              try clear hcz33_1
                              try clear hcz33_2
                              try clear hcz35_0
                              try clear hcz35_1
                              try clear hcz35_2
                              try clear hcz37_0
                              try clear hcz37_1
                              try clear hcz37_2
                              try clear hcz39_0
                              try clear hcz39_1
                              try clear hcz39_2
                              try clear hcz43_0
                              try clear hcz43_1
                              try clear hcz43_2
                              try clear hcz46_0
                              try clear hcz46_1
                              try clear hcz46_2
                              try clear hfz17_0
                              try clear hfz17_1
                              try clear hfz17_2
                              try clear hfz21_0
                              try clear hfz21_1
                              try clear hfz21_2
                              try clear hfz30_0
                              try clear hfz30_1
                              try clear hfz30_2
                              try clear hfz33_0
                              try clear hfz33_1
                              try clear hfz33_2
                              try clear hfz35_0
                              try clear hfz35_1
                              try clear hfz35_2
                              try clear hfz37_0
                              try clear hfz37_1
                              try clear hfz37_2
                              try clear hfz39_0
                              try clear hfz39_1
                              try clear hfz39_2
                              try clear hfz43_0
                              try clear hfz43_1
                              try clear hfz43_2
                              try clear hfz46_0
                              try clear hfz46_1
                              try clear hfz46_2
                              try clear hx347_0
                              try clear hx348_0
                              try clear p2
                              try clear p3
                              try clear p34
                              try clear p347
                              try clear p348
                              try clear q3
                              try clear q34
                              try clear q347
                              try clear q348
                              obtain ⟨kq, x158_50, rfl, HA, HJ50, HO_14, BK339, HB⟩ := hcut
                              cases kq with
                              | zero => exact absurd HA.out (by simp [heraldlaw24_CoupleSame.j4])
                              | succ kj50 =>
                                have H := HA.out
                                clear HA
                                simp only [heraldlaw24_CoupleSame.j4] at H
                                by_cases c60 : x158_50 = true
                                · subst c60
                                  have H1 : (some false) = some r := by rw [if_pos rfl] at H; exact H
                                  clear H
                                  have H := H1
                                  clear H1
                                  obtain rfl := Option.some.inj H
                                  go_wp2
                                  go_ret
                                  exact ⟨by first | rfl | (simp [errW_none, errW_some] <;> rfl) | (simp [*, errW_none, errW_some] <;> rfl), by repeat (first | (with_reducible first | exact HB.out | apply below_alloc | apply pw_below_drewN | apply below_drew1 | refine below_set ?_ GE339.out) | exact HB.out)⟩
                                · replace c60 := Bool.eq_false_iff.mpr c60
                                  subst c60
                                  have H1 : (heraldlaw24_CoupleSame.l0 kj50 l0 t334 t349 t353 (t353.length : Int) 0) = some r := by rw [if_neg (show ¬ (false = true) by decide)] at H; exact H
                                  clear H
                                  have H := H1
                                  clear H1
                                  have H' := Aside0.mk H
                                  clear H
                                  obtain ⟨Ao61, co61, eo61⟩ := Kd.R_slice HO_14.out
                                  subst eo61
                                  go_wp2
                                  go_loopg [12, 161] kj50 (fun kq v12 v161 w' => ∃ (x12_6 : Int) (x161_6 : Int), v12 = .int .i64 x12_6 ∧ v161 = .int .i64 x161_6 ∧ Aside0 (heraldlaw24_CoupleSame.l0 kq l0 t334 x12_6 t353 (t353.length : Int) x161_6 = some r) ∧ Aside0 (kq ≤ kj50) ∧ Aside0 (Kd.R (Kd.int .i64) 2 w' w.heap.size (fun _ => True) (.slice Ao61 t353.length co61) t353) ∧ Aside0 (w'.heap[gb339]? = some (.cells #[.int .i64 t343, .int .i64 t344, .bool t345] 26 (0, 0))) ∧ Aside0 (Below w.heap.size w w'))
                                  case atStart => exact ⟨(t349), (0), (by first | rfl | (simp; done) | (simp [*]; done) | (simp [i64_w]; done) | (simp [*, i64_w]; done)), (by first | rfl | (simp; done) | (simp [*]; done) | (simp [i64_w]; done) | (simp [*, i64_w]; done)), H', ⟨Nat.le_refl _⟩, ⟨by (with_reducible repeat (first | apply Kd.R_alloc | apply Kd.R_drewN | apply Kd.R_drew)); exact HO_14.out⟩, ⟨by (with_reducible repeat (first | refine blk_drewN ?_ _ | refine blk_drew ?_ | refine blk_alloc ?_ _)); exact BK339.out⟩, ⟨by repeat (first | (with_reducible first | exact HB.out | apply below_alloc | apply pw_below_drewN | apply below_drew1 | refine below_set ?_ GE339.out) | exact HB.out)⟩⟩
                                  case round => as_aux_lemma =>
                                    clear H'
                                    try clear c1
                                    try clear c2
                                    try clear p2
                                    try clear c3
                                    try clear p3
                                    try clear q3
                                    try clear hx3
                                    try clear c4
                                    try clear c5
                                    try clear c6
                                    try clear c9
                                    try clear c9b0
                                    try clear c9b1
                                    try clear c10
                                    try clear c10b0
                                    try clear c11
                                    try clear c14
                                    try clear c15
                                    try clear c16
                                    try clear c17
                                    try clear c19
                                    try clear c19b0
                                    try clear c19b1
                                    try clear c20
                                    try clear c20b0
                                    try clear c20b1
                                    try clear c22
                                    try clear c25
                                    try clear c25b0
                                    try clear c25b1
                                    try clear c26
                                    try clear c27
                                    try clear c31
                                    try clear c31b0
                                    try clear c31b1
                                    try clear c32
                                    try clear c32b0
                                    try clear c34
                                    try clear c34b0
                                    try clear p34
                                    try clear q34
                                    try clear hx34
                                    try clear c36
                                    try clear c36b0
                                    try clear c38
                                    try clear c38b0
                                    try clear c40
                                    try clear c40b0
                                    try clear c41
                                    try clear c41b0
                                    try clear c42
                                    try clear c42b0
                                    try clear c42b1
                                    try clear c44
                                    try clear c44b0
                                    try clear c45
                                    try clear c45b0
                                    try clear c47
                                    try clear c55
                                    try clear c55b0
                                    try clear c55b1
                                    try clear c56
                                    try clear c56b0
                                    try clear c56b1
                                    try clear c57
                                    try clear c57b0
                                    try clear c57b1
                                    try clear c58
                                    try clear c58b0
                                    try clear c58b1
                                    try clear c60
                                    try clear hcz17_0
                                    try clear hcz17_1
                                    try clear hcz17_2
                                    try clear hcz21_0
                                    try clear hcz21_1
                                    try clear hcz21_2
                                    try clear hcz30_0
                                    try clear hcz30_1
                                    try clear hcz30_2
                                    try clear hcz33_0
                                    try clear hcz33_1
                                    try clear hcz33_2
                                    try clear hcz35_0
                                    try clear hcz35_1
                                    try clear hcz35_2
                                    try clear hcz37_0
                                    try clear hcz37_1
                                    try clear hcz37_2
                                    try clear hcz39_0
                                    try clear hcz39_1
                                    try clear hcz39_2
                                    try clear hcz43_0
                                    try clear hcz43_1
                                    try clear hcz43_2
                                    try clear hcz46_0
                                    try clear hcz46_1
                                    try clear hcz46_2
                                    try clear hfz17_0
                                    try clear hfz17_1
                                    try clear hfz17_2
                                    try clear hfz21_0
                                    try clear hfz21_1
                                    try clear hfz21_2
                                    try clear hfz30_0
                                    try clear hfz30_1
                                    try clear hfz30_2
                                    try clear hfz33_0
                                    try clear hfz33_1
                                    try clear hfz33_2
                                    try clear hfz35_0
                                    try clear hfz35_1
                                    try clear hfz35_2
                                    try clear hfz37_0
                                    try clear hfz37_1
                                    try clear hfz37_2
                                    try clear hfz39_0
                                    try clear hfz39_1
                                    try clear hfz39_2
                                    try clear hfz43_0
                                    try clear hfz43_1
                                    try clear hfz43_2
                                    try clear hfz46_0
                                    try clear hfz46_1
                                    try clear hfz46_2
                                    try clear hx347_0
                                    try clear hx348_0
                                    try clear p2
                                    try clear p3
                                    try clear p34
                                    try clear p347
                                    try clear p348
                                    try clear q3
                                    try clear q34
                                    try clear q347
                                    try clear q348
                                    obtain ⟨x12_6, x161_6, rfl, rfl, HA, HK6, HO_159, BK339, HB⟩ := hrel
                                    cases gk with
                                    | zero => exact absurd HA.out (by simp [heraldlaw24_CoupleSame.l0])
                                    | succ k6 =>
                                      have H := HA.out
                                      clear HA
                                      simp only [heraldlaw24_CoupleSame.l0] at H
                                      by_cases c62 : x161_6 < (t353.length : Int)
                                      · rw [if_pos c62] at H
                                        have c62b0 : decide (x161_6 < (t353.length : Int)) = true := decide_eq_true c62
                                        clear c62
                                        by_cases c63 : 0 ≤ x161_6
                                        · rw [if_pos c63] at H
                                          have c63b0 : decide (0 ≤ x161_6) = true := decide_eq_true c63
                                          clear c63
                                          by_cases c64 : x161_6 < (t353.length : Int)
                                          · rw [if_pos c64] at H
                                            have c64b0 : decide (x161_6 < (t353.length : Int)) = true := decide_eq_true c64
                                            clear c64
                                            by_cases c65 : (rd t353 x161_6) < 0
                                            · rw [if_pos c65] at H
                                              have c65b0 : decide ((rd t353 x161_6) < 0) = true := decide_eq_true c65
                                              clear c65
                                              obtain rfl := Option.some.inj H
                                              have p357 : 0 ≤ (x161_6 : Int) := of_decide_eq_true (by first | (with_reducible assumption) | assumption)
                                              have q357 : x161_6 < (t353.length : Int) := of_decide_eq_true (by first | (with_reducible assumption) | assumption)
                                              obtain ⟨ad357, e357, hx357_0⟩ := Kd.at_int (Kd.R_reads' HO_159.out).2.2 x161_6 p357 q357
                                              cases e357
                                              replace p357 := eq_true p357
                                              replace q357 := eq_true q357
                                              go_wp2
                                              go_ret
                                              exact ⟨by first | rfl | (simp [errW_none, errW_some] <;> rfl) | (simp [*, errW_none, errW_some] <;> rfl), by repeat (first | (with_reducible first | exact HB.out | apply below_alloc | apply pw_below_drewN | apply below_drew1 | refine below_set ?_ GE339.out) | exact HB.out)⟩
                                            · rw [if_neg c65] at H
                                              have c65b0 : decide ((rd t353 x161_6) < 0) = false := decide_eq_false c65
                                              clear c65
                                              by_cases c66 : x161_6 < (l0.length : Int)
                                              · rw [if_pos c66] at H
                                                have c66b0 : decide (x161_6 < (l0.length : Int)) = true := decide_eq_true c66
                                                clear c66
                                                by_cases c67 : (rd t353 x161_6) > (rd l0 x161_6)
                                                · rw [if_pos c67] at H
                                                  have c67b0 : decide ((rd l0 x161_6) < (rd t353 x161_6)) = true := decide_eq_true c67
                                                  clear c67
                                                  obtain rfl := Option.some.inj H
                                                  have p357 : 0 ≤ (x161_6 : Int) := of_decide_eq_true (by first | (with_reducible assumption) | assumption)
                                                  have q357 : x161_6 < (t353.length : Int) := of_decide_eq_true (by first | (with_reducible assumption) | assumption)
                                                  obtain ⟨ad357, e357, hx357_0⟩ := Kd.at_int (Kd.R_reads' HO_159.out).2.2 x161_6 p357 q357
                                                  cases e357
                                                  replace p357 := eq_true p357
                                                  replace q357 := eq_true q357
                                                  have p358 : 0 ≤ (x161_6 : Int) := of_decide_eq_true (by first | (with_reducible assumption) | assumption)
                                                  have q358 : x161_6 < (l0.length : Int) := of_decide_eq_true (by first | (with_reducible assumption) | assumption)
                                                  obtain ⟨ad358, e358, hx358_0⟩ := Kd.at_int HR0.out x161_6 p358 q358
                                                  cases e358
                                                  replace hx358_0 := (HB.out.cell (World.block_lt_of_cell? w _ hx358_0)).trans hx358_0
                                                  replace p358 := eq_true p358
                                                  replace q358 := eq_true q358
                                                  go_wp2
                                                  go_ret
                                                  exact ⟨by first | rfl | (simp [errW_none, errW_some] <;> rfl) | (simp [*, errW_none, errW_some] <;> rfl), by repeat (first | (with_reducible first | exact HB.out | apply below_alloc | apply pw_below_drewN | apply below_drew1 | refine below_set ?_ GE339.out) | exact HB.out)⟩
                                                · rw [if_neg c67] at H
                                                  have c67b0 : decide ((rd l0 x161_6) < (rd t353 x161_6)) = false := decide_eq_false c67
                                                  clear c67
                                                  have H' := Aside0.mk H
                                                  clear H
                                                  have p357 : 0 ≤ (x161_6 : Int) := of_decide_eq_true (by first | (with_reducible assumption) | assumption)
                                                  have q357 : x161_6 < (t353.length : Int) := of_decide_eq_true (by first | (with_reducible assumption) | assumption)
                                                  obtain ⟨ad357, e357, hx357_0⟩ := Kd.at_int (Kd.R_reads' HO_159.out).2.2 x161_6 p357 q357
                                                  cases e357
                                                  replace p357 := eq_true p357
                                                  replace q357 := eq_true q357
                                                  have p358 : 0 ≤ (x161_6 : Int) := of_decide_eq_true (by first | (with_reducible assumption) | assumption)
                                                  have q358 : x161_6 < (l0.length : Int) := of_decide_eq_true (by first | (with_reducible assumption) | assumption)
                                                  obtain ⟨ad358, e358, hx358_0⟩ := Kd.at_int HR0.out x161_6 p358 q358
                                                  cases e358
                                                  replace hx358_0 := (HB.out.cell (World.block_lt_of_cell? w _ hx358_0)).trans hx358_0
                                                  replace p358 := eq_true p358
                                                  replace q358 := eq_true q358
                                                  go_wp2
                                                  go_roundg k6
                                                  case measure => have := HJ6.out; have := HJ13.out; have := HJ22.out; have := HJ27.out; have := HJ50.out; have := HK6.out; omega
                                                  case rel => exact ⟨(wrap64 (x12_6 + (rd t353 x161_6))), (wrap64 (x161_6 + 1)), (by first | rfl | (simp; done) | (simp [*]; done) | (simp [i64_w]; done) | (simp [*, i64_w]; done)), (by first | rfl | (simp; done) | (simp [*]; done) | (simp [i64_w]; done) | (simp [*, i64_w]; done)), H', ⟨by have := HJ6.out; have := HJ13.out; have := HJ22.out; have := HJ27.out; have := HJ50.out; have := HK6.out; omega⟩, ⟨by (with_reducible repeat (first | apply Kd.R_alloc | apply Kd.R_drewN | apply Kd.R_drew)); exact HO_159.out⟩, ⟨by (with_reducible repeat (first | refine blk_drewN ?_ _ | refine blk_drew ?_ | refine blk_alloc ?_ _)); exact BK339.out⟩, ⟨by repeat (first | (with_reducible first | exact HB.out | apply below_alloc | apply pw_below_drewN | apply below_drew1 | refine below_set ?_ GE339.out) | exact HB.out)⟩⟩
                                              · rw [if_neg c66] at H
                                                exact absurd H (by simp)
                                          · rw [if_neg c64] at H
                                            exact absurd H (by simp)
                                        · rw [if_neg c63] at H
                                          exact absurd H (by simp)
                                      · rw [if_neg c62] at H
                                        have c62b0 : decide (x161_6 < (t353.length : Int)) = false := decide_eq_false c62
                                        clear c62
                                        obtain rfl := Option.some.inj H
                                        go_wp2
                                        go_ret
                                        exact ⟨by first | rfl | (simp [errW_none, errW_some] <;> rfl) | (simp [*, errW_none, errW_some] <;> rfl), by repeat (first | (with_reducible first | exact HB.out | apply below_alloc | apply pw_below_drewN | apply below_drew1 | refine below_set ?_ GE339.out) | exact HB.out)⟩
  · replace c5 := Bool.eq_false_iff.mpr c5
    subst c5
    have H1 : (some false) = some r := by rw [if_neg (show ¬ (false = true) by decide)] at H; exact H
    clear H
    have H := H1
    clear H1
    obtain rfl := Option.some.inj H
    go_enter Try.func10, Try.ntmps10
    go_wp2_with (first | ((with_reducible refine gate_callee (f := 14) rfl ?_); refine goesL_ (some 18) rfl rfl Try.func14 (by kernel_rfl) rfl #[] rfl (by (try simp only [List.map_toArray, List.map_cons, List.map_nil]); first | done | rfl | (simp only [List.length_drop, List.length_take]; rfl)) ?_; (with_reducible refine (heraldlaw24_awake.calls k  false _ A4.out).mono ?_); rintro e w68 ⟨rfl, hb⟩; refine ⟨_, rfl, ?_⟩; have n0_ := Aside0.mk (below_step (by repeat (first | (with_reducible first | exact HB.out | apply below_alloc | apply pw_below_drewN | apply below_drew1) | exact HB.out)) hb); clear HB; have HB := n0_; clear n0_; (try clear hb); (try clear hb2); (try clear hk); (try clear hi)))
    go_ret
    exact ⟨by first | rfl | (simp [errW_none, errW_some] <;> rfl) | (simp [*, errW_none, errW_some] <;> rfl), by repeat (first | (with_reducible first | exact HB.out | apply below_alloc | apply pw_below_drewN | apply below_drew1) | exact HB.out)⟩

/-- THE ONE PURE STATEMENT of heraldlaw24_CoupleSame: yours. -/
def heraldlaw24_CoupleSame.Pure : Prop := ∀ (l0 : List Int) (l1 : List Int) (a2 : Int), l0.length ≤ maxLen → l0.length * 8 ≤ 140737488351232 → (∀ x ∈ l0, (Lit.int .i64 x).wf = true) → l1.length ≤ maxLen → l1.length * 8 ≤ 140737488351232 → (∀ x ∈ l1, (Lit.int .i64 x).wf = true) → (Lit.int .i64 a2).wf = true → ∃ k, heraldlaw24_CoupleSame.f k l0 l1 a2 = some true
theorem heraldlaw24_CoupleSame.walk (P : heraldlaw24_CoupleSame.Pure) (a0 : Option Addr) (len0 cap0 : Nat) (z0 : List Int) (a1 : Option Addr) (len1 cap1 : Nat) (z1 : List Int) (a2 : Int) (w : World) (w0 : (a0 = none ∧ len0 = 0 ∧ cap0 = 0 ∧ z0 = []) ∨ ∃ x, a0 = some x ∧ len0 ≤ cap0 ∧ cap0 ≤ maxLen ∧ z0.length = cap0 ∧ (∀ i, i < z0.length → w.cell? (x.add i) = some (.int .i64 (z0.getD i 0))) ∧ ∀ n ∈ z0, (Lit.int .i64 n).wf = true) (y0 : len0 * 8 ≤ 140737488351232) (w1 : (a1 = none ∧ len1 = 0 ∧ cap1 = 0 ∧ z1 = []) ∨ ∃ x, a1 = some x ∧ len1 ≤ cap1 ∧ cap1 ≤ maxLen ∧ z1.length = cap1 ∧ (∀ i, i < z1.length → w.cell? (x.add i) = some (.int .i64 (z1.getD i 0))) ∧ ∀ n ∈ z1, (Lit.int .i64 n).wf = true) (y1 : len1 * 8 ≤ 140737488351232) (w2 : (Lit.int .i64 a2).wf = true) :
    Calls Try.prog 10 #[.slice a0 len0 cap0, .slice a1 len1 cap1, .int .i64 a2] w fun e w' => e = .returned (.bool true) ∧ Below w.heap.size w w' := by
  obtain ⟨l0, rfl, hr0, hm0, hw0, hc0⟩ := ReadsInt.ofRowC w0
  obtain ⟨l1, rfl, hr1, hm1, hw1, hc1⟩ := ReadsInt.ofRowC w1
  obtain ⟨k, h⟩ := P l0 l1 a2 hm0 y0 hw0 hm1 y1 hw1 w2
  refine (heraldlaw24_CoupleSame.calls k _ _ l0 _ _ l1 a2 true w (Kd.C_of_reads (d := (0 : Int)) (h1 := fun _ => rfl) hr0) hc0 (Kd.C_of_reads (d := (0 : Int)) (h1 := fun _ => rfl) hr1) hc1 h).mono ?_
  rintro e w' ⟨rfl, hd⟩
  exact ⟨rfl, hd⟩

end Go.Proofs.Ytldbdifdldmgfaa.PAll
