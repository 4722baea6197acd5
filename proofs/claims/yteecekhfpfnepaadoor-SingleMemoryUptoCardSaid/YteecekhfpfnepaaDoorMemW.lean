-- Written by a program of this session out of the translation, the growing patched by hand. Lean checks it.
import Derived.Test.YteecekhfpfnepaaDoorMgQ2
import Derived.Test.YteecekhfpfnepaaDoorMemB
namespace Go.Proofs.YteecekhfpfnepaaDoor.PAll
open Go.Proofs.YteecekhfpfnepaaDoor.Mem
open Go.RowKit Go.Proofs.YteecekhfpfnepaaDoorW.PrintWords Go.Proofs.YteecekhfpfnepaaDoorW.PrintLast Go.Proofs.YteecekhfpfnepaaDoorW.PrintMore
attribute [local go_sem] max2_int min2_int max_two min_two max_three min_three max_four min_four   -- for this text's walks alone
set_option linter.unusedVariables false
set_option linter.unusedSimpArgs false

/-! ### heraldlaw03_SingleMemory: function 7 -/
mutual
def heraldlaw03_SingleMemory.l0 : Nat → List Int → List Int → Int → List (List Int) → Int → Option (Bool)
  | 0, _, _, _, _, _ => none
  | k + 1, x0, x3, x5, x6, x7 => if x7 < 3 then ((single_Quantise.f k x0).bind fun bt340 => ((heraldlaw03_rows.f k bt340.1 x3).bind fun t345 => (if t345 = true then (if bt340.2.2 = x5 then (if x6.length < 5864062014805 then (heraldlaw03_SingleMemory.l0 k x0 x3 x5 (x6 ++ [bt340.1]) (wrap64 (x7 + 1))) else (none)) else (some false)) else (some false)))) else (heraldlaw03_SingleMemory.l1 k x0 x3 x6 0)
def heraldlaw03_SingleMemory.l1 : Nat → List Int → List Int → List (List Int) → Int → Option (Bool)
  | 0, _, _, _, _ => none
  | k + 1, x0, x3, x6, x11 => if x11 < 3 then (heraldlaw03_SingleMemory.l2 k x0 x3 x6 x11 0) else (heraldlaw03_SingleMemory.l3 k x0 x3 x6 0)
def heraldlaw03_SingleMemory.l2 : Nat → List Int → List Int → List (List Int) → Int → Int → Option (Bool)
  | 0, _, _, _, _, _ => none
  | k + 1, x0, x3, x6, x11, x12 => if 0 ≤ x11 then (if x11 < (x6.length : Int) then (if x12 < ((rd_L5 x6 x11).length : Int) then (if 0 ≤ x12 then (heraldlaw03_SingleMemory.l2 k x0 x3 (x6.set (x11 : Int).toNat ((rd_L5 x6 x11).set (x12 : Int).toNat (IntKind.i8.wrap (wrap64 (x11 - 1))))) x11 (wrap64 (x12 + 1))) else (none)) else (heraldlaw03_SingleMemory.l1 k x0 x3 x6 (wrap64 (x11 + 1)))) else (none)) else (none)
def heraldlaw03_SingleMemory.l3 : Nat → List Int → List Int → List (List Int) → Int → Option (Bool)
  | 0, _, _, _, _ => none
  | k + 1, x0, x3, x6, x13 => if x13 < 3 then (if 0 ≤ x13 then (if x13 < (x6.length : Int) then (heraldlaw03_SingleMemory.l4 k x0 x3 x6 x13 (rd_L5 x6 x13) 0) else (none)) else (none)) else (heraldlaw03_SingleMemory.l5 k x0 x3 x6 0)
def heraldlaw03_SingleMemory.l4 : Nat → List Int → List Int → List (List Int) → Int → List Int → Int → Option (Bool)
  | 0, _, _, _, _, _, _ => none
  | k + 1, x0, x3, x6, x13, x14, x15 => if x15 < 20 then (if x14.length < 140737488355328 then (heraldlaw03_SingleMemory.l4 k x0 x3 x6 x13 (x14 ++ [77]) (wrap64 (x15 + 1))) else (none)) else (heraldlaw03_SingleMemory.l3 k x0 x3 x6 (wrap64 (x13 + 1)))
def heraldlaw03_SingleMemory.l5 : Nat → List Int → List Int → List (List Int) → Int → Option (Bool)
  | 0, _, _, _, _ => none
  | k + 1, x0, x3, x6, x16 => if x16 < 3 then (heraldlaw03_SingleMemory.l6 k x0 x3 x6 x16 0) else ((single_Quantise.f k x0).bind fun bt361 => ((heraldlaw03_awake.f k).bind fun t366 => (if t366 = true then ((heraldlaw03_rows.f k bt361.1 x3).bind fun t367 => (some t367)) else (some false))))
def heraldlaw03_SingleMemory.l6 : Nat → List Int → List Int → List (List Int) → Int → Int → Option (Bool)
  | 0, _, _, _, _, _ => none
  | k + 1, x0, x3, x6, x16, x17 => if 0 ≤ x16 then (if x16 < (x6.length : Int) then (if x17 < ((rd_L5 x6 x16).length : Int) then (if 0 ≤ x17 then (if (rd (rd_L5 x6 x16) x17) = (IntKind.i8.wrap (wrap64 (x16 - 1))) then (heraldlaw03_SingleMemory.l6 k x0 x3 x6 x16 (wrap64 (x17 + 1))) else (some false)) else (none)) else (heraldlaw03_SingleMemory.l5 k x0 x3 x6 (wrap64 (x16 + 1)))) else (none)) else (none)
end
def heraldlaw03_SingleMemory.f (k : Nat) (l0 : List Int) : Option (Bool) := (some (([] : List Int) : List Int)).bind fun y326 => (if y326.length + l0.length < 35184372088832 then ((heraldref03_Quantise.f k (y326 ++ l0)).bind fun bt332 => (heraldlaw03_SingleMemory.l0 k l0 bt332.1 bt332.2.2 (([] : List (List Int))) 0)) else (none))
theorem heraldlaw03_SingleMemory.mono_l : ∀ k, (∀ y0 y1 y2 y3 y4, LeO (heraldlaw03_SingleMemory.l0 k y0 y1 y2 y3 y4) (heraldlaw03_SingleMemory.l0 (k + 1) y0 y1 y2 y3 y4)) ∧ (∀ y0 y1 y2 y3, LeO (heraldlaw03_SingleMemory.l1 k y0 y1 y2 y3) (heraldlaw03_SingleMemory.l1 (k + 1) y0 y1 y2 y3)) ∧ (∀ y0 y1 y2 y3 y4, LeO (heraldlaw03_SingleMemory.l2 k y0 y1 y2 y3 y4) (heraldlaw03_SingleMemory.l2 (k + 1) y0 y1 y2 y3 y4)) ∧ (∀ y0 y1 y2 y3, LeO (heraldlaw03_SingleMemory.l3 k y0 y1 y2 y3) (heraldlaw03_SingleMemory.l3 (k + 1) y0 y1 y2 y3)) ∧ (∀ y0 y1 y2 y3 y4 y5, LeO (heraldlaw03_SingleMemory.l4 k y0 y1 y2 y3 y4 y5) (heraldlaw03_SingleMemory.l4 (k + 1) y0 y1 y2 y3 y4 y5)) ∧ (∀ y0 y1 y2 y3, LeO (heraldlaw03_SingleMemory.l5 k y0 y1 y2 y3) (heraldlaw03_SingleMemory.l5 (k + 1) y0 y1 y2 y3)) ∧ (∀ y0 y1 y2 y3 y4, LeO (heraldlaw03_SingleMemory.l6 k y0 y1 y2 y3 y4) (heraldlaw03_SingleMemory.l6 (k + 1) y0 y1 y2 y3 y4))
  | 0 => ⟨fun _ _ _ _ _ r h => by simp [heraldlaw03_SingleMemory.l0] at h, fun _ _ _ _ r h => by simp [heraldlaw03_SingleMemory.l1] at h, fun _ _ _ _ _ r h => by simp [heraldlaw03_SingleMemory.l2] at h, fun _ _ _ _ r h => by simp [heraldlaw03_SingleMemory.l3] at h, fun _ _ _ _ _ _ r h => by simp [heraldlaw03_SingleMemory.l4] at h, fun _ _ _ _ r h => by simp [heraldlaw03_SingleMemory.l5] at h, fun _ _ _ _ _ r h => by simp [heraldlaw03_SingleMemory.l6] at h⟩
  | k + 1 => by
    obtain ⟨ih0, ih1, ih2, ih3, ih4, ih5, ih6⟩ := heraldlaw03_SingleMemory.mono_l k
    refine ⟨?_, ?_, ?_, ?_, ?_, ?_, ?_⟩
    · intro y0 y1 y2 y3 y4
      unfold heraldlaw03_SingleMemory.l0
      repeat' first
      | (with_reducible exact ih0 _ _ _ _ _)
      | (with_reducible exact ih1 _ _ _ _)
      | (with_reducible exact ih2 _ _ _ _ _)
      | (with_reducible exact ih3 _ _ _ _)
      | (with_reducible exact ih4 _ _ _ _ _ _)
      | (with_reducible exact ih5 _ _ _ _)
      | (with_reducible exact ih6 _ _ _ _ _)
      | (with_reducible exact heraldlaw03_awake.mono _)
      | (with_reducible exact heraldlaw03_rows.mono _ _ _)
      | (with_reducible exact heraldref03_Quantise.mono _ _)
      | (with_reducible exact single_Quantise.mono _ _)
      | (with_reducible exact LeO.refl _)
      | (with_reducible exact LeO.none _)
      | (with_reducible refine LeO.ite ?_ ?_)
      | (with_reducible refine LeO.bind ?_ (fun _ => ?_))
      | exact ih0 _ _ _ _ _
      | exact ih1 _ _ _ _
      | exact ih2 _ _ _ _ _
      | exact ih3 _ _ _ _
      | exact ih4 _ _ _ _ _ _
      | exact ih5 _ _ _ _
      | exact ih6 _ _ _ _ _
      | exact heraldlaw03_awake.mono _
      | exact heraldlaw03_rows.mono _ _ _
      | exact heraldref03_Quantise.mono _ _
      | exact single_Quantise.mono _ _
      | exact LeO.none _
      | refine LeO.ite ?_ ?_
      | refine LeO.bind ?_ (fun _ => ?_)
    · intro y0 y1 y2 y3
      unfold heraldlaw03_SingleMemory.l1
      repeat' first
      | (with_reducible exact ih0 _ _ _ _ _)
      | (with_reducible exact ih1 _ _ _ _)
      | (with_reducible exact ih2 _ _ _ _ _)
      | (with_reducible exact ih3 _ _ _ _)
      | (with_reducible exact ih4 _ _ _ _ _ _)
      | (with_reducible exact ih5 _ _ _ _)
      | (with_reducible exact ih6 _ _ _ _ _)
      | (with_reducible exact heraldlaw03_awake.mono _)
      | (with_reducible exact heraldlaw03_rows.mono _ _ _)
      | (with_reducible exact heraldref03_Quantise.mono _ _)
      | (with_reducible exact single_Quantise.mono _ _)
      | (with_reducible exact LeO.refl _)
      | (with_reducible exact LeO.none _)
      | (with_reducible refine LeO.ite ?_ ?_)
      | (with_reducible refine LeO.bind ?_ (fun _ => ?_))
      | exact ih0 _ _ _ _ _
      | exact ih1 _ _ _ _
      | exact ih2 _ _ _ _ _
      | exact ih3 _ _ _ _
      | exact ih4 _ _ _ _ _ _
      | exact ih5 _ _ _ _
      | exact ih6 _ _ _ _ _
      | exact heraldlaw03_awake.mono _
      | exact heraldlaw03_rows.mono _ _ _
      | exact heraldref03_Quantise.mono _ _
      | exact single_Quantise.mono _ _
      | exact LeO.none _
      | refine LeO.ite ?_ ?_
      | refine LeO.bind ?_ (fun _ => ?_)
    · intro y0 y1 y2 y3 y4
      unfold heraldlaw03_SingleMemory.l2
      repeat' first
      | (with_reducible exact ih0 _ _ _ _ _)
      | (with_reducible exact ih1 _ _ _ _)
      | (with_reducible exact ih2 _ _ _ _ _)
      | (with_reducible exact ih3 _ _ _ _)
      | (with_reducible exact ih4 _ _ _ _ _ _)
      | (with_reducible exact ih5 _ _ _ _)
      | (with_reducible exact ih6 _ _ _ _ _)
      | (with_reducible exact heraldlaw03_awake.mono _)
      | (with_reducible exact heraldlaw03_rows.mono _ _ _)
      | (with_reducible exact heraldref03_Quantise.mono _ _)
      | (with_reducible exact single_Quantise.mono _ _)
      | (with_reducible exact LeO.refl _)
      | (with_reducible exact LeO.none _)
      | (with_reducible refine LeO.ite ?_ ?_)
      | (with_reducible refine LeO.bind ?_ (fun _ => ?_))
      | exact ih0 _ _ _ _ _
      | exact ih1 _ _ _ _
      | exact ih2 _ _ _ _ _
      | exact ih3 _ _ _ _
      | exact ih4 _ _ _ _ _ _
      | exact ih5 _ _ _ _
      | exact ih6 _ _ _ _ _
      | exact heraldlaw03_awake.mono _
      | exact heraldlaw03_rows.mono _ _ _
      | exact heraldref03_Quantise.mono _ _
      | exact single_Quantise.mono _ _
      | exact LeO.none _
      | refine LeO.ite ?_ ?_
      | refine LeO.bind ?_ (fun _ => ?_)
    · intro y0 y1 y2 y3
      unfold heraldlaw03_SingleMemory.l3
      repeat' first
      | (with_reducible exact ih0 _ _ _ _ _)
      | (with_reducible exact ih1 _ _ _ _)
      | (with_reducible exact ih2 _ _ _ _ _)
      | (with_reducible exact ih3 _ _ _ _)
      | (with_reducible exact ih4 _ _ _ _ _ _)
      | (with_reducible exact ih5 _ _ _ _)
      | (with_reducible exact ih6 _ _ _ _ _)
      | (with_reducible exact heraldlaw03_awake.mono _)
      | (with_reducible exact heraldlaw03_rows.mono _ _ _)
      | (with_reducible exact heraldref03_Quantise.mono _ _)
      | (with_reducible exact single_Quantise.mono _ _)
      | (with_reducible exact LeO.refl _)
      | (with_reducible exact LeO.none _)
      | (with_reducible refine LeO.ite ?_ ?_)
      | (with_reducible refine LeO.bind ?_ (fun _ => ?_))
      | exact ih0 _ _ _ _ _
      | exact ih1 _ _ _ _
      | exact ih2 _ _ _ _ _
      | exact ih3 _ _ _ _
      | exact ih4 _ _ _ _ _ _
      | exact ih5 _ _ _ _
      | exact ih6 _ _ _ _ _
      | exact heraldlaw03_awake.mono _
      | exact heraldlaw03_rows.mono _ _ _
      | exact heraldref03_Quantise.mono _ _
      | exact single_Quantise.mono _ _
      | exact LeO.none _
      | refine LeO.ite ?_ ?_
      | refine LeO.bind ?_ (fun _ => ?_)
    · intro y0 y1 y2 y3 y4 y5
      unfold heraldlaw03_SingleMemory.l4
      repeat' first
      | (with_reducible exact ih0 _ _ _ _ _)
      | (with_reducible exact ih1 _ _ _ _)
      | (with_reducible exact ih2 _ _ _ _ _)
      | (with_reducible exact ih3 _ _ _ _)
      | (with_reducible exact ih4 _ _ _ _ _ _)
      | (with_reducible exact ih5 _ _ _ _)
      | (with_reducible exact ih6 _ _ _ _ _)
      | (with_reducible exact heraldlaw03_awake.mono _)
      | (with_reducible exact heraldlaw03_rows.mono _ _ _)
      | (with_reducible exact heraldref03_Quantise.mono _ _)
      | (with_reducible exact single_Quantise.mono _ _)
      | (with_reducible exact LeO.refl _)
      | (with_reducible exact LeO.none _)
      | (with_reducible refine LeO.ite ?_ ?_)
      | (with_reducible refine LeO.bind ?_ (fun _ => ?_))
      | exact ih0 _ _ _ _ _
      | exact ih1 _ _ _ _
      | exact ih2 _ _ _ _ _
      | exact ih3 _ _ _ _
      | exact ih4 _ _ _ _ _ _
      | exact ih5 _ _ _ _
      | exact ih6 _ _ _ _ _
      | exact heraldlaw03_awake.mono _
      | exact heraldlaw03_rows.mono _ _ _
      | exact heraldref03_Quantise.mono _ _
      | exact single_Quantise.mono _ _
      | exact LeO.none _
      | refine LeO.ite ?_ ?_
      | refine LeO.bind ?_ (fun _ => ?_)
    · intro y0 y1 y2 y3
      unfold heraldlaw03_SingleMemory.l5
      repeat' first
      | (with_reducible exact ih0 _ _ _ _ _)
      | (with_reducible exact ih1 _ _ _ _)
      | (with_reducible exact ih2 _ _ _ _ _)
      | (with_reducible exact ih3 _ _ _ _)
      | (with_reducible exact ih4 _ _ _ _ _ _)
      | (with_reducible exact ih5 _ _ _ _)
      | (with_reducible exact ih6 _ _ _ _ _)
      | (with_reducible exact heraldlaw03_awake.mono _)
      | (with_reducible exact heraldlaw03_rows.mono _ _ _)
      | (with_reducible exact heraldref03_Quantise.mono _ _)
      | (with_reducible exact single_Quantise.mono _ _)
      | (with_reducible exact LeO.refl _)
      | (with_reducible exact LeO.none _)
      | (with_reducible refine LeO.ite ?_ ?_)
      | (with_reducible refine LeO.bind ?_ (fun _ => ?_))
      | exact ih0 _ _ _ _ _
      | exact ih1 _ _ _ _
      | exact ih2 _ _ _ _ _
      | exact ih3 _ _ _ _
      | exact ih4 _ _ _ _ _ _
      | exact ih5 _ _ _ _
      | exact ih6 _ _ _ _ _
      | exact heraldlaw03_awake.mono _
      | exact heraldlaw03_rows.mono _ _ _
      | exact heraldref03_Quantise.mono _ _
      | exact single_Quantise.mono _ _
      | exact LeO.none _
      | refine LeO.ite ?_ ?_
      | refine LeO.bind ?_ (fun _ => ?_)
    · intro y0 y1 y2 y3 y4
      unfold heraldlaw03_SingleMemory.l6
      repeat' first
      | (with_reducible exact ih0 _ _ _ _ _)
      | (with_reducible exact ih1 _ _ _ _)
      | (with_reducible exact ih2 _ _ _ _ _)
      | (with_reducible exact ih3 _ _ _ _)
      | (with_reducible exact ih4 _ _ _ _ _ _)
      | (with_reducible exact ih5 _ _ _ _)
      | (with_reducible exact ih6 _ _ _ _ _)
      | (with_reducible exact heraldlaw03_awake.mono _)
      | (with_reducible exact heraldlaw03_rows.mono _ _ _)
      | (with_reducible exact heraldref03_Quantise.mono _ _)
      | (with_reducible exact single_Quantise.mono _ _)
      | (with_reducible exact LeO.refl _)
      | (with_reducible exact LeO.none _)
      | (with_reducible refine LeO.ite ?_ ?_)
      | (with_reducible refine LeO.bind ?_ (fun _ => ?_))
      | exact ih0 _ _ _ _ _
      | exact ih1 _ _ _ _
      | exact ih2 _ _ _ _ _
      | exact ih3 _ _ _ _
      | exact ih4 _ _ _ _ _ _
      | exact ih5 _ _ _ _
      | exact ih6 _ _ _ _ _
      | exact heraldlaw03_awake.mono _
      | exact heraldlaw03_rows.mono _ _ _
      | exact heraldref03_Quantise.mono _ _
      | exact single_Quantise.mono _ _
      | exact LeO.none _
      | refine LeO.ite ?_ ?_
      | refine LeO.bind ?_ (fun _ => ?_)
theorem heraldlaw03_SingleMemory.mono : ∀ a0 k, LeO (heraldlaw03_SingleMemory.f k a0) (heraldlaw03_SingleMemory.f (k + 1) a0) := by
  intro a0 k
  obtain ⟨ih0, ih1, ih2, ih3, ih4, ih5, ih6⟩ := heraldlaw03_SingleMemory.mono_l k
  unfold heraldlaw03_SingleMemory.f
  repeat' first
      | (with_reducible exact ih0 _ _ _ _ _)
      | (with_reducible exact ih1 _ _ _ _)
      | (with_reducible exact ih2 _ _ _ _ _)
      | (with_reducible exact ih3 _ _ _ _)
      | (with_reducible exact ih4 _ _ _ _ _ _)
      | (with_reducible exact ih5 _ _ _ _)
      | (with_reducible exact ih6 _ _ _ _ _)
      | (with_reducible exact heraldlaw03_awake.mono _)
      | (with_reducible exact heraldlaw03_rows.mono _ _ _)
      | (with_reducible exact heraldref03_Quantise.mono _ _)
      | (with_reducible exact single_Quantise.mono _ _)
      | (with_reducible exact LeO.refl _)
      | (with_reducible exact LeO.none _)
      | (with_reducible refine LeO.ite ?_ ?_)
      | (with_reducible refine LeO.bind ?_ (fun _ => ?_))
      | exact ih0 _ _ _ _ _
      | exact ih1 _ _ _ _
      | exact ih2 _ _ _ _ _
      | exact ih3 _ _ _ _
      | exact ih4 _ _ _ _ _ _
      | exact ih5 _ _ _ _
      | exact ih6 _ _ _ _ _
      | exact heraldlaw03_awake.mono _
      | exact heraldlaw03_rows.mono _ _ _
      | exact heraldref03_Quantise.mono _ _
      | exact single_Quantise.mono _ _
      | exact LeO.none _
      | refine LeO.ite ?_ ?_
      | refine LeO.bind ?_ (fun _ => ?_)
set_option maxHeartbeats 8000000 in
set_option maxRecDepth 100000 in
theorem heraldlaw03_SingleMemory.calls (k : Nat) (A0 : Option Addr) (c0 : Nat) (l0 : List Int) (r : Bool) (w : World) (hr0 : Kd.C (Kd.int .u32) w A0 l0.length l0) (hc0 : l0.length ≤ c0) (h : heraldlaw03_SingleMemory.f k l0 = some r) (hTab : Tab w) :
    Calls Tryd.prog 7 #[.slice A0 l0.length c0] w fun e w' => e = .returned (.bool r) ∧ Below w.heap.size w w' := by
  have HTab := Aside0.mk hTab
  clear hTab
  have HR0 := Aside0.mk hr0
  have HC0 := Aside0.mk hc0
  clear hr0 hc0
  have HB := Aside0.mk (Below.refl w.heap.size w)
  have H : ((some (([] : List Int) : List Int)).bind fun y326 => (if y326.length + l0.length < 35184372088832 then ((heraldref03_Quantise.f k (y326 ++ l0)).bind fun bt332 => (heraldlaw03_SingleMemory.l0 k l0 bt332.1 bt332.2.2 (([] : List (List Int))) 0)) else (none))) = some r := h
  clear h
  obtain ⟨y326, hy326⟩ : ∃ y_ : List Int, y_ = (([] : List Int)) := ⟨_, rfl⟩
  replace H : (if y326.length + l0.length < 35184372088832 then ((heraldref03_Quantise.f k (y326 ++ l0)).bind fun bt332 => (heraldlaw03_SingleMemory.l0 k l0 bt332.1 bt332.2.2 (([] : List (List Int))) 0)) else (none)) = some r := by first | (rw [hy326]; with_reducible exact H) | (have H2_ := (Option.bind_some _ _).symm.trans H; rw [hy326]; with_reducible exact H2_) | (have H2_ := (Option.bind_some _ _).symm.trans H; with_reducible exact H2_) | with_reducible exact H | (rw [hy326]; exact H) | exact H
  have Ny326 := Aside0.mk hy326
  clear hy326
  by_cases c2 : y326.length + l0.length < 35184372088832
  · rw [if_pos c2] at H
    have LMc2 := Aside0.mk c2
    clear c2
    obtain ⟨y329, hy329⟩ : ∃ y_ : List Int, y_ = (y326 ++ l0) := ⟨_, rfl⟩
    replace H : ((heraldref03_Quantise.f k y329).bind fun bt332 => (heraldlaw03_SingleMemory.l0 k l0 bt332.1 bt332.2.2 (([] : List (List Int))) 0)) = some r := by first | (rw [hy329]; with_reducible exact H) | (have H2_ := (Option.bind_some _ _).symm.trans H; rw [hy329]; with_reducible exact H2_) | (have H2_ := (Option.bind_some _ _).symm.trans H; with_reducible exact H2_) | with_reducible exact H | (rw [hy329]; exact H) | exact H
    have Ny329 := Aside0.mk hy329
    clear hy329
    replace H := Option.bind_eq_some_iff.mp H
    obtain ⟨⟨t332, t333, t334⟩, A30, H⟩ := H
    replace H : (heraldlaw03_SingleMemory.l0 k l0 t332 t334 (([] : List (List Int))) 0) = some r := H
    have A3 := Aside0.mk A30
    clear A30
    obtain ⟨y337, hy337⟩ : ∃ y_ : List (List Int), y_ = (([] : List (List Int))) := ⟨_, rfl⟩
    replace H : (heraldlaw03_SingleMemory.l0 k l0 t332 t334 y337 0) = some r := by first | (rw [hy337]; with_reducible exact H) | (have H2_ := (Option.bind_some _ _).symm.trans H; rw [hy337]; with_reducible exact H2_) | (have H2_ := (Option.bind_some _ _).symm.trans H; with_reducible exact H2_) | with_reducible exact H | (rw [hy337]; exact H) | exact H
    have Ny337 := Aside0.mk hy337
    clear hy337
    have H' := Aside0.mk H
    clear H
    go_enter Tryd.func7, Tryd.ntmps7
    go_wp2_with (first | ((with_reducible refine gate_dst (N := 22) rfl ?_); refine Kd.R_lit (Kd.int .u32) _ 22 ?hg (N := 22) ?hd (xs := ([] : List Int)) (inner := []) (ok := fun _ => True) (okp := fun _ => True) ?hr ?hp (fun _ hk => hk) trivial (Below.refl _ _) (Nat.le_refl _) (by simp) ?_; (case hd => rfl); (case hg => rfl); (case hr => first | (go_simp; done) | (go_simp; rfl)); (case hp => exact (Reps.none _ _)); intro v327 w4 ho5 hb hg_ hnew_; clear hg_ hnew_; (first | rw [← Ny326.out] at ho5 | (simp only [Int.reduceToNat] at ho5; rw [← Ny326.out] at ho5)); have n0_ := Aside0.mk (Kd.R_lower ho5 (below_size (by repeat (first | (with_reducible first | exact HB.out | apply below_alloc | apply pw_below_drewN | apply below_drew1) | exact HB.out)))); have n1_ := Aside0.mk (below_step (by repeat (first | (with_reducible first | exact HB.out | apply below_alloc | apply pw_below_drewN | apply below_drew1) | exact HB.out)) hb); clear HB; have HO328 := n0_; have HB := n1_; clear n0_ n1_; clear hb ho5) | ((with_reducible refine gate_builtin (b := .append) (xs := #[.tmp 22, .tmp 23]) rfl ?_); at_builtin; refine Kd.R_append_rows (Kd.int .u32) (w0 := w) w.heap.size rfl (.tmp 22) (.tmp 23) 31 22 (.int .u32 0) 4 rfl Tryd.underlying31 info22 rfl (by decide) (by omega) v327 y326 l0 _ _ _ (fun _ => True) (fun _ => False) rfl rfl ?aO ?aR (fun _ _ h => h) (fun _ h => h.elim) ?aF ?aB ?aS ?aL ?_; (case aR => repeat (first | exact (Kd.C_below HR0.out HB.out) | (with_reducible refine Kd.C_alloc ?_ _) | (with_reducible refine Kd.C_drewN ?_ _) | (with_reducible refine Kd.C_drew ?_))); (case aB => exact (by repeat (first | (with_reducible first | exact HB.out | apply below_alloc | apply pw_below_drewN | apply below_drew1) | exact HB.out))); (case aF => exact (fun _ _ => trivial)); (case aO => exact (by (with_reducible repeat (first | apply Kd.R_alloc | apply Kd.R_drewN | apply Kd.R_drew)); exact HO328.out)); (case aS => exact (below_size (by repeat (first | (with_reducible first | exact HB.out | apply below_alloc | apply pw_below_drewN | apply below_drew1) | exact HB.out)))); (case aL => have := LMc2.out; omega); intro v330 w6 ho hb hg hat; rw [← Ny329.out] at ho; have n0_ := Aside0.mk (hb); have n1_ := Aside0.mk (ho); clear HB; clear HO328; have HB := n0_; have HO331 := n1_; clear n0_ n1_; clear ho hb hg hat; obtain ⟨Ao7, co7, eo7⟩ := Kd.R_slice HO331.out; subst eo7) | ((with_reducible refine gate_callee (f := 22) rfl ?_); refine goesL_ (some 25) rfl rfl Tryd.func22 (by kernel_rfl) rfl #[.slice Ao7 y329.length co7] rfl (by (try simp only [List.map_toArray, List.map_cons, List.map_nil]); first | done | rfl | (simp only [List.length_drop, List.length_take]; rfl)) ?_; (with_reducible refine (heraldref03_Quantise.calls k _ _ y329 t332 t333 t334 _ ?side1 ?side2 A3.out).mono ?_); (case side1 => repeat (first | exact (Kd.R_reads' HO331.out).2.2 | (with_reducible refine Kd.C_alloc ?_ _) | (with_reducible refine Kd.C_drewN ?_ _) | (with_reducible refine Kd.C_drew ?_))); (case side2 => exact (Kd.R_reads' HO331.out).2.1); rintro e w8 ⟨v335, rfl, ho0, hb⟩; refine ⟨_, rfl, ?_⟩; have n0_ := Aside0.mk (Kd.R_below (by (with_reducible repeat (first | apply Kd.R_alloc | apply Kd.R_drewN | apply Kd.R_drew)); exact HO331.out) hb); have n1_ := Aside0.mk (Kd.R_lower ho0 (below_size (by repeat (first | (with_reducible first | exact HB.out | apply below_alloc | apply pw_below_drewN | apply below_drew1) | exact HB.out)))); have n2_ := Aside0.mk (below_step (by repeat (first | (with_reducible first | exact HB.out | apply below_alloc | apply pw_below_drewN | apply below_drew1) | exact HB.out)) hb); clear HO331; clear HB; have HO331 := n0_; have HO336 := n1_; have HB := n2_; clear n0_ n1_ n2_; (try clear hb); (try clear hb2); (try clear hk); (try clear hi); (try clear ho0)) | ((with_reducible refine gate_dst (N := 29) rfl ?_); refine Kd.S_lit (Kd.slice 47 (Kd.int .i8)) _ 32 ?hg (N := 29) ?hd (xs := ([] : List (List Int))) (inner := []) (ok := fun _ => True) (okp := fun _ => True) ?hr ?hp (fun _ hk => hk) trivial (Below.refl _ _) (Nat.le_refl _) (by simp) ?_; (case hd => rfl); (case hg => rfl); (case hr => first | (go_simp; done) | (go_simp; rfl)); (case hp => exact (Reps.none _ _)); intro v338 w9 ho10 hb hg_ hnew_; clear hg_ hnew_; (first | rw [← Ny337.out] at ho10 | (simp only [Int.reduceToNat] at ho10; rw [← Ny337.out] at ho10)); have n0_ := Aside0.mk (Kd.R_below (by (with_reducible repeat (first | apply Kd.R_alloc | apply Kd.R_drewN | apply Kd.R_drew)); exact HO331.out) hb); have n1_ := Aside0.mk (Kd.R_below (by (with_reducible repeat (first | apply Kd.R_alloc | apply Kd.R_drewN | apply Kd.R_drew)); exact HO336.out) hb); have n2_ := Aside0.mk (Kd.S_lower (Kd.S_new' ho10 (Kd.R_lt (by (with_reducible repeat (first | apply Kd.R_alloc | apply Kd.R_drewN | apply Kd.R_drew)); exact HO336.out))) (below_size (by repeat (first | (with_reducible first | exact HB.out | apply below_alloc | apply pw_below_drewN | apply below_drew1) | exact HB.out)))); have n3_ := Aside0.mk (below_step (by repeat (first | (with_reducible first | exact HB.out | apply below_alloc | apply pw_below_drewN | apply below_drew1) | exact HB.out)) hb); clear HO331; clear HO336; clear HB; have HO331 := n0_; have HO336 := n1_; have HO339 := n2_; have HB := n3_; clear n0_ n1_ n2_ n3_; clear hb ho10))
    go_loopg [6, 7] k (fun kq v6 v7 w' => ∃ (x6_1 : List (List Int)) (x7_1 : Int), v7 = .int .i64 x7_1 ∧ Aside0 (heraldlaw03_SingleMemory.l0 kq l0 t332 t334 x6_1 x7_1 = some r) ∧ Aside0 (kq ≤ k) ∧ Aside0 (Kd.R (Kd.int .i8) 47 w' w.heap.size (fun _ => True) v335 t332) ∧ Aside0 (Kd.S (Kd.slice 47 (Kd.int .i8)) 32 w' w.heap.size (fun k_ => some k_ ≠ (v335 : Value).ownBlock) v6 x6_1) ∧ Aside0 (Below w.heap.size w w'))
    case atStart => exact ⟨(y337), (0), (by first | rfl | (simp; done) | (simp [*]; done) | (simp [i64_w]; done) | (simp [*, i64_w]; done)), H', ⟨Nat.le_refl _⟩, ⟨by (with_reducible repeat (first | apply Kd.R_alloc | apply Kd.R_drewN | apply Kd.R_drew)); exact HO336.out⟩, ⟨by (with_reducible repeat (first | apply Kd.S_alloc | apply Kd.S_drewN | apply Kd.S_drew)); exact Kd.S_mono HO339.out (fun _ hk => hk.2)⟩, ⟨by repeat (first | (with_reducible first | exact HB.out | apply below_alloc | apply pw_below_drewN | apply below_drew1) | exact HB.out)⟩⟩
    case round =>
      clear H'
      try clear c2
      try clear p2
      try clear c7
      obtain ⟨x6_1, x7_1, rfl, HA, HK1, HO_3, HO_6, HB⟩ := hrel
      cases gk with
      | zero => exact absurd HA.out (by simp [heraldlaw03_SingleMemory.l0])
      | succ k1 =>
        have H := HA.out
        clear HA
        simp only [heraldlaw03_SingleMemory.l0] at H
        by_cases c11 : x7_1 < 3
        · rw [if_pos c11] at H
          have c11b0 : decide (x7_1 < 3) = true := decide_eq_true c11
          clear c11
          replace H := Option.bind_eq_some_iff.mp H
          obtain ⟨⟨t340, t341, t342⟩, A120, H⟩ := H
          replace H : ((heraldlaw03_rows.f k1 t340 t332).bind fun t345 => (if t345 = true then (if t342 = t334 then (if x6_1.length < 5864062014805 then (heraldlaw03_SingleMemory.l0 k1 l0 t332 t334 (x6_1 ++ [t340]) (wrap64 (x7_1 + 1))) else (none)) else (some false)) else (some false))) = some r := H
          have A12 := Aside0.mk A120
          clear A120
          replace H := Option.bind_eq_some_iff.mp H
          obtain ⟨t345, A130, H⟩ := H
          replace H : (if t345 = true then (if t342 = t334 then (if x6_1.length < 5864062014805 then (heraldlaw03_SingleMemory.l0 k1 l0 t332 t334 (x6_1 ++ [t340]) (wrap64 (x7_1 + 1))) else (none)) else (some false)) else (some false)) = some r := H
          have A13 := Aside0.mk A130
          clear A130
          by_cases c14 : t345 = true
          · subst c14
            have H1 : (if t342 = t334 then (if x6_1.length < 5864062014805 then (heraldlaw03_SingleMemory.l0 k1 l0 t332 t334 (x6_1 ++ [t340]) (wrap64 (x7_1 + 1))) else (none)) else (some false)) = some r := by rw [if_pos rfl] at H; exact H
            clear H
            have H := H1
            clear H1
            by_cases c15 : t342 = t334
            · rw [if_pos c15] at H
              have c15b0 : (t342 == t334) = true := beq_iff_eq.mpr c15
              have c15b1 : (t342 != t334) = false := bne_eq_false_iff_eq.mpr c15
              clear c15
              by_cases c16 : x6_1.length < 5864062014805
              · rw [if_pos c16] at H
                have LMc16 := Aside0.mk c16
                clear c16
                obtain ⟨y346, hy346⟩ : ∃ y_ : List (List Int), y_ = (x6_1 ++ [t340]) := ⟨_, rfl⟩
                replace H : (heraldlaw03_SingleMemory.l0 k1 l0 t332 t334 y346 (wrap64 (x7_1 + 1))) = some r := by first | (rw [hy346]; with_reducible exact H) | (have H2_ := (Option.bind_some _ _).symm.trans H; rw [hy346]; with_reducible exact H2_) | (have H2_ := (Option.bind_some _ _).symm.trans H; with_reducible exact H2_) | with_reducible exact H | (rw [hy346]; exact H) | exact H
                have Ny346 := Aside0.mk hy346
                clear hy346
                have H' := Aside0.mk H
                clear H
                go_wp2_with (first | ((with_reducible refine gate_callee (f := 21) rfl ?_); refine goesL_ (some 36) rfl rfl Tryd.func21 (by kernel_rfl) rfl #[.slice A0 l0.length c0] rfl (by (try simp only [List.map_toArray, List.map_cons, List.map_nil]); first | done | rfl | (simp only [List.length_drop, List.length_take]; rfl)) ?_; (with_reducible refine (single_Quantise.calls k1 _ _ l0 t340 t341 t342 _ ?side1 ?side2 A12.out (by first | exact HTab.out | exact tab_below HTab.out (by repeat (first | (with_reducible first | exact HB.out | apply below_alloc | apply pw_below_drewN | apply below_drew1) | exact HB.out)))).mono ?_); (case side1 => repeat (first | exact (Kd.C_below HR0.out HB.out) | (with_reducible refine Kd.C_alloc ?_ _) | (with_reducible refine Kd.C_drewN ?_ _) | (with_reducible refine Kd.C_drew ?_))); (case side2 => exact HC0.out); rintro e w17 ⟨v343, rfl, ho0, hb⟩; refine ⟨_, rfl, ?_⟩; have n0_ := Aside0.mk (Kd.R_elder' (by (with_reducible repeat (first | apply Kd.R_alloc | apply Kd.R_drewN | apply Kd.R_drew)); exact HO_3.out) (Kd.R_base ho0) hb); have n1_ := Aside0.mk (Kd.S_elder' (by (with_reducible repeat (first | apply Kd.S_alloc | apply Kd.S_drewN | apply Kd.S_drew)); exact HO_6.out) (Kd.R_base ho0) hb); have n2_ := Aside0.mk (Kd.R_lower (Kd.R_new' ho0 (Kd.R_lt (by (with_reducible repeat (first | apply Kd.R_alloc | apply Kd.R_drewN | apply Kd.R_drew)); exact HO_3.out))) (below_size (by repeat (first | (with_reducible first | exact HB.out | apply below_alloc | apply pw_below_drewN | apply below_drew1) | exact HB.out)))); have n3_ := Aside0.mk (below_step (by repeat (first | (with_reducible first | exact HB.out | apply below_alloc | apply pw_below_drewN | apply below_drew1) | exact HB.out)) hb); clear HO_3; clear HO_6; clear HB; have HO_3 := n0_; have HO_6 := n1_; have HO344 := n2_; have HB := n3_; clear n0_ n1_ n2_ n3_; (try clear hb); (try clear hb2); (try clear hk); (try clear hi); (try clear ho0); obtain ⟨Ao18, co18, eo18⟩ := Kd.R_slice HO344.out; subst eo18; obtain ⟨Ao19, co19, eo19⟩ := Kd.R_slice HO_3.out; subst eo19) | ((with_reducible refine gate_callee (f := 19) rfl ?_); refine goesL_ (some 42) rfl rfl Tryd.func19 (by kernel_rfl) rfl #[.slice Ao18 t340.length co18, .slice Ao19 t332.length co19] rfl (by (try simp only [List.map_toArray, List.map_cons, List.map_nil]); first | done | rfl | (simp only [List.length_drop, List.length_take]; rfl)) ?_; (with_reducible refine (heraldlaw03_rows.calls k1 _ _ t340 _ _ t332 true _ ?side1 ?side2 ?side3 ?side4 A13.out).mono ?_); (case side1 => repeat (first | exact (Kd.R_reads' HO344.out).2.2 | (with_reducible refine Kd.C_alloc ?_ _) | (with_reducible refine Kd.C_drewN ?_ _) | (with_reducible refine Kd.C_drew ?_))); (case side2 => exact (Kd.R_reads' HO344.out).2.1); (case side3 => repeat (first | exact (Kd.R_reads' HO_3.out).2.2 | (with_reducible refine Kd.C_alloc ?_ _) | (with_reducible refine Kd.C_drewN ?_ _) | (with_reducible refine Kd.C_drew ?_))); (case side4 => exact (Kd.R_reads' HO_3.out).2.1); rintro e w' ⟨rfl, ⟨nd, rfl⟩⟩; refine ⟨_, rfl, ?_⟩) | ((with_reducible refine gate_builtin (b := .append) (xs := #[.tmp 49, .tmp 51]) rfl ?_); at_builtin; refine Kd.S_append (Kd.slice 47 (Kd.int .i8)) (w0 := w) w.heap.size rfl (.tmp 49) (.tmp 51) 46 32 (.slice none 0 0) 24 rfl Tryd.underlying46 info32 rfl (by decide) (by omega) u6 x6_1 t340 [.slice Ao18 t340.length co18] (fun k_ => some k_ ≠ (.slice Ao19 t332.length co19 : Value).ownBlock) (fun k_ => some k_ = (.slice Ao18 t340.length co18 : Value).ownBlock) rfl rfl ?aP (fun k_ hk_ => ((Kd.R_mono (ok' := fun k_ => ((fun k_ => some k_ ≠ (.slice Ao19 t332.length co19 : Value).ownBlock)) k_ ∧ some k_ ≠ (u6 : Value).ownBlock) (Kd.R_apart' (HO344.out) (Kd.S_typed HO_6.out) (by decide)) (fun k_ hk => ⟨hk.1.2, hk.2⟩))).1 k_ hk_.symm) ?aF ?aO ?aB ?aS ?aL ?_; (case aP => exact Kd.M_row (Kd.R_mono (Kd.R_tight rfl (Kd.R_mono (ok' := fun k_ => ((fun k_ => some k_ ≠ (.slice Ao19 t332.length co19 : Value).ownBlock)) k_ ∧ some k_ ≠ (u6 : Value).ownBlock) (Kd.R_apart' (HO344.out) (Kd.S_typed HO_6.out) (by decide)) (fun k_ hk => ⟨hk.1.2, hk.2⟩))) (fun _ h_ => h_))); (case aB => exact (by repeat (first | (with_reducible first | exact HB.out | apply below_alloc | apply pw_below_drewN | apply below_drew1) | exact HB.out))); (case aF => exact (fun k_ hk => Kd.fresh' (Kd.R_lt (by (with_reducible repeat (first | apply Kd.R_alloc | apply Kd.R_drewN | apply Kd.R_drew)); exact HO_3.out)) k_ hk)); (case aO => exact (by (with_reducible repeat (first | apply Kd.S_alloc | apply Kd.S_drewN | apply Kd.S_drew)); exact Kd.S_mono HO_6.out (fun k_ hk => ⟨hk.1, fun e_ => hk.2 e_⟩))); (case aS => exact (below_size (by repeat (first | (with_reducible first | exact HB.out | apply below_alloc | apply pw_below_drewN | apply below_drew1) | exact HB.out)))); (case aL => have := LMc16.out; omega); intro v347 w20 ho hb hg hat; rw [← Ny346.out] at ho; have n0_ := Aside0.mk (Kd.R_over' (by (with_reducible repeat (first | apply Kd.R_alloc | apply Kd.R_drewN | apply Kd.R_drew)); exact HO_3.out) (Kd.S_typed (by (with_reducible repeat (first | apply Kd.S_alloc | apply Kd.S_drewN | apply Kd.S_drew)); exact HO_6.out)) (by decide) hg); have n1_ := Aside0.mk (hb); have n2_ := Aside0.mk (ho); clear HO_3; clear HB; clear HO_6; clear HO344; have HO_3 := n0_; have HB := n1_; have HO348 := n2_; clear n0_ n1_ n2_; clear ho hb hg hat))
                go_roundg k1
                case measure => have := HK1.out; omega
                case rel => exact ⟨(y346), (wrap64 (x7_1 + 1)), (by first | rfl | (simp; done) | (simp [*]; done) | (simp [i64_w]; done) | (simp [*, i64_w]; done)), H', ⟨by have := HK1.out; omega⟩, ⟨by (with_reducible repeat (first | apply Kd.R_alloc | apply Kd.R_drewN | apply Kd.R_drew)); exact Kd.R_mono HO_3.out (fun _ hk => trivial)⟩, ⟨by (with_reducible repeat (first | apply Kd.S_alloc | apply Kd.S_drewN | apply Kd.S_drew)); exact HO348.out⟩, ⟨by repeat (first | (with_reducible first | exact HB.out | apply below_alloc | apply pw_below_drewN | apply below_drew1) | exact HB.out)⟩⟩
              · rw [if_neg c16] at H
                exact absurd H (by simp)
            · rw [if_neg c15] at H
              have c15b0 : (t342 == t334) = false := beq_eq_false_iff_ne.mpr c15
              have c15b1 : (t342 != t334) = true := bne_iff_ne.mpr c15
              obtain rfl := Option.some.inj H
              go_wp2_with (first | ((with_reducible refine gate_callee (f := 21) rfl ?_); refine goesL_ (some 36) rfl rfl Tryd.func21 (by kernel_rfl) rfl #[.slice A0 l0.length c0] rfl (by (try simp only [List.map_toArray, List.map_cons, List.map_nil]); first | done | rfl | (simp only [List.length_drop, List.length_take]; rfl)) ?_; (with_reducible refine (single_Quantise.calls k1 _ _ l0 t340 t341 t342 _ ?side1 ?side2 A12.out (by first | exact HTab.out | exact tab_below HTab.out (by repeat (first | (with_reducible first | exact HB.out | apply below_alloc | apply pw_below_drewN | apply below_drew1) | exact HB.out)))).mono ?_); (case side1 => repeat (first | exact (Kd.C_below HR0.out HB.out) | (with_reducible refine Kd.C_alloc ?_ _) | (with_reducible refine Kd.C_drewN ?_ _) | (with_reducible refine Kd.C_drew ?_))); (case side2 => exact HC0.out); rintro e w21 ⟨v343, rfl, ho0, hb⟩; refine ⟨_, rfl, ?_⟩; have n0_ := Aside0.mk (Kd.R_elder' (by (with_reducible repeat (first | apply Kd.R_alloc | apply Kd.R_drewN | apply Kd.R_drew)); exact HO_3.out) (Kd.R_base ho0) hb); have n1_ := Aside0.mk (Kd.S_elder' (by (with_reducible repeat (first | apply Kd.S_alloc | apply Kd.S_drewN | apply Kd.S_drew)); exact HO_6.out) (Kd.R_base ho0) hb); have n2_ := Aside0.mk (Kd.R_lower (Kd.R_new' ho0 (Kd.R_lt (by (with_reducible repeat (first | apply Kd.R_alloc | apply Kd.R_drewN | apply Kd.R_drew)); exact HO_3.out))) (below_size (by repeat (first | (with_reducible first | exact HB.out | apply below_alloc | apply pw_below_drewN | apply below_drew1) | exact HB.out)))); have n3_ := Aside0.mk (below_step (by repeat (first | (with_reducible first | exact HB.out | apply below_alloc | apply pw_below_drewN | apply below_drew1) | exact HB.out)) hb); clear HO_3; clear HO_6; clear HB; have HO_3 := n0_; have HO_6 := n1_; have HO344 := n2_; have HB := n3_; clear n0_ n1_ n2_ n3_; (try clear hb); (try clear hb2); (try clear hk); (try clear hi); (try clear ho0); obtain ⟨Ao22, co22, eo22⟩ := Kd.R_slice HO344.out; subst eo22; obtain ⟨Ao23, co23, eo23⟩ := Kd.R_slice HO_3.out; subst eo23) | ((with_reducible refine gate_callee (f := 19) rfl ?_); refine goesL_ (some 42) rfl rfl Tryd.func19 (by kernel_rfl) rfl #[.slice Ao22 t340.length co22, .slice Ao23 t332.length co23] rfl (by (try simp only [List.map_toArray, List.map_cons, List.map_nil]); first | done | rfl | (simp only [List.length_drop, List.length_take]; rfl)) ?_; (with_reducible refine (heraldlaw03_rows.calls k1 _ _ t340 _ _ t332 true _ ?side1 ?side2 ?side3 ?side4 A13.out).mono ?_); (case side1 => repeat (first | exact (Kd.R_reads' HO344.out).2.2 | (with_reducible refine Kd.C_alloc ?_ _) | (with_reducible refine Kd.C_drewN ?_ _) | (with_reducible refine Kd.C_drew ?_))); (case side2 => exact (Kd.R_reads' HO344.out).2.1); (case side3 => repeat (first | exact (Kd.R_reads' HO_3.out).2.2 | (with_reducible refine Kd.C_alloc ?_ _) | (with_reducible refine Kd.C_drewN ?_ _) | (with_reducible refine Kd.C_drew ?_))); (case side4 => exact (Kd.R_reads' HO_3.out).2.1); rintro e w' ⟨rfl, ⟨nd, rfl⟩⟩; refine ⟨_, rfl, ?_⟩))
              go_ret
              exact ⟨by first | rfl | (simp [errW_none, errW_some] <;> rfl) | (simp [*, errW_none, errW_some] <;> rfl), by repeat (first | (with_reducible first | exact HB.out | apply below_alloc | apply pw_below_drewN | apply below_drew1) | exact HB.out)⟩
          · replace c14 := Bool.eq_false_iff.mpr c14
            subst c14
            have H1 : (some false) = some r := by rw [if_neg (show ¬ (false = true) by decide)] at H; exact H
            clear H
            have H := H1
            clear H1
            obtain rfl := Option.some.inj H
            go_wp2_with (first | ((with_reducible refine gate_callee (f := 21) rfl ?_); refine goesL_ (some 36) rfl rfl Tryd.func21 (by kernel_rfl) rfl #[.slice A0 l0.length c0] rfl (by (try simp only [List.map_toArray, List.map_cons, List.map_nil]); first | done | rfl | (simp only [List.length_drop, List.length_take]; rfl)) ?_; (with_reducible refine (single_Quantise.calls k1 _ _ l0 t340 t341 t342 _ ?side1 ?side2 A12.out (by first | exact HTab.out | exact tab_below HTab.out (by repeat (first | (with_reducible first | exact HB.out | apply below_alloc | apply pw_below_drewN | apply below_drew1) | exact HB.out)))).mono ?_); (case side1 => repeat (first | exact (Kd.C_below HR0.out HB.out) | (with_reducible refine Kd.C_alloc ?_ _) | (with_reducible refine Kd.C_drewN ?_ _) | (with_reducible refine Kd.C_drew ?_))); (case side2 => exact HC0.out); rintro e w24 ⟨v343, rfl, ho0, hb⟩; refine ⟨_, rfl, ?_⟩; have n0_ := Aside0.mk (Kd.R_elder' (by (with_reducible repeat (first | apply Kd.R_alloc | apply Kd.R_drewN | apply Kd.R_drew)); exact HO_3.out) (Kd.R_base ho0) hb); have n1_ := Aside0.mk (Kd.S_elder' (by (with_reducible repeat (first | apply Kd.S_alloc | apply Kd.S_drewN | apply Kd.S_drew)); exact HO_6.out) (Kd.R_base ho0) hb); have n2_ := Aside0.mk (Kd.R_lower (Kd.R_new' ho0 (Kd.R_lt (by (with_reducible repeat (first | apply Kd.R_alloc | apply Kd.R_drewN | apply Kd.R_drew)); exact HO_3.out))) (below_size (by repeat (first | (with_reducible first | exact HB.out | apply below_alloc | apply pw_below_drewN | apply below_drew1) | exact HB.out)))); have n3_ := Aside0.mk (below_step (by repeat (first | (with_reducible first | exact HB.out | apply below_alloc | apply pw_below_drewN | apply below_drew1) | exact HB.out)) hb); clear HO_3; clear HO_6; clear HB; have HO_3 := n0_; have HO_6 := n1_; have HO344 := n2_; have HB := n3_; clear n0_ n1_ n2_ n3_; (try clear hb); (try clear hb2); (try clear hk); (try clear hi); (try clear ho0); obtain ⟨Ao25, co25, eo25⟩ := Kd.R_slice HO344.out; subst eo25; obtain ⟨Ao26, co26, eo26⟩ := Kd.R_slice HO_3.out; subst eo26) | ((with_reducible refine gate_callee (f := 19) rfl ?_); refine goesL_ (some 42) rfl rfl Tryd.func19 (by kernel_rfl) rfl #[.slice Ao25 t340.length co25, .slice Ao26 t332.length co26] rfl (by (try simp only [List.map_toArray, List.map_cons, List.map_nil]); first | done | rfl | (simp only [List.length_drop, List.length_take]; rfl)) ?_; (with_reducible refine (heraldlaw03_rows.calls k1 _ _ t340 _ _ t332 false _ ?side1 ?side2 ?side3 ?side4 A13.out).mono ?_); (case side1 => repeat (first | exact (Kd.R_reads' HO344.out).2.2 | (with_reducible refine Kd.C_alloc ?_ _) | (with_reducible refine Kd.C_drewN ?_ _) | (with_reducible refine Kd.C_drew ?_))); (case side2 => exact (Kd.R_reads' HO344.out).2.1); (case side3 => repeat (first | exact (Kd.R_reads' HO_3.out).2.2 | (with_reducible refine Kd.C_alloc ?_ _) | (with_reducible refine Kd.C_drewN ?_ _) | (with_reducible refine Kd.C_drew ?_))); (case side4 => exact (Kd.R_reads' HO_3.out).2.1); rintro e w' ⟨rfl, ⟨nd, rfl⟩⟩; refine ⟨_, rfl, ?_⟩))
            go_ret
            exact ⟨by first | rfl | (simp [errW_none, errW_some] <;> rfl) | (simp [*, errW_none, errW_some] <;> rfl), by repeat (first | (with_reducible first | exact HB.out | apply below_alloc | apply pw_below_drewN | apply below_drew1) | exact HB.out)⟩
        · rw [if_neg c11] at H
          have c11b0 : decide (x7_1 < 3) = false := decide_eq_false c11
          clear c11
          have H' := Aside0.mk H
          clear H
          go_wp2
          go_loopg [11] k1 (fun kq v11 w' => ∃ (x3_2 : List Int) (x6_2 : List (List Int)) (x11_2 : Int), v11 = .int .i64 x11_2 ∧ Aside0 (heraldlaw03_SingleMemory.l1 kq l0 x3_2 x6_2 x11_2 = some r) ∧ Aside0 (kq ≤ k1) ∧ Aside0 (Kd.R (Kd.int .i8) 47 w' w.heap.size (fun _ => True) v335 x3_2) ∧ Aside0 (Kd.S (Kd.slice 47 (Kd.int .i8)) 32 w' w.heap.size (fun k_ => some k_ ≠ (v335 : Value).ownBlock) u6 x6_2) ∧ Aside0 (Below w.heap.size w w'))
          case atStart => exact ⟨(t332), (x6_1), (0), (by first | rfl | (simp; done) | (simp [*]; done) | (simp [i64_w]; done) | (simp [*, i64_w]; done)), H', ⟨Nat.le_refl _⟩, ⟨by (with_reducible repeat (first | apply Kd.R_alloc | apply Kd.R_drewN | apply Kd.R_drew)); exact HO_3.out⟩, ⟨by (with_reducible repeat (first | apply Kd.S_alloc | apply Kd.S_drewN | apply Kd.S_drew)); exact HO_6.out⟩, ⟨by repeat (first | (with_reducible first | exact HB.out | apply below_alloc | apply pw_below_drewN | apply below_drew1) | exact HB.out)⟩⟩
          case round =>
            clear H'
            try clear c1
            try clear c2
            try clear p2
            try clear p6
            try clear c7
            try clear c11
            try clear c11b0
            try clear c14
            try clear c15
            try clear c15b0
            try clear c15b1
            try clear c16
            try clear c19
            try clear c21
            try clear c22
            try clear p2
            obtain ⟨x3_2, x6_2, x11_2, rfl, HA, HK2, HO_3, HO_6, HB⟩ := hrel
            cases gk with
            | zero => exact absurd HA.out (by simp [heraldlaw03_SingleMemory.l1])
            | succ k2 =>
              have H := HA.out
              clear HA
              simp only [heraldlaw03_SingleMemory.l1] at H
              by_cases c27 : x11_2 < 3
              · rw [if_pos c27] at H
                have c27b0 : decide (x11_2 < 3) = true := decide_eq_true c27
                clear c27
                have H' := Aside0.mk H
                clear H
                go_wp2
                go_loopg [12] k2 (fun kq v12 w' => ∃ (x3_3 : List Int) (x6_3 : List (List Int)) (x12_3 : Int), v12 = .int .i64 x12_3 ∧ Aside0 (heraldlaw03_SingleMemory.l2 kq l0 x3_3 x6_3 x11_2 x12_3 = some r) ∧ Aside0 (kq ≤ k2) ∧ Aside0 (Kd.R (Kd.int .i8) 47 w' w.heap.size (fun _ => True) v335 x3_3) ∧ Aside0 (Kd.S (Kd.slice 47 (Kd.int .i8)) 32 w' w.heap.size (fun k_ => some k_ ≠ (v335 : Value).ownBlock) u6 x6_3) ∧ Aside0 (Below w.heap.size w w'))
                case atStart => exact ⟨(x3_2), (x6_2), (0), (by first | rfl | (simp; done) | (simp [*]; done) | (simp [i64_w]; done) | (simp [*, i64_w]; done)), H', ⟨Nat.le_refl _⟩, ⟨by (with_reducible repeat (first | apply Kd.R_alloc | apply Kd.R_drewN | apply Kd.R_drew)); exact HO_3.out⟩, ⟨by (with_reducible repeat (first | apply Kd.S_alloc | apply Kd.S_drewN | apply Kd.S_drew)); exact HO_6.out⟩, ⟨by repeat (first | (with_reducible first | exact HB.out | apply below_alloc | apply pw_below_drewN | apply below_drew1) | exact HB.out)⟩⟩
                case round =>
                  clear H'
                  try clear c1
                  try clear c2
                  try clear p2
                  try clear p6
                  try clear c7
                  try clear c11
                  try clear c11b0
                  try clear c14
                  try clear c15
                  try clear c15b0
                  try clear c15b1
                  try clear c16
                  try clear c19
                  try clear c21
                  try clear c22
                  try clear c27
                  try clear c27b0
                  try clear p2
                  try clear p6
                  obtain ⟨x3_3, x6_3, x12_3, rfl, HA, HK3, HO_3, HO_6, HB⟩ := hrel
                  cases gk with
                  | zero => exact absurd HA.out (by simp [heraldlaw03_SingleMemory.l2])
                  | succ k3 =>
                    have H := HA.out
                    clear HA
                    simp only [heraldlaw03_SingleMemory.l2] at H
                    by_cases c28 : 0 ≤ x11_2
                    · rw [if_pos c28] at H
                      have c28b0 : decide (0 ≤ x11_2) = true := decide_eq_true c28
                      clear c28
                      by_cases c29 : x11_2 < (x6_3.length : Int)
                      · rw [if_pos c29] at H
                        have c29b0 : decide (x11_2 < (x6_3.length : Int)) = true := decide_eq_true c29
                        clear c29
                        by_cases c30 : x12_3 < ((rd_L5 x6_3 x11_2).length : Int)
                        · rw [if_pos c30] at H
                          have c30b0 : decide (x12_3 < ((rd_L5 x6_3 x11_2).length : Int)) = true := decide_eq_true c30
                          clear c30
                          by_cases c31 : 0 ≤ x12_3
                          · rw [if_pos c31] at H
                            have c31b0 : decide (0 ≤ x12_3) = true := decide_eq_true c31
                            clear c31
                            obtain ⟨y351, hy351⟩ : ∃ y_ : List Int, y_ = ((rd_L5 x6_3 x11_2).set (x12_3 : Int).toNat (IntKind.i8.wrap (wrap64 (x11_2 - 1)))) := ⟨_, rfl⟩
                            replace H : (heraldlaw03_SingleMemory.l2 k3 l0 x3_3 (x6_3.set (x11_2 : Int).toNat y351) x11_2 (wrap64 (x12_3 + 1))) = some r := by first | (rw [hy351]; with_reducible exact H) | (have H2_ := (Option.bind_some _ _).symm.trans H; rw [hy351]; with_reducible exact H2_) | (have H2_ := (Option.bind_some _ _).symm.trans H; with_reducible exact H2_) | with_reducible exact H | (rw [hy351]; exact H) | exact H
                            have Ny351 := Aside0.mk hy351
                            clear hy351
                            obtain ⟨y353, hy353⟩ : ∃ y_ : List (List Int), y_ = (x6_3.set (x11_2 : Int).toNat y351) := ⟨_, rfl⟩
                            replace H : (heraldlaw03_SingleMemory.l2 k3 l0 x3_3 y353 x11_2 (wrap64 (x12_3 + 1))) = some r := by first | (rw [hy353]; with_reducible exact H) | (have H2_ := (Option.bind_some _ _).symm.trans H; rw [hy353]; with_reducible exact H2_) | (have H2_ := (Option.bind_some _ _).symm.trans H; with_reducible exact H2_) | with_reducible exact H | (rw [hy353]; exact H) | exact H
                            have Ny353 := Aside0.mk hy353
                            clear hy353
                            have H' := Aside0.mk H
                            clear H
                            obtain ⟨Ao33, co33, eo33⟩ := Kd.S_slice HO_6.out
                            subst eo33
                            have p349 : 0 ≤ (x11_2 : Int) := of_decide_eq_true (by first | (with_reducible assumption) | assumption)
                            have q349 : x11_2 < (x6_3.length : Int) := of_decide_eq_true (by first | (with_reducible assumption) | assumption)
                            obtain ⟨ad349, A349_0, c349_0, e349, hx349_0, hl349_0, hi349_0⟩ := at_L5 (Kd.S_reads' HO_6.out).2.2 x11_2 p349 q349
                            cases e349
                            obtain ⟨ce349, hce349, hMe349, hcc349⟩ := Kd.S_get HO_6.out [] x11_2 p349 (by first | exact q349 | exact of_decide_eq_true (by first | (with_reducible assumption) | assumption) | (have e_ := (Kd.S_reads' HO_6.out).1; omega))
                            obtain ⟨ve349_0, rfl, ge349_0⟩ := hMe349
                            have hv349_0 := hcc349 0 _ rfl
                            rw [Nat.add_zero, show ((Kd.slice 47 (Kd.int .i8))).sz = 1 from rfl, Nat.mul_one] at hv349_0
                            replace hv349_0 := Option.some.inj (hv349_0.symm.trans hx349_0)
                            rw [hv349_0] at ge349_0
                            have HL349_0 := Aside0.mk (show Kd.R (Kd.int .i8) 47 _ _ _ _ (rd_L5 x6_3 x11_2) from ge349_0)
                            clear hv349_0 ge349_0
                            have HX349_0 := Aside0.mk hx349_0
                            clear hcc349 hce349
                            have HR349_0 := Aside0.mk hi349_0
                            have HC349_0 := Aside0.mk hl349_0
                            clear hi349_0 hl349_0
                            replace p349 := eq_true p349
                            replace q349 := eq_true q349
                            have p350 : 0 ≤ (x11_2 : Int) := of_decide_eq_true (by first | (with_reducible assumption) | assumption)
                            have q350 : x11_2 < (x6_3.length : Int) := of_decide_eq_true (by first | (with_reducible assumption) | assumption)
                            obtain ⟨ad350, A350_0, c350_0, e350, hx350_0, hl350_0, hi350_0⟩ := at_L5 (Kd.S_reads' HO_6.out).2.2 x11_2 p350 q350
                            obtain rfl : ad349 = ad350 := (by injection e350)
                            obtain ⟨ce350, hce350, hMe350, hcc350⟩ := Kd.S_get HO_6.out [] x11_2 p350 (by first | exact q350 | exact of_decide_eq_true (by first | (with_reducible assumption) | assumption) | (have e_ := (Kd.S_reads' HO_6.out).1; omega))
                            obtain ⟨ve350_0, rfl, ge350_0⟩ := hMe350
                            have hv350_0 := hcc350 0 _ rfl
                            rw [Nat.add_zero, show ((Kd.slice 47 (Kd.int .i8))).sz = 1 from rfl, Nat.mul_one] at hv350_0
                            replace hv350_0 := Option.some.inj (hv350_0.symm.trans hx350_0)
                            rw [hv350_0] at ge350_0
                            have HL350_0 := Aside0.mk (show Kd.R (Kd.int .i8) 47 _ _ _ _ (rd_L5 x6_3 x11_2) from ge350_0)
                            clear hv350_0 ge350_0
                            have HX350_0 := Aside0.mk hx350_0
                            clear hcc350 hce350
                            have HR350_0 := Aside0.mk hi350_0
                            have HC350_0 := Aside0.mk hl350_0
                            clear hi350_0 hl350_0
                            replace p350 := eq_true p350
                            replace q350 := eq_true q350
                            have ea_ := Option.some.inj (hx349_0.symm.trans hx350_0)
                            injection ea_ with ea_ en_ ec_
                            subst ea_
                            subst ec_
                            clear en_
                            have p32 : 0 ≤ (x12_3 : Int) := of_decide_eq_true (by first | (with_reducible assumption) | assumption)
                            have q32 : (x12_3 : Int) < (((rd_L5 x6_3 x11_2).length : Int) : Int) := of_decide_eq_true (by first | (with_reducible assumption) | assumption)
                            obtain ⟨go32, co32, eo32, gb32, gl32, cl32, HG32⟩ := Kd.R_form HL350_0.out (by omega)
                            (first | cases eo32 | (injection eo32 with ea_ en_ ec_; (first | subst ea_ | (injection ea_ with ea_; subst ea_)); subst ec_; clear en_))
                            have GB32 := Aside0.mk gb32
                            have GG32 := Aside0.mk HG32
                            clear gb32 gl32 HG32
                            obtain ⟨hx32_0, hf32_0⟩ := Kd.R_celln 0 HL350_0.out (x12_3 : Int) p32 q32
                            replace p32 := eq_true p32
                            replace q32 := eq_true q32
                            have hq34 : (x11_2 : Int) < (x6_3.length : Int) := (by have h_ : (x11_2 : Int) < ((x6_3.length : Int) : Int) := of_decide_eq_true (by first | (with_reducible assumption) | assumption); first | exact h_ | (have e_ := (Kd.S_reads' HO_6.out).1; omega) | simpa only [List.length_set, List.length_set] using h_)
                            obtain ⟨oki34, ce34, hcl34, hM34, hcc34, hok34, hbk34⟩ := Kd.S_borrow HO_6.out [] (x11_2 : Int) (of_decide_eq_true (by first | (with_reducible assumption) | assumption)) hq34
                            obtain ⟨ve34_0, rfl, ge34_0⟩ := hM34
                            have hv34 := hcc34 0 _ rfl
                            rw [Nat.add_zero, show ((Kd.slice 47 (Kd.int .i8))).sz = 1 from rfl, Nat.mul_one] at hv34
                            replace hv34 := Option.some.inj (hv34.symm.trans HX350_0.out)
                            subst hv34
                            clear hcc34 hcl34
                            replace ge34_0 := (show Kd.R (Kd.int .i8) 47 _ _ _ _ (rd_L5 x6_3 x11_2) from ge34_0)
                            have HP34 := Kd.R_putg ge34_0 (x12_3 : Int) (IntKind.i8.wrap (wrap64 (x11_2 - 1)))
                            go_wp2_with (first | ((with_reducible refine gate_store (t := 47) (p := 74) rfl ?_); refine store_event (t := 47) (p := 74) (v := ?vo_w35) (w1 := (wr.setCell ⟨go32, (x12_3 : Int).toNat, none⟩ (.int .i8 (IntKind.i8.wrap (wrap64 (x11_2 - 1)))))) ?hg ?ho ?hn ?hr ?_; (case ho => rfl); (case hg => rfl); (case hn => rfl); (case hr => first | (go_simp; done) | (go_simp; rfl)); intro w35 hw; have hg : wr.grownBy w35 (some go32) := (by rw [hw]; exact HP34.2); have hz_ : Kd.R (Kd.int .i8) 47 w35 w.heap.size oki34 (.slice (some ⟨go32, 0, none⟩) (rd_L5 x6_3 x11_2).length c349_0) y351 := (by rw [hw, Ny351.out]; exact HP34.1); have hp_ : Kd.S (Kd.slice 47 (Kd.int .i8)) 32 w35 w.heap.size (fun k_ => some k_ ≠ (v335 : Value).ownBlock) (.slice (some ad349) x6_3.length co33) y353 := (by rw [Ny353.out]; exact hbk34 hg (fun k_ e_ => by injection e_ with e_; subst e_; exact ge34_0.1 _ rfl) (Kd.M_row hz_)); have hm_ := Kd.R_mono hz_ hok34; clear HP34 hbk34; have n0_ := Aside0.mk (Kd.R_grown1 (by (with_reducible repeat (first | apply Kd.R_alloc | apply Kd.R_drewN | apply Kd.R_drew)); exact HO_3.out) rfl hg ((HL350_0.out.1 _ rfl).1)); have n1_ := Aside0.mk (hp_); have n2_ := Aside0.mk ((by rw [hw]; exact below_set (HB.out) GB32.out : Below w.heap.size w w35)); have n3_ := Aside0.mk (hm_); have n4_ := Aside0.mk ((Kd.R_reads' hm_).2.1); clear HO_3; clear HO_6; clear HB; clear HL349_0; clear HL350_0; have HO_3 := n0_; have HO_6 := n1_; have HB := n2_; have HL371 := n3_; have HC352 := n4_; clear n0_ n1_ n2_ n3_ n4_; clear hg hw hp_ hz_ hm_ hok34))
                            go_roundg k3
                            case measure => have := HK1.out; have := HK2.out; have := HK3.out; omega
                            case rel => exact ⟨(x3_3), (y353), (wrap64 (x12_3 + 1)), (by first | rfl | (simp; done) | (simp [*]; done) | (simp [i64_w]; done) | (simp [*, i64_w]; done)), H', ⟨by have := HK1.out; have := HK2.out; have := HK3.out; omega⟩, ⟨by (with_reducible repeat (first | apply Kd.R_alloc | apply Kd.R_drewN | apply Kd.R_drew)); exact HO_3.out⟩, ⟨by (with_reducible repeat (first | apply Kd.S_alloc | apply Kd.S_drewN | apply Kd.S_drew)); exact HO_6.out⟩, ⟨by repeat (first | (with_reducible first | exact HB.out | apply below_alloc | apply pw_below_drewN | apply below_drew1) | exact HB.out)⟩⟩
                          · rw [if_neg c31] at H
                            exact absurd H (by simp)
                        · rw [if_neg c30] at H
                          have c30b0 : decide (x12_3 < ((rd_L5 x6_3 x11_2).length : Int)) = false := decide_eq_false c30
                          clear c30
                          have H' := Aside0.mk H
                          clear H
                          obtain ⟨Ao36, co36, eo36⟩ := Kd.S_slice HO_6.out
                          subst eo36
                          have p349 : 0 ≤ (x11_2 : Int) := of_decide_eq_true (by first | (with_reducible assumption) | assumption)
                          have q349 : x11_2 < (x6_3.length : Int) := of_decide_eq_true (by first | (with_reducible assumption) | assumption)
                          obtain ⟨ad349, A349_0, c349_0, e349, hx349_0, hl349_0, hi349_0⟩ := at_L5 (Kd.S_reads' HO_6.out).2.2 x11_2 p349 q349
                          cases e349
                          obtain ⟨ce349, hce349, hMe349, hcc349⟩ := Kd.S_get HO_6.out [] x11_2 p349 (by first | exact q349 | exact of_decide_eq_true (by first | (with_reducible assumption) | assumption) | (have e_ := (Kd.S_reads' HO_6.out).1; omega))
                          obtain ⟨ve349_0, rfl, ge349_0⟩ := hMe349
                          have hv349_0 := hcc349 0 _ rfl
                          rw [Nat.add_zero, show ((Kd.slice 47 (Kd.int .i8))).sz = 1 from rfl, Nat.mul_one] at hv349_0
                          replace hv349_0 := Option.some.inj (hv349_0.symm.trans hx349_0)
                          rw [hv349_0] at ge349_0
                          have HL349_0 := Aside0.mk (show Kd.R (Kd.int .i8) 47 _ _ _ _ (rd_L5 x6_3 x11_2) from ge349_0)
                          clear hv349_0 ge349_0
                          have HX349_0 := Aside0.mk hx349_0
                          clear hcc349 hce349
                          have HR349_0 := Aside0.mk hi349_0
                          have HC349_0 := Aside0.mk hl349_0
                          clear hi349_0 hl349_0
                          replace p349 := eq_true p349
                          replace q349 := eq_true q349
                          go_wp2
                          go_roundg k3
                          case measure => have := HK1.out; have := HK2.out; have := HK3.out; omega
                          case rel => exact ⟨(x3_3), (x6_3), (wrap64 (x11_2 + 1)), (by first | rfl | (simp; done) | (simp [*]; done) | (simp [i64_w]; done) | (simp [*, i64_w]; done)), H', ⟨by have := HK1.out; have := HK2.out; have := HK3.out; omega⟩, ⟨by (with_reducible repeat (first | apply Kd.R_alloc | apply Kd.R_drewN | apply Kd.R_drew)); exact HO_3.out⟩, ⟨by (with_reducible repeat (first | apply Kd.S_alloc | apply Kd.S_drewN | apply Kd.S_drew)); exact HO_6.out⟩, ⟨by repeat (first | (with_reducible first | exact HB.out | apply below_alloc | apply pw_below_drewN | apply below_drew1) | exact HB.out)⟩⟩
                      · rw [if_neg c29] at H
                        exact absurd H (by simp)
                    · rw [if_neg c28] at H
                      exact absurd H (by simp)
              · rw [if_neg c27] at H
                have c27b0 : decide (x11_2 < 3) = false := decide_eq_false c27
                clear c27
                have H' := Aside0.mk H
                clear H
                go_wp2
                go_loopg [13] k2 (fun kq v13 w' => ∃ (x13_3 : Int), v13 = .int .i64 x13_3 ∧ Aside0 (heraldlaw03_SingleMemory.l3 kq l0 x3_2 x6_2 x13_3 = some r) ∧ Aside0 (kq ≤ k2) ∧ Aside0 (Kd.R (Kd.int .i8) 47 w' w.heap.size (fun _ => True) v335 x3_2) ∧ Aside0 (Kd.S (Kd.slice 47 (Kd.int .i8)) 32 w' w.heap.size (fun k_ => some k_ ≠ (v335 : Value).ownBlock) u6 x6_2) ∧ Aside0 (Below w.heap.size w w'))
                case atStart => exact ⟨(0), (by first | rfl | (simp; done) | (simp [*]; done) | (simp [i64_w]; done) | (simp [*, i64_w]; done)), H', ⟨Nat.le_refl _⟩, ⟨by (with_reducible repeat (first | apply Kd.R_alloc | apply Kd.R_drewN | apply Kd.R_drew)); exact HO_3.out⟩, ⟨by (with_reducible repeat (first | apply Kd.S_alloc | apply Kd.S_drewN | apply Kd.S_drew)); exact HO_6.out⟩, ⟨by repeat (first | (with_reducible first | exact HB.out | apply below_alloc | apply pw_below_drewN | apply below_drew1) | exact HB.out)⟩⟩
                case round =>
                  clear H'
                  try clear c1
                  try clear c2
                  try clear p2
                  try clear c3
                  try clear p3
                  try clear q3
                  try clear hx3
                  try clear hf3
                  try clear p6
                  try clear c7
                  try clear c11
                  try clear c11b0
                  try clear c14
                  try clear c15
                  try clear c15b0
                  try clear c15b1
                  try clear c16
                  try clear c19
                  try clear c21
                  try clear c22
                  try clear c27
                  try clear c27b0
                  try clear c28
                  try clear c28b0
                  try clear c29
                  try clear c29b0
                  try clear c30
                  try clear c30b0
                  try clear c31
                  try clear c31b0
                  try clear p32
                  try clear q32
                  try clear hx32
                  try clear hf32
                  try clear c34
                  try clear p34
                  try clear q34
                  try clear hx34
                  try clear c35
                  try clear p35
                  try clear q35
                  try clear hx35
                  try clear hx32_0
                  try clear hx349_0
                  try clear hx350_0
                  try clear p2
                  try clear p32
                  try clear p349
                  try clear p350
                  try clear p6
                  try clear q32
                  try clear q349
                  try clear q350
                  obtain ⟨x13_3, rfl, HA, HK3, HO_3, HO_6, HB⟩ := hrel
                  cases gk with
                  | zero => exact absurd HA.out (by simp [heraldlaw03_SingleMemory.l3])
                  | succ k3 =>
                    have H := HA.out
                    clear HA
                    simp only [heraldlaw03_SingleMemory.l3] at H
                    by_cases c37 : x13_3 < 3
                    · rw [if_pos c37] at H
                      have c37b0 : decide (x13_3 < 3) = true := decide_eq_true c37
                      clear c37
                      by_cases c38 : 0 ≤ x13_3
                      · rw [if_pos c38] at H
                        have c38b0 : decide (0 ≤ x13_3) = true := decide_eq_true c38
                        clear c38
                        by_cases c39 : x13_3 < (x6_2.length : Int)
                        · rw [if_pos c39] at H
                          have c39b0 : decide (x13_3 < (x6_2.length : Int)) = true := decide_eq_true c39
                          clear c39
                          obtain ⟨y355, hy355⟩ : ∃ y_ : List Int, y_ = (rd_L5 x6_2 x13_3) := ⟨_, rfl⟩
                          replace H : (heraldlaw03_SingleMemory.l4 k3 l0 x3_2 x6_2 x13_3 y355 0) = some r := by first | (rw [hy355]; with_reducible exact H) | (have H2_ := (Option.bind_some _ _).symm.trans H; rw [hy355]; with_reducible exact H2_) | (have H2_ := (Option.bind_some _ _).symm.trans H; with_reducible exact H2_) | with_reducible exact H | (rw [hy355]; exact H) | exact H
                          have Ny355 := Aside0.mk hy355
                          clear hy355
                          have H' := Aside0.mk H
                          clear H
                          obtain ⟨Ao40, co40, eo40⟩ := Kd.S_slice HO_6.out
                          subst eo40
                          have p354 : 0 ≤ (x13_3 : Int) := of_decide_eq_true (by first | (with_reducible assumption) | assumption)
                          have q354 : x13_3 < (x6_2.length : Int) := of_decide_eq_true (by first | (with_reducible assumption) | assumption)
                          obtain ⟨ad354, A354_0, c354_0, e354, hx354_0, hl354_0, hi354_0⟩ := at_L5 (Kd.S_reads' HO_6.out).2.2 x13_3 p354 q354
                          cases e354
                          obtain ⟨ce354, hce354, hMe354, hcc354⟩ := Kd.S_get HO_6.out [] x13_3 p354 (by first | exact q354 | exact of_decide_eq_true (by first | (with_reducible assumption) | assumption) | (have e_ := (Kd.S_reads' HO_6.out).1; omega))
                          obtain ⟨ve354_0, rfl, ge354_0⟩ := hMe354
                          have hv354_0 := hcc354 0 _ rfl
                          rw [Nat.add_zero, show ((Kd.slice 47 (Kd.int .i8))).sz = 1 from rfl, Nat.mul_one] at hv354_0
                          replace hv354_0 := Option.some.inj (hv354_0.symm.trans hx354_0)
                          rw [hv354_0] at ge354_0
                          have HL354_0 := Aside0.mk (show Kd.R (Kd.int .i8) 47 _ _ _ _ (rd_L5 x6_2 x13_3) from ge354_0)
                          clear hv354_0 ge354_0
                          have HX354_0 := Aside0.mk hx354_0
                          clear hcc354 hce354
                          have HR354_0 := Aside0.mk hi354_0
                          have HC354_0 := Aside0.mk hl354_0
                          clear hi354_0 hl354_0
                          replace p354 := eq_true p354
                          replace q354 := eq_true q354
                          go_wp2
                          go_loopg [14, 15] k3 (fun kq v14 v15 w' => ∃ (x14_4 : List Int) (x15_4 : Int), v15 = .int .i64 x15_4 ∧ Aside0 (heraldlaw03_SingleMemory.l4 kq l0 x3_2 x6_2 x13_3 x14_4 x15_4 = some r) ∧ Aside0 (kq ≤ k3) ∧ Aside0 (Gr w' w.heap.size v335 x3_2 ad354 x6_2.length co40 x6_2 x13_3 (.slice A354_0 (rd_L5 x6_2 x13_3).length c354_0) v14 x14_4) ∧ Aside0 (Below w.heap.size w w'))
                          case atStart => exact ⟨(rd_L5 x6_2 x13_3), (0), (by first | rfl | (simp; done) | (simp [*]; done) | (simp [i64_w]; done) | (simp [*, i64_w]; done)), (Ny355.out ▸ H'), ⟨Nat.le_refl _⟩, ⟨Gr.begin HO_3.out HO_6.out (of_eq_true p354) (of_eq_true q354) HX354_0.out (Kd.R_mono HL354_0.out (fun _ hk => hk.1))⟩, ⟨by repeat (first | (with_reducible first | exact HB.out | apply below_alloc | apply pw_below_drewN | apply below_drew1) | exact HB.out)⟩⟩
                          case round =>
                            clear H'
                            try clear c1
                            try clear c2
                            try clear p2
                            try clear c3
                            try clear p3
                            try clear q3
                            try clear hx3
                            try clear hf3
                            try clear p6
                            try clear c7
                            try clear c11
                            try clear c11b0
                            try clear c14
                            try clear c15
                            try clear c15b0
                            try clear c15b1
                            try clear c16
                            try clear c19
                            try clear c21
                            try clear c22
                            try clear c27
                            try clear c27b0
                            try clear c28
                            try clear c28b0
                            try clear c29
                            try clear c29b0
                            try clear c30
                            try clear c30b0
                            try clear c31
                            try clear c31b0
                            try clear p32
                            try clear q32
                            try clear hx32
                            try clear hf32
                            try clear c34
                            try clear p34
                            try clear q34
                            try clear hx34
                            try clear c35
                            try clear p35
                            try clear q35
                            try clear hx35
                            try clear c37
                            try clear c37b0
                            try clear c38
                            try clear c38b0
                            try clear c39
                            try clear c39b0
                            try clear hx32_0
                            try clear hx349_0
                            try clear hx350_0
                            try clear hx354_0
                            try clear p2
                            try clear p3
                            try clear p32
                            try clear p34
                            try clear p349
                            try clear p35
                            try clear p350
                            try clear p354
                            try clear p6
                            try clear q3
                            try clear q32
                            try clear q34
                            try clear q349
                            try clear q35
                            try clear q350
                            try clear q354
                            obtain ⟨x14_4, x15_4, rfl, HA, HK4, HG_, HB⟩ := hrel
                            cases gk with
                            | zero => exact absurd HA.out (by simp [heraldlaw03_SingleMemory.l4])
                            | succ k4 =>
                              have H := HA.out
                              clear HA
                              simp only [heraldlaw03_SingleMemory.l4] at H
                              by_cases c43 : x15_4 < 20
                              · rw [if_pos c43] at H
                                have c43b0 : decide (x15_4 < 20) = true := decide_eq_true c43
                                clear c43
                                by_cases c44 : x14_4.length < 140737488355328
                                · rw [if_pos c44] at H
                                  have LMc44 := Aside0.mk c44
                                  clear c44
                                  obtain ⟨y358, hy358⟩ : ∃ y_ : List Int, y_ = (x14_4 ++ [77]) := ⟨_, rfl⟩
                                  replace H : (heraldlaw03_SingleMemory.l4 k4 l0 x3_2 x6_2 x13_3 y358 (wrap64 (x15_4 + 1))) = some r := by first | (rw [hy358]; with_reducible exact H) | (have H2_ := (Option.bind_some _ _).symm.trans H; rw [hy358]; with_reducible exact H2_) | (have H2_ := (Option.bind_some _ _).symm.trans H; with_reducible exact H2_) | with_reducible exact H | (rw [hy358]; exact H) | exact H
                                  have Ny358 := Aside0.mk hy358
                                  clear hy358
                                  have H' := Aside0.mk H
                                  clear H
                                  go_wp2_with (first | ((with_reducible refine gate_builtin (b := .append) (xs := #[.tmp 87, .tmp 88]) rfl ?_); at_builtin; refine Gr.append (w0 := w) (y := 77) rfl rfl Tryd.underlying32 info47 rfl rfl HG_.out HB.out (below_size HB.out) ?aL ?_; (case aL => have := LMc44.out; omega); intro v359 w45 hG_ hb; rw [← Ny358.out] at hG_; have n0_ := Aside0.mk hG_; have n1_ := Aside0.mk hb; clear HG_; clear HB; have HG_ := n0_; have HB := n1_; clear n0_ n1_; clear hG_ hb))
                                  go_roundg k4
                                  case measure => have := HK1.out; have := HK2.out; have := HK3.out; have := HK4.out; omega
                                  case rel => exact ⟨(y358), (wrap64 (x15_4 + 1)), (by first | rfl | (simp; done) | (simp [*]; done) | (simp [i64_w]; done) | (simp [*, i64_w]; done)), H', ⟨by have := HK1.out; have := HK2.out; have := HK3.out; have := HK4.out; omega⟩, ⟨HG_.out⟩, ⟨by repeat (first | (with_reducible first | exact HB.out | apply below_alloc | apply pw_below_drewN | apply below_drew1) | exact HB.out)⟩⟩
                                · rw [if_neg c44] at H
                                  exact absurd H (by simp)
                              · rw [if_neg c43] at H
                                have c43b0 : decide (x15_4 < 20) = false := decide_eq_false c43
                                clear c43
                                have H' := Aside0.mk H
                                clear H
                                go_wp2
                                go_roundg k4
                                case measure => have := HK1.out; have := HK2.out; have := HK3.out; have := HK4.out; omega
                                case rel => exact ⟨(wrap64 (x13_3 + 1)), (by first | rfl | (simp; done) | (simp [*]; done) | (simp [i64_w]; done) | (simp [*, i64_w]; done)), H', ⟨by have := HK1.out; have := HK2.out; have := HK3.out; have := HK4.out; omega⟩, ⟨HG_.out.ref⟩, ⟨HG_.out.kept⟩, ⟨by repeat (first | (with_reducible first | exact HB.out | apply below_alloc | apply pw_below_drewN | apply below_drew1) | exact HB.out)⟩⟩
                        · rw [if_neg c39] at H
                          exact absurd H (by simp)
                      · rw [if_neg c38] at H
                        exact absurd H (by simp)
                    · rw [if_neg c37] at H
                      have c37b0 : decide (x13_3 < 3) = false := decide_eq_false c37
                      clear c37
                      have H' := Aside0.mk H
                      clear H
                      go_wp2
                      go_loopg [16] k3 (fun kq v16 w' => ∃ (x16_4 : Int), v16 = .int .i64 x16_4 ∧ Aside0 (heraldlaw03_SingleMemory.l5 kq l0 x3_2 x6_2 x16_4 = some r) ∧ Aside0 (kq ≤ k3) ∧ Aside0 (Kd.R (Kd.int .i8) 47 w' w.heap.size (fun _ => True) v335 x3_2) ∧ Aside0 (Kd.S (Kd.slice 47 (Kd.int .i8)) 32 w' w.heap.size (fun k_ => some k_ ≠ (v335 : Value).ownBlock) u6 x6_2) ∧ Aside0 (Below w.heap.size w w'))
                      case atStart => exact ⟨(0), (by first | rfl | (simp; done) | (simp [*]; done) | (simp [i64_w]; done) | (simp [*, i64_w]; done)), H', ⟨Nat.le_refl _⟩, ⟨by (with_reducible repeat (first | apply Kd.R_alloc | apply Kd.R_drewN | apply Kd.R_drew)); exact HO_3.out⟩, ⟨by (with_reducible repeat (first | apply Kd.S_alloc | apply Kd.S_drewN | apply Kd.S_drew)); exact HO_6.out⟩, ⟨by repeat (first | (with_reducible first | exact HB.out | apply below_alloc | apply pw_below_drewN | apply below_drew1) | exact HB.out)⟩⟩
                      case round =>
                        clear H'
                        try clear c1
                        try clear c2
                        try clear p2
                        try clear c3
                        try clear p3
                        try clear q3
                        try clear hx3
                        try clear hf3
                        try clear c4
                        try clear p6
                        try clear c7
                        try clear c11
                        try clear c11b0
                        try clear c14
                        try clear c15
                        try clear c15b0
                        try clear c15b1
                        try clear c16
                        try clear c19
                        try clear c21
                        try clear c22
                        try clear c27
                        try clear c27b0
                        try clear c28
                        try clear c28b0
                        try clear c29
                        try clear c29b0
                        try clear c30
                        try clear c30b0
                        try clear c31
                        try clear c31b0
                        try clear p32
                        try clear q32
                        try clear hx32
                        try clear hf32
                        try clear c34
                        try clear p34
                        try clear q34
                        try clear hx34
                        try clear c35
                        try clear p35
                        try clear q35
                        try clear hx35
                        try clear c37
                        try clear c37b0
                        try clear c38
                        try clear c38b0
                        try clear c39
                        try clear c39b0
                        try clear c43
                        try clear c43b0
                        try clear c44
                        try clear hx32_0
                        try clear hx349_0
                        try clear hx350_0
                        try clear hx354_0
                        try clear p2
                        try clear p3
                        try clear p32
                        try clear p34
                        try clear p349
                        try clear p35
                        try clear p350
                        try clear p354
                        try clear p6
                        try clear q3
                        try clear q32
                        try clear q34
                        try clear q349
                        try clear q35
                        try clear q350
                        try clear q354
                        obtain ⟨x16_4, rfl, HA, HK4, HO_3, HO_6, HB⟩ := hrel
                        cases gk with
                        | zero => exact absurd HA.out (by simp [heraldlaw03_SingleMemory.l5])
                        | succ k4 =>
                          have H := HA.out
                          clear HA
                          simp only [heraldlaw03_SingleMemory.l5] at H
                          by_cases c46 : x16_4 < 3
                          · rw [if_pos c46] at H
                            have c46b0 : decide (x16_4 < 3) = true := decide_eq_true c46
                            clear c46
                            have H' := Aside0.mk H
                            clear H
                            go_wp2
                            go_loopg [17] k4 (fun kq v17 w' => ∃ (x17_5 : Int), v17 = .int .i64 x17_5 ∧ Aside0 (heraldlaw03_SingleMemory.l6 kq l0 x3_2 x6_2 x16_4 x17_5 = some r) ∧ Aside0 (kq ≤ k4) ∧ Aside0 (Kd.R (Kd.int .i8) 47 w' w.heap.size (fun _ => True) v335 x3_2) ∧ Aside0 (Kd.S (Kd.slice 47 (Kd.int .i8)) 32 w' w.heap.size (fun k_ => some k_ ≠ (v335 : Value).ownBlock) u6 x6_2) ∧ Aside0 (Below w.heap.size w w'))
                            case atStart => exact ⟨(0), (by first | rfl | (simp; done) | (simp [*]; done) | (simp [i64_w]; done) | (simp [*, i64_w]; done)), H', ⟨Nat.le_refl _⟩, ⟨by (with_reducible repeat (first | apply Kd.R_alloc | apply Kd.R_drewN | apply Kd.R_drew)); exact HO_3.out⟩, ⟨by (with_reducible repeat (first | apply Kd.S_alloc | apply Kd.S_drewN | apply Kd.S_drew)); exact HO_6.out⟩, ⟨by repeat (first | (with_reducible first | exact HB.out | apply below_alloc | apply pw_below_drewN | apply below_drew1) | exact HB.out)⟩⟩
                            case round =>
                              clear H'
                              try clear c1
                              try clear c2
                              try clear p2
                              try clear c3
                              try clear p3
                              try clear q3
                              try clear hx3
                              try clear hf3
                              try clear c4
                              try clear p6
                              try clear c7
                              try clear c11
                              try clear c11b0
                              try clear c14
                              try clear c15
                              try clear c15b0
                              try clear c15b1
                              try clear c16
                              try clear c19
                              try clear c21
                              try clear c22
                              try clear c27
                              try clear c27b0
                              try clear c28
                              try clear c28b0
                              try clear c29
                              try clear c29b0
                              try clear c30
                              try clear c30b0
                              try clear c31
                              try clear c31b0
                              try clear p32
                              try clear q32
                              try clear hx32
                              try clear hf32
                              try clear c34
                              try clear p34
                              try clear q34
                              try clear hx34
                              try clear c35
                              try clear p35
                              try clear q35
                              try clear hx35
                              try clear c37
                              try clear c37b0
                              try clear c38
                              try clear c38b0
                              try clear c39
                              try clear c39b0
                              try clear c43
                              try clear c43b0
                              try clear c44
                              try clear c46
                              try clear c46b0
                              try clear hx32_0
                              try clear hx349_0
                              try clear hx350_0
                              try clear hx354_0
                              try clear p2
                              try clear p3
                              try clear p32
                              try clear p34
                              try clear p349
                              try clear p35
                              try clear p350
                              try clear p354
                              try clear p6
                              try clear q3
                              try clear q32
                              try clear q34
                              try clear q349
                              try clear q35
                              try clear q350
                              try clear q354
                              obtain ⟨x17_5, rfl, HA, HK5, HO_3, HO_6, HB⟩ := hrel
                              cases gk with
                              | zero => exact absurd HA.out (by simp [heraldlaw03_SingleMemory.l6])
                              | succ k5 =>
                                have H := HA.out
                                clear HA
                                simp only [heraldlaw03_SingleMemory.l6] at H
                                by_cases c47 : 0 ≤ x16_4
                                · rw [if_pos c47] at H
                                  have c47b0 : decide (0 ≤ x16_4) = true := decide_eq_true c47
                                  clear c47
                                  by_cases c48 : x16_4 < (x6_2.length : Int)
                                  · rw [if_pos c48] at H
                                    have c48b0 : decide (x16_4 < (x6_2.length : Int)) = true := decide_eq_true c48
                                    clear c48
                                    by_cases c49 : x17_5 < ((rd_L5 x6_2 x16_4).length : Int)
                                    · rw [if_pos c49] at H
                                      have c49b0 : decide (x17_5 < ((rd_L5 x6_2 x16_4).length : Int)) = true := decide_eq_true c49
                                      clear c49
                                      by_cases c50 : 0 ≤ x17_5
                                      · rw [if_pos c50] at H
                                        have c50b0 : decide (0 ≤ x17_5) = true := decide_eq_true c50
                                        clear c50
                                        by_cases c51 : (rd (rd_L5 x6_2 x16_4) x17_5) = (IntKind.i8.wrap (wrap64 (x16_4 - 1)))
                                        · rw [if_pos c51] at H
                                          have c51b0 : ((rd (rd_L5 x6_2 x16_4) x17_5) == (IntKind.i8.wrap (wrap64 (x16_4 - 1)))) = true := beq_iff_eq.mpr c51
                                          have c51b1 : ((rd (rd_L5 x6_2 x16_4) x17_5) != (IntKind.i8.wrap (wrap64 (x16_4 - 1)))) = false := bne_eq_false_iff_eq.mpr c51
                                          clear c51
                                          have H' := Aside0.mk H
                                          clear H
                                          obtain ⟨Ao52, co52, eo52⟩ := Kd.S_slice HO_6.out
                                          subst eo52
                                          have p368 : 0 ≤ (x16_4 : Int) := of_decide_eq_true (by first | (with_reducible assumption) | assumption)
                                          have q368 : x16_4 < (x6_2.length : Int) := of_decide_eq_true (by first | (with_reducible assumption) | assumption)
                                          obtain ⟨ad368, A368_0, c368_0, e368, hx368_0, hl368_0, hi368_0⟩ := at_L5 (Kd.S_reads' HO_6.out).2.2 x16_4 p368 q368
                                          cases e368
                                          obtain ⟨ce368, hce368, hMe368, hcc368⟩ := Kd.S_get HO_6.out [] x16_4 p368 (by first | exact q368 | exact of_decide_eq_true (by first | (with_reducible assumption) | assumption) | (have e_ := (Kd.S_reads' HO_6.out).1; omega))
                                          obtain ⟨ve368_0, rfl, ge368_0⟩ := hMe368
                                          have hv368_0 := hcc368 0 _ rfl
                                          rw [Nat.add_zero, show ((Kd.slice 47 (Kd.int .i8))).sz = 1 from rfl, Nat.mul_one] at hv368_0
                                          replace hv368_0 := Option.some.inj (hv368_0.symm.trans hx368_0)
                                          rw [hv368_0] at ge368_0
                                          have HL368_0 := Aside0.mk (show Kd.R (Kd.int .i8) 47 _ _ _ _ (rd_L5 x6_2 x16_4) from ge368_0)
                                          clear hv368_0 ge368_0
                                          have HX368_0 := Aside0.mk hx368_0
                                          clear hcc368 hce368
                                          have HR368_0 := Aside0.mk hi368_0
                                          have HC368_0 := Aside0.mk hl368_0
                                          clear hi368_0 hl368_0
                                          replace p368 := eq_true p368
                                          replace q368 := eq_true q368
                                          have p369 : 0 ≤ (x16_4 : Int) := of_decide_eq_true (by first | (with_reducible assumption) | assumption)
                                          have q369 : x16_4 < (x6_2.length : Int) := of_decide_eq_true (by first | (with_reducible assumption) | assumption)
                                          obtain ⟨ad369, A369_0, c369_0, e369, hx369_0, hl369_0, hi369_0⟩ := at_L5 (Kd.S_reads' HO_6.out).2.2 x16_4 p369 q369
                                          obtain rfl : ad368 = ad369 := (by injection e369)
                                          obtain ⟨ce369, hce369, hMe369, hcc369⟩ := Kd.S_get HO_6.out [] x16_4 p369 (by first | exact q369 | exact of_decide_eq_true (by first | (with_reducible assumption) | assumption) | (have e_ := (Kd.S_reads' HO_6.out).1; omega))
                                          obtain ⟨ve369_0, rfl, ge369_0⟩ := hMe369
                                          have hv369_0 := hcc369 0 _ rfl
                                          rw [Nat.add_zero, show ((Kd.slice 47 (Kd.int .i8))).sz = 1 from rfl, Nat.mul_one] at hv369_0
                                          replace hv369_0 := Option.some.inj (hv369_0.symm.trans hx369_0)
                                          rw [hv369_0] at ge369_0
                                          have HL369_0 := Aside0.mk (show Kd.R (Kd.int .i8) 47 _ _ _ _ (rd_L5 x6_2 x16_4) from ge369_0)
                                          clear hv369_0 ge369_0
                                          have HX369_0 := Aside0.mk hx369_0
                                          clear hcc369 hce369
                                          have HR369_0 := Aside0.mk hi369_0
                                          have HC369_0 := Aside0.mk hl369_0
                                          clear hi369_0 hl369_0
                                          replace p369 := eq_true p369
                                          replace q369 := eq_true q369
                                          have ea_ := Option.some.inj (hx368_0.symm.trans hx369_0)
                                          injection ea_ with ea_ en_ ec_
                                          subst ea_
                                          subst ec_
                                          clear en_
                                          have p370 : 0 ≤ (x17_5 : Int) := of_decide_eq_true (by first | (with_reducible assumption) | assumption)
                                          have q370 : x17_5 < ((rd_L5 x6_2 x16_4).length : Int) := of_decide_eq_true (by first | (with_reducible assumption) | assumption)
                                          obtain ⟨ad370, e370, hx370_0⟩ := Kd.at_int (by repeat (first | (with_reducible exact HR369_0.out) | (with_reducible refine Kd.C_alloc ?_ _) | (with_reducible refine Kd.C_drewN ?_ _) | (with_reducible refine Kd.C_drew ?_) | exact HR369_0.out)) x17_5 p370 q370
                                          cases e370
                                          replace p370 := eq_true p370
                                          replace q370 := eq_true q370
                                          go_wp2
                                          go_roundg k5
                                          case measure => have := HK1.out; have := HK2.out; have := HK3.out; have := HK4.out; have := HK5.out; omega
                                          case rel => exact ⟨(wrap64 (x17_5 + 1)), (by first | rfl | (simp; done) | (simp [*]; done) | (simp [i64_w]; done) | (simp [*, i64_w]; done)), H', ⟨by have := HK1.out; have := HK2.out; have := HK3.out; have := HK4.out; have := HK5.out; omega⟩, ⟨by (with_reducible repeat (first | apply Kd.R_alloc | apply Kd.R_drewN | apply Kd.R_drew)); exact HO_3.out⟩, ⟨by (with_reducible repeat (first | apply Kd.S_alloc | apply Kd.S_drewN | apply Kd.S_drew)); exact HO_6.out⟩, ⟨by repeat (first | (with_reducible first | exact HB.out | apply below_alloc | apply pw_below_drewN | apply below_drew1) | exact HB.out)⟩⟩
                                        · rw [if_neg c51] at H
                                          have c51b0 : ((rd (rd_L5 x6_2 x16_4) x17_5) == (IntKind.i8.wrap (wrap64 (x16_4 - 1)))) = false := beq_eq_false_iff_ne.mpr c51
                                          have c51b1 : ((rd (rd_L5 x6_2 x16_4) x17_5) != (IntKind.i8.wrap (wrap64 (x16_4 - 1)))) = true := bne_iff_ne.mpr c51
                                          obtain rfl := Option.some.inj H
                                          obtain ⟨Ao53, co53, eo53⟩ := Kd.S_slice HO_6.out
                                          subst eo53
                                          have p368 : 0 ≤ (x16_4 : Int) := of_decide_eq_true (by first | (with_reducible assumption) | assumption)
                                          have q368 : x16_4 < (x6_2.length : Int) := of_decide_eq_true (by first | (with_reducible assumption) | assumption)
                                          obtain ⟨ad368, A368_0, c368_0, e368, hx368_0, hl368_0, hi368_0⟩ := at_L5 (Kd.S_reads' HO_6.out).2.2 x16_4 p368 q368
                                          cases e368
                                          obtain ⟨ce368, hce368, hMe368, hcc368⟩ := Kd.S_get HO_6.out [] x16_4 p368 (by first | exact q368 | exact of_decide_eq_true (by first | (with_reducible assumption) | assumption) | (have e_ := (Kd.S_reads' HO_6.out).1; omega))
                                          obtain ⟨ve368_0, rfl, ge368_0⟩ := hMe368
                                          have hv368_0 := hcc368 0 _ rfl
                                          rw [Nat.add_zero, show ((Kd.slice 47 (Kd.int .i8))).sz = 1 from rfl, Nat.mul_one] at hv368_0
                                          replace hv368_0 := Option.some.inj (hv368_0.symm.trans hx368_0)
                                          rw [hv368_0] at ge368_0
                                          have HL368_0 := Aside0.mk (show Kd.R (Kd.int .i8) 47 _ _ _ _ (rd_L5 x6_2 x16_4) from ge368_0)
                                          clear hv368_0 ge368_0
                                          have HX368_0 := Aside0.mk hx368_0
                                          clear hcc368 hce368
                                          have HR368_0 := Aside0.mk hi368_0
                                          have HC368_0 := Aside0.mk hl368_0
                                          clear hi368_0 hl368_0
                                          replace p368 := eq_true p368
                                          replace q368 := eq_true q368
                                          have p369 : 0 ≤ (x16_4 : Int) := of_decide_eq_true (by first | (with_reducible assumption) | assumption)
                                          have q369 : x16_4 < (x6_2.length : Int) := of_decide_eq_true (by first | (with_reducible assumption) | assumption)
                                          obtain ⟨ad369, A369_0, c369_0, e369, hx369_0, hl369_0, hi369_0⟩ := at_L5 (Kd.S_reads' HO_6.out).2.2 x16_4 p369 q369
                                          obtain rfl : ad368 = ad369 := (by injection e369)
                                          obtain ⟨ce369, hce369, hMe369, hcc369⟩ := Kd.S_get HO_6.out [] x16_4 p369 (by first | exact q369 | exact of_decide_eq_true (by first | (with_reducible assumption) | assumption) | (have e_ := (Kd.S_reads' HO_6.out).1; omega))
                                          obtain ⟨ve369_0, rfl, ge369_0⟩ := hMe369
                                          have hv369_0 := hcc369 0 _ rfl
                                          rw [Nat.add_zero, show ((Kd.slice 47 (Kd.int .i8))).sz = 1 from rfl, Nat.mul_one] at hv369_0
                                          replace hv369_0 := Option.some.inj (hv369_0.symm.trans hx369_0)
                                          rw [hv369_0] at ge369_0
                                          have HL369_0 := Aside0.mk (show Kd.R (Kd.int .i8) 47 _ _ _ _ (rd_L5 x6_2 x16_4) from ge369_0)
                                          clear hv369_0 ge369_0
                                          have HX369_0 := Aside0.mk hx369_0
                                          clear hcc369 hce369
                                          have HR369_0 := Aside0.mk hi369_0
                                          have HC369_0 := Aside0.mk hl369_0
                                          clear hi369_0 hl369_0
                                          replace p369 := eq_true p369
                                          replace q369 := eq_true q369
                                          have ea_ := Option.some.inj (hx368_0.symm.trans hx369_0)
                                          injection ea_ with ea_ en_ ec_
                                          subst ea_
                                          subst ec_
                                          clear en_
                                          have p370 : 0 ≤ (x17_5 : Int) := of_decide_eq_true (by first | (with_reducible assumption) | assumption)
                                          have q370 : x17_5 < ((rd_L5 x6_2 x16_4).length : Int) := of_decide_eq_true (by first | (with_reducible assumption) | assumption)
                                          obtain ⟨ad370, e370, hx370_0⟩ := Kd.at_int (by repeat (first | (with_reducible exact HR369_0.out) | (with_reducible refine Kd.C_alloc ?_ _) | (with_reducible refine Kd.C_drewN ?_ _) | (with_reducible refine Kd.C_drew ?_) | exact HR369_0.out)) x17_5 p370 q370
                                          cases e370
                                          replace p370 := eq_true p370
                                          replace q370 := eq_true q370
                                          go_wp2
                                          go_ret
                                          exact ⟨by first | rfl | (simp [errW_none, errW_some] <;> rfl) | (simp [*, errW_none, errW_some] <;> rfl), by repeat (first | (with_reducible first | exact HB.out | apply below_alloc | apply pw_below_drewN | apply below_drew1) | exact HB.out)⟩
                                      · rw [if_neg c50] at H
                                        exact absurd H (by simp)
                                    · rw [if_neg c49] at H
                                      have c49b0 : decide (x17_5 < ((rd_L5 x6_2 x16_4).length : Int)) = false := decide_eq_false c49
                                      clear c49
                                      have H' := Aside0.mk H
                                      clear H
                                      obtain ⟨Ao54, co54, eo54⟩ := Kd.S_slice HO_6.out
                                      subst eo54
                                      have p368 : 0 ≤ (x16_4 : Int) := of_decide_eq_true (by first | (with_reducible assumption) | assumption)
                                      have q368 : x16_4 < (x6_2.length : Int) := of_decide_eq_true (by first | (with_reducible assumption) | assumption)
                                      obtain ⟨ad368, A368_0, c368_0, e368, hx368_0, hl368_0, hi368_0⟩ := at_L5 (Kd.S_reads' HO_6.out).2.2 x16_4 p368 q368
                                      cases e368
                                      obtain ⟨ce368, hce368, hMe368, hcc368⟩ := Kd.S_get HO_6.out [] x16_4 p368 (by first | exact q368 | exact of_decide_eq_true (by first | (with_reducible assumption) | assumption) | (have e_ := (Kd.S_reads' HO_6.out).1; omega))
                                      obtain ⟨ve368_0, rfl, ge368_0⟩ := hMe368
                                      have hv368_0 := hcc368 0 _ rfl
                                      rw [Nat.add_zero, show ((Kd.slice 47 (Kd.int .i8))).sz = 1 from rfl, Nat.mul_one] at hv368_0
                                      replace hv368_0 := Option.some.inj (hv368_0.symm.trans hx368_0)
                                      rw [hv368_0] at ge368_0
                                      have HL368_0 := Aside0.mk (show Kd.R (Kd.int .i8) 47 _ _ _ _ (rd_L5 x6_2 x16_4) from ge368_0)
                                      clear hv368_0 ge368_0
                                      have HX368_0 := Aside0.mk hx368_0
                                      clear hcc368 hce368
                                      have HR368_0 := Aside0.mk hi368_0
                                      have HC368_0 := Aside0.mk hl368_0
                                      clear hi368_0 hl368_0
                                      replace p368 := eq_true p368
                                      replace q368 := eq_true q368
                                      go_wp2
                                      go_roundg k5
                                      case measure => have := HK1.out; have := HK2.out; have := HK3.out; have := HK4.out; have := HK5.out; omega
                                      case rel => exact ⟨(wrap64 (x16_4 + 1)), (by first | rfl | (simp; done) | (simp [*]; done) | (simp [i64_w]; done) | (simp [*, i64_w]; done)), H', ⟨by have := HK1.out; have := HK2.out; have := HK3.out; have := HK4.out; have := HK5.out; omega⟩, ⟨by (with_reducible repeat (first | apply Kd.R_alloc | apply Kd.R_drewN | apply Kd.R_drew)); exact HO_3.out⟩, ⟨by (with_reducible repeat (first | apply Kd.S_alloc | apply Kd.S_drewN | apply Kd.S_drew)); exact HO_6.out⟩, ⟨by repeat (first | (with_reducible first | exact HB.out | apply below_alloc | apply pw_below_drewN | apply below_drew1) | exact HB.out)⟩⟩
                                  · rw [if_neg c48] at H
                                    exact absurd H (by simp)
                                · rw [if_neg c47] at H
                                  exact absurd H (by simp)
                          · rw [if_neg c46] at H
                            have c46b0 : decide (x16_4 < 3) = false := decide_eq_false c46
                            clear c46
                            replace H := Option.bind_eq_some_iff.mp H
                            obtain ⟨⟨t361, t362, t363⟩, A550, H⟩ := H
                            replace H : ((heraldlaw03_awake.f k4).bind fun t366 => (if t366 = true then ((heraldlaw03_rows.f k4 t361 x3_2).bind fun t367 => (some t367)) else (some false))) = some r := H
                            have A55 := Aside0.mk A550
                            clear A550
                            replace H := Option.bind_eq_some_iff.mp H
                            obtain ⟨t366, A560, H⟩ := H
                            replace H : (if t366 = true then ((heraldlaw03_rows.f k4 t361 x3_2).bind fun t367 => (some t367)) else (some false)) = some r := H
                            have A56 := Aside0.mk A560
                            clear A560
                            by_cases c57 : t366 = true
                            · subst c57
                              have H1 : ((heraldlaw03_rows.f k4 t361 x3_2).bind fun t367 => (some t367)) = some r := by rw [if_pos rfl] at H; exact H
                              clear H
                              have H := H1
                              clear H1
                              replace H := Option.bind_eq_some_iff.mp H
                              obtain ⟨t367, A580, H⟩ := H
                              replace H : (some t367) = some r := H
                              have A58 := Aside0.mk A580
                              clear A580
                              obtain rfl := Option.some.inj H
                              go_wp2_with (first | ((with_reducible refine gate_callee (f := 21) rfl ?_); refine goesL_ (some 116) rfl rfl Tryd.func21 (by kernel_rfl) rfl #[.slice A0 l0.length c0] rfl (by (try simp only [List.map_toArray, List.map_cons, List.map_nil]); first | done | rfl | (simp only [List.length_drop, List.length_take]; rfl)) ?_; (with_reducible refine (single_Quantise.calls k4 _ _ l0 t361 t362 t363 _ ?side1 ?side2 A55.out (by first | exact HTab.out | exact tab_below HTab.out (by repeat (first | (with_reducible first | exact HB.out | apply below_alloc | apply pw_below_drewN | apply below_drew1) | exact HB.out)))).mono ?_); (case side1 => repeat (first | exact (Kd.C_below HR0.out HB.out) | (with_reducible refine Kd.C_alloc ?_ _) | (with_reducible refine Kd.C_drewN ?_ _) | (with_reducible refine Kd.C_drew ?_))); (case side2 => exact HC0.out); rintro e w59 ⟨v364, rfl, ho0, hb⟩; refine ⟨_, rfl, ?_⟩; have n0_ := Aside0.mk (Kd.R_elder' (by (with_reducible repeat (first | apply Kd.R_alloc | apply Kd.R_drewN | apply Kd.R_drew)); exact HO_3.out) (Kd.R_base ho0) hb); have n1_ := Aside0.mk (Kd.S_elder' (by (with_reducible repeat (first | apply Kd.S_alloc | apply Kd.S_drewN | apply Kd.S_drew)); exact HO_6.out) (Kd.R_base ho0) hb); have n2_ := Aside0.mk (Kd.R_lower (Kd.R_new' ho0 (Kd.R_lt (by (with_reducible repeat (first | apply Kd.R_alloc | apply Kd.R_drewN | apply Kd.R_drew)); exact HO_3.out))) (below_size (by repeat (first | (with_reducible first | exact HB.out | apply below_alloc | apply pw_below_drewN | apply below_drew1) | exact HB.out)))); have n3_ := Aside0.mk (below_step (by repeat (first | (with_reducible first | exact HB.out | apply below_alloc | apply pw_below_drewN | apply below_drew1) | exact HB.out)) hb); clear HO_3; clear HO_6; clear HB; have HO_3 := n0_; have HO_6 := n1_; have HO365 := n2_; have HB := n3_; clear n0_ n1_ n2_ n3_; (try clear hb); (try clear hb2); (try clear hk); (try clear hi); (try clear ho0)) | ((with_reducible refine gate_callee (f := 15) rfl ?_); refine goesL_ (some 120) rfl rfl Tryd.func15 (by kernel_rfl) rfl #[] rfl (by (try simp only [List.map_toArray, List.map_cons, List.map_nil]); first | done | rfl | (simp only [List.length_drop, List.length_take]; rfl)) ?_; (with_reducible refine (heraldlaw03_awake.calls k4  true _ A56.out).mono ?_); rintro e w60 ⟨rfl, hb⟩; refine ⟨_, rfl, ?_⟩; have n0_ := Aside0.mk (Kd.R_below (by (with_reducible repeat (first | apply Kd.R_alloc | apply Kd.R_drewN | apply Kd.R_drew)); exact HO_3.out) hb); have n1_ := Aside0.mk (Kd.S_below (by (with_reducible repeat (first | apply Kd.S_alloc | apply Kd.S_drewN | apply Kd.S_drew)); exact HO_6.out) hb); have n2_ := Aside0.mk (Kd.R_below (by (with_reducible repeat (first | apply Kd.R_alloc | apply Kd.R_drewN | apply Kd.R_drew)); exact HO365.out) hb); have n3_ := Aside0.mk (below_step (by repeat (first | (with_reducible first | exact HB.out | apply below_alloc | apply pw_below_drewN | apply below_drew1) | exact HB.out)) hb); clear HO_3; clear HO_6; clear HO365; clear HB; have HO_3 := n0_; have HO_6 := n1_; have HO365 := n2_; have HB := n3_; clear n0_ n1_ n2_ n3_; (try clear hb); (try clear hb2); (try clear hk); (try clear hi); obtain ⟨Ao61, co61, eo61⟩ := Kd.R_slice HO365.out; subst eo61; obtain ⟨Ao62, co62, eo62⟩ := Kd.R_slice HO_3.out; subst eo62) | (go_at_call 19; (with_reducible refine (heraldlaw03_rows.calls k4 _ _ t361 _ _ x3_2 t367 _ ?side1 ?side2 ?side3 ?side4 A58.out).mono ?_); (case side1 => repeat (first | exact (Kd.R_reads' HO365.out).2.2 | (with_reducible refine Kd.C_alloc ?_ _) | (with_reducible refine Kd.C_drewN ?_ _) | (with_reducible refine Kd.C_drew ?_))); (case side2 => exact (Kd.R_reads' HO365.out).2.1); (case side3 => repeat (first | exact (Kd.R_reads' HO_3.out).2.2 | (with_reducible refine Kd.C_alloc ?_ _) | (with_reducible refine Kd.C_drewN ?_ _) | (with_reducible refine Kd.C_drew ?_))); (case side4 => exact (Kd.R_reads' HO_3.out).2.1); rintro e w' ⟨rfl, ⟨nd, rfl⟩⟩))
                              go_ret
                              exact ⟨by first | rfl | (simp [errW_none, errW_some] <;> rfl) | (simp [*, errW_none, errW_some] <;> rfl), by repeat (first | (with_reducible first | exact HB.out | apply below_alloc | apply pw_below_drewN | apply below_drew1) | exact HB.out)⟩
                            · replace c57 := Bool.eq_false_iff.mpr c57
                              subst c57
                              have H1 : (some false) = some r := by rw [if_neg (show ¬ (false = true) by decide)] at H; exact H
                              clear H
                              have H := H1
                              clear H1
                              obtain rfl := Option.some.inj H
                              go_wp2_with (first | ((with_reducible refine gate_callee (f := 21) rfl ?_); refine goesL_ (some 116) rfl rfl Tryd.func21 (by kernel_rfl) rfl #[.slice A0 l0.length c0] rfl (by (try simp only [List.map_toArray, List.map_cons, List.map_nil]); first | done | rfl | (simp only [List.length_drop, List.length_take]; rfl)) ?_; (with_reducible refine (single_Quantise.calls k4 _ _ l0 t361 t362 t363 _ ?side1 ?side2 A55.out (by first | exact HTab.out | exact tab_below HTab.out (by repeat (first | (with_reducible first | exact HB.out | apply below_alloc | apply pw_below_drewN | apply below_drew1) | exact HB.out)))).mono ?_); (case side1 => repeat (first | exact (Kd.C_below HR0.out HB.out) | (with_reducible refine Kd.C_alloc ?_ _) | (with_reducible refine Kd.C_drewN ?_ _) | (with_reducible refine Kd.C_drew ?_))); (case side2 => exact HC0.out); rintro e w63 ⟨v364, rfl, ho0, hb⟩; refine ⟨_, rfl, ?_⟩; have n0_ := Aside0.mk (Kd.R_elder' (by (with_reducible repeat (first | apply Kd.R_alloc | apply Kd.R_drewN | apply Kd.R_drew)); exact HO_3.out) (Kd.R_base ho0) hb); have n1_ := Aside0.mk (Kd.S_elder' (by (with_reducible repeat (first | apply Kd.S_alloc | apply Kd.S_drewN | apply Kd.S_drew)); exact HO_6.out) (Kd.R_base ho0) hb); have n2_ := Aside0.mk (Kd.R_lower (Kd.R_new' ho0 (Kd.R_lt (by (with_reducible repeat (first | apply Kd.R_alloc | apply Kd.R_drewN | apply Kd.R_drew)); exact HO_3.out))) (below_size (by repeat (first | (with_reducible first | exact HB.out | apply below_alloc | apply pw_below_drewN | apply below_drew1) | exact HB.out)))); have n3_ := Aside0.mk (below_step (by repeat (first | (with_reducible first | exact HB.out | apply below_alloc | apply pw_below_drewN | apply below_drew1) | exact HB.out)) hb); clear HO_3; clear HO_6; clear HB; have HO_3 := n0_; have HO_6 := n1_; have HO365 := n2_; have HB := n3_; clear n0_ n1_ n2_ n3_; (try clear hb); (try clear hb2); (try clear hk); (try clear hi); (try clear ho0)) | ((with_reducible refine gate_callee (f := 15) rfl ?_); refine goesL_ (some 120) rfl rfl Tryd.func15 (by kernel_rfl) rfl #[] rfl (by (try simp only [List.map_toArray, List.map_cons, List.map_nil]); first | done | rfl | (simp only [List.length_drop, List.length_take]; rfl)) ?_; (with_reducible refine (heraldlaw03_awake.calls k4  false _ A56.out).mono ?_); rintro e w64 ⟨rfl, hb⟩; refine ⟨_, rfl, ?_⟩; have n0_ := Aside0.mk (Kd.R_below (by (with_reducible repeat (first | apply Kd.R_alloc | apply Kd.R_drewN | apply Kd.R_drew)); exact HO_3.out) hb); have n1_ := Aside0.mk (Kd.S_below (by (with_reducible repeat (first | apply Kd.S_alloc | apply Kd.S_drewN | apply Kd.S_drew)); exact HO_6.out) hb); have n2_ := Aside0.mk (Kd.R_below (by (with_reducible repeat (first | apply Kd.R_alloc | apply Kd.R_drewN | apply Kd.R_drew)); exact HO365.out) hb); have n3_ := Aside0.mk (below_step (by repeat (first | (with_reducible first | exact HB.out | apply below_alloc | apply pw_below_drewN | apply below_drew1) | exact HB.out)) hb); clear HO_3; clear HO_6; clear HO365; clear HB; have HO_3 := n0_; have HO_6 := n1_; have HO365 := n2_; have HB := n3_; clear n0_ n1_ n2_ n3_; (try clear hb); (try clear hb2); (try clear hk); (try clear hi)))
                              go_ret
                              exact ⟨by first | rfl | (simp [errW_none, errW_some] <;> rfl) | (simp [*, errW_none, errW_some] <;> rfl), by repeat (first | (with_reducible first | exact HB.out | apply below_alloc | apply pw_below_drewN | apply below_drew1) | exact HB.out)⟩
  · rw [if_neg c2] at H
    exact absurd H (by simp)

end Go.Proofs.YteecekhfpfnepaaDoor.PAll
