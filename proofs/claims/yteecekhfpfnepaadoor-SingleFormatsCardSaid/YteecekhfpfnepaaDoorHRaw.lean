/- By hand: the reference's raw: kind, sign and number of a single's bits. -/
import Derived.Test.YteecekhfpfnepaaDoorPAllx0
namespace Go.Proofs.YteecekhfpfnepaaDoor.PAll
open Go.RowKit Go.Proofs.YteecekhfpfnepaaDoorW.PrintWords Go.Proofs.YteecekhfpfnepaaDoorW.PrintLast Go.Proofs.YteecekhfpfnepaaDoorW.PrintMore
set_option linter.unusedVariables false
set_option linter.unusedSimpArgs false

def rawV (a : Int) : Int × Bool × Int × Int :=
  if a / 8388608 % 256 = 255 then (if a % 8388608 = 0 then (1, decide (2147483648 ≤ a), 0, 0) else (2, false, 0, 0))
  else if a / 8388608 % 256 = 0 then (0, decide (2147483648 ≤ a), a % 8388608, -149) else (0, decide (2147483648 ≤ a), 8388608 + a % 8388608, a / 8388608 % 256 - 150)
def heraldref03_raw.f (a0 : Int) : Option (Int × Bool × Int × Int) := if 0 ≤ a0 ∧ a0 < 4294967296 then some (rawV a0) else none
set_option maxRecDepth 20000 in
set_option maxHeartbeats 1600000 in
theorem heraldref03_raw.calls (a0 : Int) (r1 : Int) (r2 : Bool) (r3 : Int) (r4 : Int) (w : World) (h : heraldref03_raw.f a0 = some (r1, r2, r3, r4)) :
    Calls Tryd.prog 37 #[.int .u32 a0] w fun e w' => e = .returned (.tuple #[.int .i64 r1, .bool r2, .int .i64 r3, .int .i64 r4]) ∧ Drawn0 w w' := by
  unfold heraldref03_raw.f at h
  split at h
  case isFalse => simp at h
  case isTrue hr =>
  obtain ⟨h0, h1⟩ := hr
  have h' := Option.some.inj h
  clear h
  have hd : Int.tdiv a0 8388608 = a0 / 8388608 := Int.tdiv_eq_ediv_of_nonneg h0
  have hm : Int.tmod a0 8388608 = a0 % 8388608 := Int.tmod_eq_emod_of_nonneg h0
  unfold rawV at h'
  have e1 : a0 / 8388608 % 4294967296 % 256 = a0 / 8388608 % 256 := by omega
  have e2 : wrap64 (a0 % 8388608) = a0 % 8388608 := by unfold wrap64; omega
  obtain ⟨e, he⟩ : ∃ e, a0 / 8388608 % 256 = e := ⟨_, rfl⟩
  obtain ⟨f, hf⟩ : ∃ f, a0 % 8388608 = f := ⟨_, rfl⟩
  have hf0 : 0 ≤ f := by omega
  have hf1 : f < 8388608 := by omega
  have he0 : 0 ≤ e := by omega
  have he1 : e < 256 := by omega
  rw [he, hf] at h'
  rw [he] at e1
  rw [hf] at e2
  by_cases c1 : e = 255
  · subst c1
    rw [if_pos rfl] at h'
    by_cases c2 : f = 0
    · subst c2
      rw [if_pos rfl] at h'
      obtain ⟨rfl, rfl, rfl, rfl⟩ : 1 = r1 ∧ decide (2147483648 ≤ a0) = r2 ∧ 0 = r3 ∧ 0 = r4 := by simpa using h'
      go_enter Tryd.func37, Tryd.ntmps37
      go_wp2
      refine bodyPost_ret (results_list (rs := [.tmp 2, .tmp 3, .tmp 4, .tmp 5]) rfl (by simp) (.tmp (.tmp (.tmp (.tmp .nil))))) rfl ?_
      exact ⟨by first | rfl | (simp; done), by repeat (first | exact Drawn0.refl _ | apply Drawn0.step)⟩
    · rw [if_neg c2] at h'
      obtain ⟨rfl, rfl, rfl, rfl⟩ : 2 = r1 ∧ false = r2 ∧ 0 = r3 ∧ 0 = r4 := by simpa using h'
      go_enter Tryd.func37, Tryd.ntmps37
      go_wp2
      refine bodyPost_ret (results_list (rs := [.tmp 2, .tmp 3, .tmp 4, .tmp 5]) rfl (by simp) (.tmp (.tmp (.tmp (.tmp .nil))))) rfl ?_
      exact ⟨by first | rfl | (simp; done), by repeat (first | exact Drawn0.refl _ | apply Drawn0.step)⟩
  · rw [if_neg c1] at h'
    by_cases c2 : e = 0
    · subst c2
      rw [if_pos rfl] at h'
      obtain ⟨rfl, rfl, rfl, rfl⟩ : 0 = r1 ∧ decide (2147483648 ≤ a0) = r2 ∧ f = r3 ∧ -149 = r4 := by simpa using h'
      go_enter Tryd.func37, Tryd.ntmps37
      go_wp2
      refine bodyPost_ret (results_list (rs := [.tmp 2, .tmp 3, .tmp 4, .tmp 5]) rfl (by simp) (.tmp (.tmp (.tmp (.tmp .nil))))) rfl ?_
      exact ⟨by first | rfl | (simp; done), by repeat (first | exact Drawn0.refl _ | apply Drawn0.step)⟩
    · rw [if_neg c2] at h'
      obtain ⟨rfl, rfl, rfl, rfl⟩ : 0 = r1 ∧ decide (2147483648 ≤ a0) = r2 ∧ 8388608 + f = r3 ∧ e - 150 = r4 := by simpa using h'
      go_enter Tryd.func37, Tryd.ntmps37
      go_wp2
      refine bodyPost_ret (results_list (rs := [.tmp 2, .tmp 3, .tmp 4, .tmp 5]) rfl (by simp) (.tmp (.tmp (.tmp (.tmp .nil))))) rfl ?_
      exact ⟨by first | rfl | (simp; done), by repeat (first | exact Drawn0.refl _ | apply Drawn0.step)⟩
end Go.Proofs.YteecekhfpfnepaaDoor.PAll
