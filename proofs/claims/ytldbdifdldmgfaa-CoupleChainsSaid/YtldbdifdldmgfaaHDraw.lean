/- By hand: couple.Draw as a function of lists, with its contract. -/
import Derived.Test.YtldbdifdldmgfaaHFind
namespace Go.Proofs.Ytldbdifdldmgfaa.PAll
open Go.RowKit Go.Proofs.YtldbdifdldmgfaaW.PrintWords Go.Proofs.YtldbdifdldmgfaaW.PrintLast Go.Proofs.YtldbdifdldmgfaaW.PrintMore
attribute [local go_sem] max2_int min2_int max_two min_two max_three min_three max_four min_four
set_option linter.unusedVariables false
set_option linter.unusedSimpArgs false

def couple_Draw.f (k : Nat) (l : List Int) (u : Int) : Option (Int × Int) :=
  (couple_Check.f k l).bind fun c => if c.2 = 0 then (if u < 0 ∨ u ≥ c.1 then some (0, 241) else some ((findL l 0 u).1, 0)) else some (0, c.2)
theorem couple_Draw.mono : ∀ a0 a1 k, LeO (couple_Draw.f k a0 a1) (couple_Draw.f (k + 1) a0 a1) := by
  intro a0 a1 k
  unfold couple_Draw.f
  exact LeO.bind (couple_Check.mono _ _) (fun _ => LeO.refl _)

set_option maxHeartbeats 800000 in
set_option maxRecDepth 100000 in
theorem couple_Draw.calls (k : Nat) (A0 : Option Addr) (c0 : Nat) (l0 : List Int) (a1 : Int) (r1 : Int) (r2 : Int) (w : World) (hr0 : Kd.C (Kd.int .i64) w A0 l0.length l0) (hc0 : l0.length ≤ c0) (h : couple_Draw.f k l0 a1 = some (r1, r2)) :
    Calls Try.prog 27 #[.slice A0 l0.length c0, .int .i64 a1] w fun e w' => e = .returned (.tuple #[.int .i64 r1, .int .i64 r2]) ∧ Below w.heap.size w w' := by
  unfold couple_Draw.f at h
  obtain ⟨⟨s, e⟩, hc, h⟩ := Option.bind_eq_some_iff.mp h
  have HCheck := Aside0.mk hc
  have HR := Aside0.mk hr0
  have HW := Aside0.mk (below_alloc (Below.refl w.heap.size w) (.cells #[.slice A0 l0.length c0] 22))
  have hmf : ∀ (fn : Fn) (first cap : Array Value) (w : World), (Instr.makeFunc fn first cap).run Try.prog w = .ok (.func fn first cap) w := fun _ _ _ _ => rfl
  clear hc hr0
  by_cases he : e = 0
  · subst he
    simp only [if_true] at h
    by_cases hu : a1 < 0
    · rw [if_pos (Or.inl hu)] at h
      obtain ⟨rfl, rfl⟩ : 0 = r1 ∧ 241 = r2 := by simpa using h
      have hu' : decide (a1 < 0) = true := by simpa using hu
      clear hu h
      go_enter Try.func27, Try.ntmps27
      go_wp2_with (go_at_call 26; refine (couple_Check.calls k A0 c0 l0 s 0 _ (by (with_reducible repeat (first | apply Kd.C_alloc | apply Kd.C_drewN)); exact HR.out) hc0 HCheck.out).mono ?_; rintro e w' ⟨rfl, ⟨nd, rfl⟩⟩)
      go_ret2
      exact ⟨by first | rfl | (simp; done), pw_below_drewN HW.out _⟩
    · have h0 : 0 ≤ a1 := by omega
      by_cases hs : a1 ≥ s
      · rw [if_pos (Or.inr hs)] at h
        obtain ⟨rfl, rfl⟩ : 0 = r1 ∧ 241 = r2 := by simpa using h
        have hu' : decide (a1 < 0) = false := by simpa using hu
        have hs' : decide (s ≤ a1) = true := by simpa using hs
        clear hu hs h h0
        go_enter Try.func27, Try.ntmps27
        go_wp2_with (go_at_call 26; refine (couple_Check.calls k A0 c0 l0 s 0 _ (by (with_reducible repeat (first | apply Kd.C_alloc | apply Kd.C_drewN)); exact HR.out) hc0 HCheck.out).mono ?_; rintro e w' ⟨rfl, ⟨nd, rfl⟩⟩)
        go_ret2
        exact ⟨by first | rfl | (simp; done), pw_below_drewN HW.out _⟩
      · rw [if_neg (by omega)] at h
        obtain ⟨rfl, rfl⟩ : (findL l0 0 a1).1 = r1 ∧ 0 = r2 := by simpa using h
        have hu' : decide (a1 < 0) = false := by simpa using hu
        have hs' : decide (s ≤ a1) = false := by simpa using hs
        clear hu hs h h0
        have hfind : ∀ nd : Nat, Calls Try.prog 38 #[.int .i64 (l0.length : Int), .func (.func 45) #[] #[.pointer (some ⟨w.heap.size, 0, none⟩)], .int .i64 a1] ((w.alloc (.cells #[.slice A0 l0.length c0] 22)).drewN nd) (FindPost l0 a1 ((w.alloc (.cells #[.slice A0 l0.length c0] 22)).drewN nd)) := by
          intro nd
          refine find_draw l0 w.heap.size a1 _ (by have := Kd.C_max HR.out; omega) ?_
          rintro j W hj ⟨⟨n, rfl⟩⟩
          exact draw1_calls A0 c0 l0 w.heap.size j _ (by (with_reducible repeat (first | apply Kd.C_alloc | apply Kd.C_drewN)); exact HR.out) hc0 (by simp [World.cell?_alloc_at]) (by omega) (by omega)
        have HFind := Aside0.mk hfind
        clear hfind
        go_enter Try.func27, Try.ntmps27
        go_wp2_with (first | (go_at_call 26; refine (couple_Check.calls k A0 c0 l0 s 0 _ (by (with_reducible repeat (first | apply Kd.C_alloc | apply Kd.C_drewN)); exact HR.out) hc0 HCheck.out).mono ?_; rintro e w' ⟨rfl, ⟨nd, rfl⟩⟩) | (go_at_call 38; refine (HFind.out _).mono ?_; rintro e w' ⟨rfl, ⟨nd2, rfl⟩⟩))
        go_ret2
        refine ⟨by first | rfl | (simp; done), ?_⟩
        repeat (first | exact HW.out | refine pw_below_drewN ?_ _)
  · simp only [he, if_false] at h
    obtain ⟨rfl, rfl⟩ : 0 = r1 ∧ e = r2 := by simpa using h
    have he1 : (e != 0) = true := by simpa using he
    clear he h
    go_enter Try.func27, Try.ntmps27
    go_wp2_with (go_at_call 26; refine (couple_Check.calls k A0 c0 l0 s e _ (by (with_reducible repeat (first | apply Kd.C_alloc | apply Kd.C_drewN)); exact HR.out) hc0 HCheck.out).mono ?_; rintro e w' ⟨rfl, ⟨nd, rfl⟩⟩)
    go_ret2
    exact ⟨by first | rfl | (simp; done), pw_below_drewN HW.out _⟩
end Go.Proofs.Ytldbdifdldmgfaa.PAll
