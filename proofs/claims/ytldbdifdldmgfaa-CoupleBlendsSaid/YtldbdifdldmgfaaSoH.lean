/- The library's sort as Blend calls it, and its comparison. -/
import Derived.Test.YtldbdifdldmgfaaSoG
namespace Go.Proofs.Ytldbdifdldmgfaa.PAll
open Go.RowKit Go.Proofs.Ytldbdifdldmgfaa.Math Go.Proofs.YtldbdifdldmgfaaW.PrintWords Go.Proofs.YtldbdifdldmgfaaW.PrintLast Go.Proofs.YtldbdifdldmgfaaW.PrintMore
set_option linter.unusedVariables false
set_option linter.unusedSimpArgs false

set_option maxHeartbeats 800000 in
theorem sortStable_calls (w0 W : World) (g gb n cap : Nat) (lv : Int → Int) (H : SO w0 W g (rng 0 n)) (hC : Cmps w0 g gb n lv) (hlv : ∀ x, 0 ≤ lv x ∧ lv x ≤ 65536) (hn0 : 0 < n) (hn2 : n ≤ 512) :
    Calls Try.prog 46 #[.slice (some ⟨g, 0, none⟩) n cap, .func (.func 47) #[] #[.pointer (some ⟨gb, 0, none⟩)]] W fun e w' => e = .returned (.tuple #[]) ∧ ∃ Z, Sorted lv (rng 0 n) Z ∧ SO w0 w' g Z := by
  have HS := Aside0.mk (stable_calls w0 W g gb n cap lv H hC hlv hn0 hn2)
  clear H hC hlv
  go_enter Try.func46, Try.ntmps46
  go_wp2_with (go_at_call 48; refine HS.out.mono ?_; rintro e w' ⟨rfl, hz⟩; have HZ := Aside0.mk hz; clear hz)
  go_end0
  exact ⟨rfl, HZ.out⟩
set_option maxHeartbeats 1600000 in
theorem cmp_calls (w : World) (gb gl n c : Nat) (left : List Int) (hb : w.cell? ⟨gb, 0, none⟩ = some (.slice (some ⟨gl, 0, none⟩) n c)) (hl : left.length = n) (hc : ∀ i : Nat, i < n → w.cell? ⟨gl, i, none⟩ = some (.int .i64 (rd left (i : Int)))) (hlv : ∀ x, 0 ≤ rd left x ∧ rd left x ≤ 65536) (hn2 : n ≤ 512) (a b : Int) (a0 : 0 ≤ a) (a1 : a < n) (b0 : 0 ≤ b) (b1 : b < n) :
    Calls Try.prog 47 #[.int .i64 a, .int .i64 b, .pointer (some ⟨gb, 0, none⟩)] w fun e w' => e = .returned (.int .i64 (rd left b - rd left a)) ∧ Drawn0 w w' := by
  obtain ⟨i, rfl⟩ := Int.eq_ofNat_of_zero_le a0
  obtain ⟨j, rfl⟩ := Int.eq_ofNat_of_zero_le b0
  have c1 := hc i (by omega)
  have c2 := hc j (by omega)
  have h1 := hlv (i : Int)
  have h2 := hlv (j : Int)
  obtain ⟨x, hx⟩ : ∃ x, rd left (i : Int) = x := ⟨_, rfl⟩
  obtain ⟨y, hy⟩ : ∃ y, rd left (j : Int) = y := ⟨_, rfl⟩
  rw [hx] at c1 h1 ⊢
  rw [hy] at c2 h2 ⊢
  obtain ⟨h3, h4⟩ := h1
  obtain ⟨h5, h6⟩ := h2
  clear hc hlv hx hy hl
  go_enter Try.func47, Try.ntmps47
  go_wp2
  go_quiet (fail)
  go_wp2
  go_ret
  exact ⟨by first | rfl | (simp; done), by repeat (first | exact Drawn0.refl _ | apply Drawn0.step)⟩
theorem cmps_of (w0 : World) (g gb gl n c : Nat) (left : List Int) (hgb : gb ≠ g) (hgl : gl ≠ g) (hb : w0.cell? ⟨gb, 0, none⟩ = some (.slice (some ⟨gl, 0, none⟩) n c)) (hl : left.length = n) (hc : ∀ i : Nat, i < n → w0.cell? ⟨gl, i, none⟩ = some (.int .i64 (rd left (i : Int)))) (hlv : ∀ x, 0 ≤ rd left x ∧ rd left x ≤ 65536) (hn2 : n ≤ 512) :
    Cmps w0 g gb n (fun x => rd left x) :=
  ⟨fun W l hS a b a0 a1 b0 b1 => cmp_calls W gb gl n c left (hS.old hgb _ hb) hl (fun i hi => hS.old hgl _ (hc i hi)) hlv hn2 a b a0 a1 b0 b1⟩
end Go.Proofs.Ytldbdifdldmgfaa.PAll
