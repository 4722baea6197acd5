/- By hand: the traversal 'find' of layer 24 with each of its three closures. -/
import Derived.Test.YtldbdifdldmgfaaPAllx2
namespace Go.Proofs.Ytldbdifdldmgfaa.PAll
open Go.RowKit Go.Proofs.YtldbdifdldmgfaaW.PrintWords Go.Proofs.YtldbdifdldmgfaaW.PrintLast Go.Proofs.YtldbdifdldmgfaaW.PrintMore
attribute [local go_sem] max2_int min2_int max_two min_two max_three min_three max_four min_four
set_option linter.unusedVariables false
set_option linter.unusedSimpArgs false

/-- What 'find' computes over the widths. -/
def findL : List Int → Int → Int → Int × Int
  | [], _, _ => (0, 0)
  | x :: xs, i, u => if u < x then (i, u) else findL xs (i + 1) (wrap64 (u - x))

def FindPost (ws : List Int) (u : Int) (w : World) (e : Ending) (w' : World) : Prop := e = .returned (.tuple #[.int .i64 (findL ws 0 u).1, .int .i64 (findL ws 0 u).2]) ∧ Drawn0 w w'

/-- What is left of the true weights. -/
def resL (l0 l1 : List Int) : List Int := List.zipWith (fun a b => wrap64 (a - mn a b)) l0 l1
theorem resL_length (l0 l1 : List Int) (h : l0.length = l1.length) : (resL l0 l1).length = l0.length := by simp [resL, h]
theorem resL_rd (l0 l1 : List Int) (h : l0.length = l1.length) (j : Nat) (hj : j < l0.length) : rd (resL l0 l1) (j : Int) = wrap64 (rd l0 j - mn (rd l0 j) (rd l1 j)) := by
  have h1 : j < l1.length := by omega
  simp [resL, rd, List.getD_eq_getElem?_getD, List.getElem?_zipWith, hj, h1]

set_option maxHeartbeats 400000 in
theorem guess2_calls (A0 : Option Addr) (c0 : Nat) (l0 : List Int) (A1 : Option Addr) (c1 : Nat) (l1 : List Int) (b0 b1 : Nat) (i : Int) (w : World) (hr0 : Kd.C (Kd.int .i64) w A0 l0.length l0) (hc0 : l0.length ≤ c0) (hr1 : Kd.C (Kd.int .i64) w A1 l1.length l1) (hc1 : l1.length ≤ c1)
    (hb0 : w.cell? ⟨b0, 0, none⟩ = some (.slice A0 l0.length c0)) (hb1 : w.cell? ⟨b1, 0, none⟩ = some (.slice A1 l1.length c1)) (h0 : 0 ≤ i) (h1 : i < (l0.length : Int)) (h2 : i < (l1.length : Int)) :
    Calls Try.prog 40 #[.int .i64 i, .pointer (some ⟨b0, 0, none⟩), .pointer (some ⟨b1, 0, none⟩)] w fun e w' => e = .returned (.int .i64 (wrap64 (rd l0 i - mn (rd l0 i) (rd l1 i)))) ∧ Drawn0 w w' := by
  obtain ⟨ad, rfl, hcell⟩ := Kd.at_int hr0 i h0 h1
  obtain ⟨ad1, rfl, hcell1⟩ := Kd.at_int hr1 i h0 h2
  go_enter Try.func40, Try.ntmps40
  go_wp2
  go_quiet (fail)
  go_wp2
  all_goals go_ret
  all_goals refine ⟨?_, by repeat (first | exact Drawn0.refl _ | apply Drawn0.step)⟩
  · have h : rd l1 i < rd l0 i := by assumption
    rw [show mn (rd l0 i) (rd l1 i) = rd l1 i from by unfold mn; rw [if_pos h]]
    simp
  · have h : rd l0 i ≤ rd l1 i := by assumption
    rw [show mn (rd l0 i) (rd l1 i) = rd l0 i from by unfold mn; rw [if_neg (by omega)]]
    simp

set_option maxHeartbeats 400000 in
theorem draw1_calls (A0 : Option Addr) (c0 : Nat) (l0 : List Int) (b : Nat) (i : Int) (w : World) (hr0 : Kd.C (Kd.int .i64) w A0 l0.length l0) (hc0 : l0.length ≤ c0)
    (hb : w.cell? ⟨b, 0, none⟩ = some (.slice A0 l0.length c0)) (h0 : 0 ≤ i) (h1 : i < (l0.length : Int)) :
    Calls Try.prog 45 #[.int .i64 i, .pointer (some ⟨b, 0, none⟩)] w fun e w' => e = .returned (.int .i64 (rd l0 i)) ∧ Drawn0 w w' := by
  obtain ⟨ad, rfl, hcell⟩ := Kd.at_int hr0 i h0 h1
  go_enter Try.func45, Try.ntmps45
  go_wp2
  go_ret
  exact ⟨by first | rfl | (simp; done), by repeat (first | exact Drawn0.refl _ | apply Drawn0.step)⟩

set_option maxHeartbeats 400000 in
theorem guess1_calls (A0 : Option Addr) (c0 : Nat) (l0 : List Int) (b : Nat) (i : Int) (w : World) (hr0 : Kd.C (Kd.int .i64) w A0 l0.length l0) (hc0 : l0.length ≤ c0)
    (hb : w.cell? ⟨b, 0, none⟩ = some (.slice A0 l0.length c0)) (h0 : 0 ≤ i) (h1 : i < (l0.length : Int)) :
    Calls Try.prog 39 #[.int .i64 i, .pointer (some ⟨b, 0, none⟩)] w fun e w' => e = .returned (.int .i64 (rd l0 i)) ∧ Drawn0 w w' := by
  obtain ⟨ad, rfl, hcell⟩ := Kd.at_int hr0 i h0 h1
  go_enter Try.func39, Try.ntmps39
  go_wp2
  go_ret
  exact ⟨by first | rfl | (simp; done), by repeat (first | exact Drawn0.refl _ | apply Drawn0.step)⟩

set_option maxHeartbeats 800000 in
set_option maxRecDepth 100000 in
theorem find_draw (ws : List Int) (b : Nat) (u : Int) (w : World) (hmax : (ws.length : Int) ≤ 9223372036854775807)
    (hcl : ∀ (j : Nat) (W : World), j < ws.length → Drawn0 w W → Calls Try.prog 45 #[.int .i64 (j : Int), .pointer (some ⟨b, 0, none⟩)] W fun e w' => e = .returned (.int .i64 (rd ws j)) ∧ Drawn0 W w') :
    Calls Try.prog 38 #[.int .i64 (ws.length : Int), .func (.func 45) #[] #[.pointer (some ⟨b, 0, none⟩)], .int .i64 u] w (FindPost ws u w) := by
  have HM := Aside0.mk hmax
  have HCLS := Aside0.mk hcl
  clear hmax hcl
  go_enter Try.func38, Try.ntmps38
  go_wp2
  go_loopw [2, 10] (fun v2 v10 w' => ∃ (j : Nat) (q : Int), j ≤ ws.length ∧ v2 = .int .i64 q ∧ v10 = .int .i64 (j : Int) ∧ Aside0 (findL ws 0 u = findL (ws.drop j) (j : Int) q) ∧ Drawn0 w w') (fun _ v10 _ => ws.length - (intOf v10).toNat)
  case atStart => exact ⟨0, u, Nat.zero_le _, rfl, rfl, ⟨rfl⟩, Drawn0.refl _⟩
  case round =>
    obtain ⟨j, q, hj, rfl, rfl, HF, hd⟩ := hrel
    obtain ⟨m1, rfl⟩ := hd.out
    have hM := HM.out
    by_cases hlt : j < ws.length
    · obtain ⟨x, hx⟩ : ∃ x, rd ws (j : Int) = x := ⟨_, rfl⟩
      have HD : Aside0 (ws.drop j = x :: ws.drop (j + 1)) := ⟨by rw [List.drop_eq_getElem_cons hlt]; congr 1; rw [← hx]; unfold rd; simp [hlt]⟩
      have hcl : ∀ W : World, Drawn0 w W → Calls Try.prog 45 #[.int .i64 (j : Int), .pointer (some ⟨b, 0, none⟩)] W fun e w' => e = .returned (.int .i64 x) ∧ Drawn0 W w' := by
        rw [← hx]
        exact fun W hW => HCLS.out j W hlt hW
      have HCL := Aside0.mk hcl
      clear hcl hx
      by_cases hq : q < x
      · have hq' : decide (q < x) = true := by simpa using hq
        clear hq
        go_wp2_with (go_at_call 45; refine (HCL.out _ ⟨⟨_, rfl⟩⟩).mono ?_; rintro e w' ⟨rfl, ⟨nd, rfl⟩⟩)
        go_ret2
        refine ⟨?_, ?_⟩
        · rw [HF.out, HD.out]; simp [findL, of_decide_eq_true hq']
        · repeat (first | exact Drawn0.refl _ | apply Drawn0.step)
      · have hq' : decide (q < x) = false := by simpa using hq
        clear hq
        go_wp2_with (go_at_call 45; refine (HCL.out _ ⟨⟨_, rfl⟩⟩).mono ?_; rintro e w' ⟨rfl, ⟨nd, rfl⟩⟩)
        go_roundw
        case rel => exact ⟨j + 1, wrap64 (q - x), by omega, rfl, by go_num, ⟨by rw [HF.out, HD.out]; simp [findL, of_decide_eq_false hq']⟩, by repeat (first | exact Drawn0.refl _ | apply Drawn0.step)⟩
        case measure => simp [intOf]; omega
    · obtain rfl : j = ws.length := by omega
      go_wp2
      go_ret2
      refine ⟨?_, ?_⟩
      · rw [HF.out]; simp [findL]
      · repeat (first | exact Drawn0.refl _ | apply Drawn0.step)

set_option maxHeartbeats 800000 in
set_option maxRecDepth 100000 in
theorem find_guess1 (ws : List Int) (b : Nat) (u : Int) (w : World) (hmax : (ws.length : Int) ≤ 9223372036854775807)
    (hcl : ∀ (j : Nat) (W : World), j < ws.length → Drawn0 w W → Calls Try.prog 39 #[.int .i64 (j : Int), .pointer (some ⟨b, 0, none⟩)] W fun e w' => e = .returned (.int .i64 (rd ws j)) ∧ Drawn0 W w') :
    Calls Try.prog 38 #[.int .i64 (ws.length : Int), .func (.func 39) #[] #[.pointer (some ⟨b, 0, none⟩)], .int .i64 u] w (FindPost ws u w) := by
  have HM := Aside0.mk hmax
  have HCLS := Aside0.mk hcl
  clear hmax hcl
  go_enter Try.func38, Try.ntmps38
  go_wp2
  go_loopw [2, 10] (fun v2 v10 w' => ∃ (j : Nat) (q : Int), j ≤ ws.length ∧ v2 = .int .i64 q ∧ v10 = .int .i64 (j : Int) ∧ Aside0 (findL ws 0 u = findL (ws.drop j) (j : Int) q) ∧ Drawn0 w w') (fun _ v10 _ => ws.length - (intOf v10).toNat)
  case atStart => exact ⟨0, u, Nat.zero_le _, rfl, rfl, ⟨rfl⟩, Drawn0.refl _⟩
  case round =>
    obtain ⟨j, q, hj, rfl, rfl, HF, hd⟩ := hrel
    obtain ⟨m1, rfl⟩ := hd.out
    have hM := HM.out
    by_cases hlt : j < ws.length
    · obtain ⟨x, hx⟩ : ∃ x, rd ws (j : Int) = x := ⟨_, rfl⟩
      have HD : Aside0 (ws.drop j = x :: ws.drop (j + 1)) := ⟨by rw [List.drop_eq_getElem_cons hlt]; congr 1; rw [← hx]; unfold rd; simp [hlt]⟩
      have hcl : ∀ W : World, Drawn0 w W → Calls Try.prog 39 #[.int .i64 (j : Int), .pointer (some ⟨b, 0, none⟩)] W fun e w' => e = .returned (.int .i64 x) ∧ Drawn0 W w' := by
        rw [← hx]
        exact fun W hW => HCLS.out j W hlt hW
      have HCL := Aside0.mk hcl
      clear hcl hx
      by_cases hq : q < x
      · have hq' : decide (q < x) = true := by simpa using hq
        clear hq
        go_wp2_with (go_at_call 39; refine (HCL.out _ ⟨⟨_, rfl⟩⟩).mono ?_; rintro e w' ⟨rfl, ⟨nd, rfl⟩⟩)
        go_ret2
        refine ⟨?_, ?_⟩
        · rw [HF.out, HD.out]; simp [findL, of_decide_eq_true hq']
        · repeat (first | exact Drawn0.refl _ | apply Drawn0.step)
      · have hq' : decide (q < x) = false := by simpa using hq
        clear hq
        go_wp2_with (go_at_call 39; refine (HCL.out _ ⟨⟨_, rfl⟩⟩).mono ?_; rintro e w' ⟨rfl, ⟨nd, rfl⟩⟩)
        go_roundw
        case rel => exact ⟨j + 1, wrap64 (q - x), by omega, rfl, by go_num, ⟨by rw [HF.out, HD.out]; simp [findL, of_decide_eq_false hq']⟩, by repeat (first | exact Drawn0.refl _ | apply Drawn0.step)⟩
        case measure => simp [intOf]; omega
    · obtain rfl : j = ws.length := by omega
      go_wp2
      go_ret2
      refine ⟨?_, ?_⟩
      · rw [HF.out]; simp [findL]
      · repeat (first | exact Drawn0.refl _ | apply Drawn0.step)

set_option maxHeartbeats 800000 in
set_option maxRecDepth 100000 in
theorem find_guess2 (ws : List Int) (b0 b1 : Nat) (u : Int) (w : World) (hmax : (ws.length : Int) ≤ 9223372036854775807)
    (hcl : ∀ (j : Nat) (W : World), j < ws.length → Drawn0 w W → Calls Try.prog 40 #[.int .i64 (j : Int), .pointer (some ⟨b0, 0, none⟩), .pointer (some ⟨b1, 0, none⟩)] W fun e w' => e = .returned (.int .i64 (rd ws j)) ∧ Drawn0 W w') :
    Calls Try.prog 38 #[.int .i64 (ws.length : Int), .func (.func 40) #[] #[.pointer (some ⟨b0, 0, none⟩), .pointer (some ⟨b1, 0, none⟩)], .int .i64 u] w (FindPost ws u w) := by
  have HM := Aside0.mk hmax
  have HCLS := Aside0.mk hcl
  clear hmax hcl
  go_enter Try.func38, Try.ntmps38
  go_wp2
  go_loopw [2, 10] (fun v2 v10 w' => ∃ (j : Nat) (q : Int), j ≤ ws.length ∧ v2 = .int .i64 q ∧ v10 = .int .i64 (j : Int) ∧ Aside0 (findL ws 0 u = findL (ws.drop j) (j : Int) q) ∧ Drawn0 w w') (fun _ v10 _ => ws.length - (intOf v10).toNat)
  case atStart => exact ⟨0, u, Nat.zero_le _, rfl, rfl, ⟨rfl⟩, Drawn0.refl _⟩
  case round =>
    obtain ⟨j, q, hj, rfl, rfl, HF, hd⟩ := hrel
    obtain ⟨m1, rfl⟩ := hd.out
    have hM := HM.out
    by_cases hlt : j < ws.length
    · obtain ⟨x, hx⟩ : ∃ x, rd ws (j : Int) = x := ⟨_, rfl⟩
      have HD : Aside0 (ws.drop j = x :: ws.drop (j + 1)) := ⟨by rw [List.drop_eq_getElem_cons hlt]; congr 1; rw [← hx]; unfold rd; simp [hlt]⟩
      have hcl : ∀ W : World, Drawn0 w W → Calls Try.prog 40 #[.int .i64 (j : Int), .pointer (some ⟨b0, 0, none⟩), .pointer (some ⟨b1, 0, none⟩)] W fun e w' => e = .returned (.int .i64 x) ∧ Drawn0 W w' := by
        rw [← hx]
        exact fun W hW => HCLS.out j W hlt hW
      have HCL := Aside0.mk hcl
      clear hcl hx
      by_cases hq : q < x
      · have hq' : decide (q < x) = true := by simpa using hq
        clear hq
        go_wp2_with (go_at_call 40; refine (HCL.out _ ⟨⟨_, rfl⟩⟩).mono ?_; rintro e w' ⟨rfl, ⟨nd, rfl⟩⟩)
        go_ret2
        refine ⟨?_, ?_⟩
        · rw [HF.out, HD.out]; simp [findL, of_decide_eq_true hq']
        · repeat (first | exact Drawn0.refl _ | apply Drawn0.step)
      · have hq' : decide (q < x) = false := by simpa using hq
        clear hq
        go_wp2_with (go_at_call 40; refine (HCL.out _ ⟨⟨_, rfl⟩⟩).mono ?_; rintro e w' ⟨rfl, ⟨nd, rfl⟩⟩)
        go_roundw
        case rel => exact ⟨j + 1, wrap64 (q - x), by omega, rfl, by go_num, ⟨by rw [HF.out, HD.out]; simp [findL, of_decide_eq_false hq']⟩, by repeat (first | exact Drawn0.refl _ | apply Drawn0.step)⟩
        case measure => simp [intOf]; omega
    · obtain rfl : j = ws.length := by omega
      go_wp2
      go_ret2
      refine ⟨?_, ?_⟩
      · rw [HF.out]; simp [findL]
      · repeat (first | exact Drawn0.refl _ | apply Drawn0.step)
end Go.Proofs.Ytldbdifdldmgfaa.PAll
