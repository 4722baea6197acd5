/- By hand: couple.Guess as a function of lists, with its contract. -/
import Derived.Test.YtldbdifdldmgfaaHFind
namespace Go.Proofs.Ytldbdifdldmgfaa.PAll
open Go.RowKit Go.Proofs.YtldbdifdldmgfaaW.PrintWords Go.Proofs.YtldbdifdldmgfaaW.PrintLast Go.Proofs.YtldbdifdldmgfaaW.PrintMore
attribute [local go_sem] max2_int min2_int max_two min_two max_three min_three max_four min_four
set_option linter.unusedVariables false
set_option linter.unusedSimpArgs false

/-- The number of a lost draw: so many tokens ahead are told. -/
def lostTo (l0 l1 : List Int) : Nat → Int → Int
  | 0, a => a
  | n + 1, a => wrap64 (lostTo l0 l1 n a + wrap64 (rd l1 n - mn (rd l0 n) (rd l1 n)))

def couple_Guess.g (l0 l1 : List Int) (x r : Int) : Option (Int × Int × Bool × Int) :=
  if 0 ≤ x ∧ x < (l0.length : Int) ∧ l0.length = l1.length then
    (if r < mn (rd l0 x) (rd l1 x) then some (x, x, true, 0)
     else some (x, (findL (resL l0 l1) 0 (lostTo l0 l1 x.toNat (wrap64 (r - rd l0 x)))).1, false, 0))
  else none
def couple_Guess.f (k : Nat) (l0 l1 : List Int) (u : Int) : Option (Int × Int × Bool × Int) :=
  (couple_both.f k l0 l1).bind fun c => if c.2 = 0 then (if u < 0 ∨ u ≥ c.1 then some (0, 0, false, 241) else couple_Guess.g l0 l1 (findL l1 0 u).1 (findL l1 0 u).2) else some (0, 0, false, c.2)
theorem couple_Guess.mono : ∀ a0 a1 a2 k, LeO (couple_Guess.f k a0 a1 a2) (couple_Guess.f (k + 1) a0 a1 a2) := by
  intro a0 a1 a2 k
  unfold couple_Guess.f
  exact LeO.bind (couple_both.mono _ _ _) (fun _ => LeO.refl _)

/-- The world behind the three boxes. -/
def GW (w : World) (v0 v1 : Value) : World := ((w.alloc (.cells #[v0] 22)).alloc (.cells #[v1] 22)).alloc (.cells #[.int .i64 0, .int .i64 0, .bool false] 26)

set_option maxHeartbeats 1600000 in
set_option maxRecDepth 100000 in
theorem couple_Guess.calls (k : Nat) (A0 : Option Addr) (c0 : Nat) (l0 : List Int) (A1 : Option Addr) (c1 : Nat) (l1 : List Int) (a2 : Int) (r1 r2 : Int) (r3 : Bool) (r4 : Int) (w : World) (hr0 : Kd.C (Kd.int .i64) w A0 l0.length l0) (hc0 : l0.length ≤ c0) (hr1 : Kd.C (Kd.int .i64) w A1 l1.length l1) (hc1 : l1.length ≤ c1) (h : couple_Guess.f k l0 l1 a2 = some (r1, r2, r3, r4)) :
    Calls Try.prog 16 #[.slice A0 l0.length c0, .slice A1 l1.length c1, .int .i64 a2] w fun e w' => e = .returned (.tuple #[.agg #[.int .i64 r1, .int .i64 r2, .bool r3], .int .i64 r4]) ∧ Below w.heap.size w w' := by
  unfold couple_Guess.f at h
  replace h := Option.bind_eq_some_iff.mp h
  obtain ⟨⟨s, e⟩, hc, h⟩ := h
  have HBoth := Aside0.mk hc
  have HR0 := Aside0.mk hr0
  have HR1 := Aside0.mk hr1
  have HW := Aside0.mk (below_alloc (below_alloc (below_alloc (Below.refl w.heap.size w) (.cells #[.slice A0 l0.length c0] 22)) (.cells #[.slice A1 l1.length c1] 22)) (.cells #[.int .i64 0, .int .i64 0, .bool false] 26))
  have hmf : ∀ (fn : Fn) (first cap : Array Value) (w : World), (Instr.makeFunc fn first cap).run Try.prog w = .ok (.func fn first cap) w := fun _ _ _ _ => rfl
  have hu26 := Try.underlying26
  clear hc hr0 hr1
  by_cases he : e = 0
  · subst he
    simp only [if_true] at h
    by_cases hu : a2 < 0
    · rw [if_pos (Or.inl hu)] at h
      simp only [Option.some.injEq, Prod.mk.injEq] at h
      obtain ⟨rfl, rfl, rfl, rfl⟩ := h
      have hu' : decide (a2 < 0) = true := by simpa using hu
      clear hu
      go_enter Try.func16, Try.ntmps16
      go_wp2_with (go_at_call 37; refine (couple_both.calls k A0 c0 l0 A1 c1 l1 s 0 _ (by (with_reducible repeat (first | apply Kd.C_alloc | apply Kd.C_drewN)); exact HR0.out) hc0 (by (with_reducible repeat (first | apply Kd.C_alloc | apply Kd.C_drewN)); exact HR1.out) hc1 HBoth.out).mono ?_; rintro e w' ⟨rfl, ⟨nd, rfl⟩⟩)
      exact bodyPost_ret (v := .tuple #[.agg #[.int .i64 0, .int .i64 0, .bool false], .int .i64 241]) (by simp [results, Try.results16, go_sem]) rfl ⟨rfl, by repeat (first | exact HW.out | refine pw_below_drewN ?_ _ | refine Below.setCell ?_ (by simp; omega) _)⟩
    · have h0 : 0 ≤ a2 := by omega
      by_cases hs : a2 ≥ s
      · rw [if_pos (Or.inr hs)] at h
        simp only [Option.some.injEq, Prod.mk.injEq] at h
        obtain ⟨rfl, rfl, rfl, rfl⟩ := h
        have hu' : decide (a2 < 0) = false := by simpa using hu
        have hs' : decide (s ≤ a2) = true := by simpa using hs
        clear hu hs h0
        go_enter Try.func16, Try.ntmps16
        go_wp2_with (go_at_call 37; refine (couple_both.calls k A0 c0 l0 A1 c1 l1 s 0 _ (by (with_reducible repeat (first | apply Kd.C_alloc | apply Kd.C_drewN)); exact HR0.out) hc0 (by (with_reducible repeat (first | apply Kd.C_alloc | apply Kd.C_drewN)); exact HR1.out) hc1 HBoth.out).mono ?_; rintro e w' ⟨rfl, ⟨nd, rfl⟩⟩)
        exact bodyPost_ret (v := .tuple #[.agg #[.int .i64 0, .int .i64 0, .bool false], .int .i64 241]) (by simp [results, Try.results16, go_sem]) rfl ⟨rfl, by repeat (first | exact HW.out | refine pw_below_drewN ?_ _ | refine Below.setCell ?_ (by simp; omega) _)⟩
      · rw [if_neg (by omega)] at h
        have hu' : decide (a2 < 0) = false := by simpa using hu
        have hs' : decide (s ≤ a2) = false := by simpa using hs
        clear hu hs h0
        obtain ⟨xr, hxr⟩ : ∃ xr, findL l1 0 a2 = xr := ⟨_, rfl⟩
        rw [hxr] at h
        obtain ⟨x, r⟩ := xr
        have HXR := Aside0.mk hxr
        clear hxr
        unfold couple_Guess.g at h
        by_cases hx : 0 ≤ x ∧ x < (l0.length : Int) ∧ l0.length = l1.length
        · rw [if_pos hx] at h
          obtain ⟨hx0, hx1, hll⟩ := hx
          have hx2 : x < (l1.length : Int) := by omega
          have HLL := Aside0.mk hll
          clear hll
          have hfind : ∀ nd : Nat, Calls Try.prog 38 #[.int .i64 (l1.length : Int), .func (.func 39) #[] #[.pointer (some ⟨w.heap.size + 1, 0, none⟩)], .int .i64 a2] ((GW w (.slice A0 l0.length c0) (.slice A1 l1.length c1)).drewN nd) fun e w' => e = .returned (.tuple #[.int .i64 x, .int .i64 r]) ∧ Drawn0 ((GW w (.slice A0 l0.length c0) (.slice A1 l1.length c1)).drewN nd) w' := by
            intro nd
            refine (find_guess1 l1 (w.heap.size + 1) a2 _ (by have := Kd.C_max HR1.out; omega) ?_).mono ?_
            · rintro j W hj ⟨⟨n, rfl⟩⟩
              exact guess1_calls A1 c1 l1 (w.heap.size + 1) j _ (by unfold GW; (with_reducible repeat (first | apply Kd.C_alloc | apply Kd.C_drewN)); exact HR1.out) hc1 (by unfold GW; simp; rw [World.cell?_alloc_past _ _ _ (by simp), World.cell?_alloc_at _ _ _ _ (by simp)]; rfl) (by omega) (by omega)
            · rintro e w' ⟨rfl, hd⟩
              rw [HXR.out]
              exact ⟨rfl, hd⟩
          unfold GW at hfind
          have HFind := Aside0.mk hfind
          clear hfind
          have HG0 : Aside0 (Kd.C (Kd.int .i64) (GW w (.slice A0 l0.length c0) (.slice A1 l1.length c1)) A0 l0.length l0) := ⟨by unfold GW; (with_reducible repeat (first | apply Kd.C_alloc | apply Kd.C_drewN)); exact HR0.out⟩
          have HG1 : Aside0 (Kd.C (Kd.int .i64) (GW w (.slice A0 l0.length c0) (.slice A1 l1.length c1)) A1 l1.length l1) := ⟨by unfold GW; (with_reducible repeat (first | apply Kd.C_alloc | apply Kd.C_drewN)); exact HR1.out⟩
          obtain ⟨ad0, e0, hx0_⟩ := Kd.at_int HG0.out x hx0 hx1
          obtain ⟨ad1, e1, hx1_⟩ := Kd.at_int HG1.out x hx0 hx2
          subst e0
          subst e1
          unfold GW at hx0_ hx1_
          obtain ⟨m, hm⟩ : ∃ m, (if rd l1 x < rd l0 x then rd l1 x else rd l0 x) = m := ⟨_, rfl⟩
          have hmn : mn (rd l0 x) (rd l1 x) = m := hm
          rw [hmn] at h
          have HMN := Aside0.mk hmn
          clear hmn
          by_cases hk : r < m
          · rw [if_pos hk] at h
            simp only [Option.some.injEq, Prod.mk.injEq] at h
            obtain ⟨rfl, rfl, rfl, rfl⟩ := h
            have hk' : decide (r < m) = true := by simpa using hk
            clear hk
            go_enter Try.func16, Try.ntmps16
            go_wp2_with (first | (go_at_call 37; refine (couple_both.calls k _ c0 l0 _ c1 l1 s 0 _ (by (with_reducible repeat (first | apply Kd.C_alloc | apply Kd.C_drewN)); exact HR0.out) hc0 (by (with_reducible repeat (first | apply Kd.C_alloc | apply Kd.C_drewN)); exact HR1.out) hc1 HBoth.out).mono ?_; rintro e w' ⟨rfl, ⟨nd, rfl⟩⟩) | (go_at_call 38; refine (HFind.out _).mono ?_; rintro e w' ⟨rfl, ⟨nd2, rfl⟩⟩))
            go_quiet (fail)
            go_wp2
            exact bodyPost_ret (v := .tuple #[.agg #[.int .i64 x, .int .i64 x, .bool true], .int .i64 0]) (by simp [results, Try.results16, go_sem]) rfl ⟨rfl, by repeat (first | exact HW.out | refine pw_below_drewN ?_ _ | refine Below.setCell ?_ (by simp; omega) _)⟩
          · rw [if_neg hk] at h
            simp only [Option.some.injEq, Prod.mk.injEq] at h
            obtain ⟨rfl, ht, rfl, rfl⟩ := h
            have HT := Aside0.mk ht
            clear ht
            have hk' : decide (r < m) = false := by simpa using hk
            clear hk
            have hlast : ∀ (nd : Nat) (v : Int), Calls Try.prog 38 #[.int .i64 (l0.length : Int), .func (.func 40) #[] #[.pointer (some ⟨w.heap.size, 0, none⟩), .pointer (some ⟨w.heap.size + 1, 0, none⟩)], .int .i64 v] ((GW w (.slice (some ad0) l0.length c0) (.slice (some ad1) l1.length c1)).drewN nd) fun e w' => e = .returned (.tuple #[.int .i64 (findL (resL l0 l1) 0 v).1, .int .i64 (findL (resL l0 l1) 0 v).2]) ∧ Drawn0 ((GW w (.slice (some ad0) l0.length c0) (.slice (some ad1) l1.length c1)).drewN nd) w' := by
              intro nd v
              have hlen := resL_length l0 l1 HLL.out
              have q := find_guess2 (resL l0 l1) w.heap.size (w.heap.size + 1) v ((GW w (.slice (some ad0) l0.length c0) (.slice (some ad1) l1.length c1)).drewN nd) (by have := Kd.C_max HR0.out; omega) ?_
              · rw [hlen] at q
                exact q
              rintro j W hj ⟨⟨n, rfl⟩⟩
              rw [hlen] at hj
              rw [resL_rd l0 l1 HLL.out j hj]
              have hll := HLL.out
              exact guess2_calls (some ad0) c0 l0 (some ad1) c1 l1 w.heap.size (w.heap.size + 1) j _ (Kd.C_drewN (Kd.C_drewN HG0.out _) _) hc0 (Kd.C_drewN (Kd.C_drewN HG1.out _) _) hc1 (by unfold GW; simp; rw [World.cell?_alloc_past _ _ _ (by simp; omega), World.cell?_alloc_past _ _ _ (by simp), World.cell?_alloc_at _ _ _ _ (by simp)]; rfl) (by unfold GW; simp; rw [World.cell?_alloc_past _ _ _ (by simp), World.cell?_alloc_at _ _ _ _ (by simp)]; rfl) (by omega) (by omega) (by omega)
            unfold GW at hlast
            have HLast := Aside0.mk hlast
            clear hlast
            have hxx : x ≤ 9223372036854775806 := by have := Kd.C_max HR0.out; omega
            go_enter Try.func16, Try.ntmps16
            go_wp2_with (first | (go_at_call 37; refine (couple_both.calls k _ c0 l0 _ c1 l1 s 0 _ (by (with_reducible repeat (first | apply Kd.C_alloc | apply Kd.C_drewN)); exact HR0.out) hc0 (by (with_reducible repeat (first | apply Kd.C_alloc | apply Kd.C_drewN)); exact HR1.out) hc1 HBoth.out).mono ?_; rintro e w' ⟨rfl, ⟨nd, rfl⟩⟩) | (go_at_call 38; refine (HFind.out _).mono ?_; rintro e w' ⟨rfl, ⟨nd2, rfl⟩⟩))
            go_quiet (fail)
            go_wp2
            go_loopw [12, 65] (fun v12 v65 w' => ∃ (j : Int), 0 ≤ j ∧ j ≤ x ∧ v65 = .int .i64 j ∧ v12 = .int .i64 (lostTo l0 l1 j.toNat (wrap64 (r - rd l0 x))) ∧ Drawn0 (((w.alloc (.cells #[.slice (some ad0) l0.length c0] 22)).alloc (.cells #[.slice (some ad1) l1.length c1] 22)).alloc (.cells #[.int .i64 0, .int .i64 0, .bool false] 26)) w') (fun _ v65 _ => (x - intOf v65).toNat)
            case atStart => exact ⟨0, by omega, by omega, rfl, rfl, by repeat (first | exact Drawn0.refl _ | apply Drawn0.step)⟩
            case round =>
              obtain ⟨j, hj0, hjx, rfl, rfl, hd⟩ := hrel
              obtain ⟨nw, rfl⟩ := hd.out
              clear hd
              by_cases hlt : j < x
              · obtain ⟨ad0', e0, hy0_⟩ := Kd.at_int HG0.out j hj0 (by omega)
                obtain ⟨ad1', e1, hy1_⟩ := Kd.at_int HG1.out j hj0 (by omega)
                cases e0
                cases e1
                unfold GW at hy0_ hy1_
                have hj1 : j < (l0.length : Int) := by omega
                have hj2 : j < (l1.length : Int) := by omega
                obtain ⟨mj, hmj⟩ : ∃ mj, (if rd l1 j < rd l0 j then rd l1 j else rd l0 j) = mj := ⟨_, rfl⟩
                have HMJ : Aside0 (mn (rd l0 j) (rd l1 j) = mj) := ⟨hmj⟩
                obtain ⟨av, hav⟩ : ∃ av, lostTo l0 l1 j.toNat (wrap64 (r - rd l0 x)) = av := ⟨_, rfl⟩
                have HAV := Aside0.mk hav
                rw [hav]
                clear hav
                go_wp2
                go_quiet (fail)
                go_wp2
                go_roundw
                case rel =>
                  refine ⟨j + 1, by omega, by omega, by first | rfl | go_num, ?_, by repeat (first | exact Drawn0.refl _ | apply Drawn0.step)⟩
                  rw [show (j + 1).toNat = j.toNat + 1 from by omega]
                  simp only [lostTo]
                  rw [HAV.out, show ((j.toNat : Nat) : Int) = j from by omega, HMJ.out]
                case measure => simp [intOf]; omega
              · obtain rfl : j = x := by omega
                obtain ⟨av, hav⟩ : ∃ av, lostTo l0 l1 j.toNat (wrap64 (r - rd l0 j)) = av := ⟨_, rfl⟩
                have HAV := Aside0.mk hav
                rw [hav]
                clear hav
                go_wp2_with (go_at_call 38; refine (HLast.out _ _).mono ?_; rintro e w' ⟨rfl, ⟨nd3, rfl⟩⟩)
                have hT := HT.out
                rw [HAV.out] at hT
                subst hT
                exact bodyPost_ret (v := .tuple #[.agg #[.int .i64 j, .int .i64 _, .bool false], .int .i64 0]) (by simp [results, Try.results16, go_sem]) rfl ⟨rfl, by repeat (first | exact HW.out | refine pw_below_drewN ?_ _ | refine Below.setCell ?_ (by simp; omega) _)⟩
        · rw [if_neg hx] at h
          cases h
  · simp only [he, if_false] at h
    simp only [Option.some.injEq, Prod.mk.injEq] at h
    obtain ⟨rfl, rfl, rfl, rfl⟩ := h
    have he1 : (e != 0) = true := by simpa using he
    clear he
    go_enter Try.func16, Try.ntmps16
    go_wp2_with (go_at_call 37; refine (couple_both.calls k A0 c0 l0 A1 c1 l1 s e _ (by (with_reducible repeat (first | apply Kd.C_alloc | apply Kd.C_drewN)); exact HR0.out) hc0 (by (with_reducible repeat (first | apply Kd.C_alloc | apply Kd.C_drewN)); exact HR1.out) hc1 HBoth.out).mono ?_; rintro e w' ⟨rfl, ⟨nd, rfl⟩⟩)
    exact bodyPost_ret (v := .tuple #[.agg #[.int .i64 0, .int .i64 0, .bool false], .int .i64 e]) (by simp [results, Try.results16, go_sem]) rfl ⟨rfl, by repeat (first | exact HW.out | refine pw_below_drewN ?_ _ | refine Below.setCell ?_ (by simp; omega) _)⟩
end Go.Proofs.Ytldbdifdldmgfaa.PAll
