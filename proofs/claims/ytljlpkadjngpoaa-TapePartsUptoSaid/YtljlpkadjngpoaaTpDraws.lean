/- By hand: the law of all draws of a tape. -/
import Derived.Test.YtljlpkadjngpoaaTpAwake
import Derived.Test.YtljlpkadjngpoaaEvAt
namespace Go.Proofs.Ytljlpkadjngpoaa.PAll
open Go.RowKit Go.Proofs.Ytljlpkadjngpoaa.Math Go.Proofs.YtljlpkadjngpoaaW.PrintWords Go.Proofs.YtljlpkadjngpoaaW.PrintLast Go.Proofs.YtljlpkadjngpoaaW.PrintMore
set_option linter.unusedVariables false
set_option linter.unusedSimpArgs false

theorem IsTape.below {w w1 : World} {g : Nat} {bits used all : Int} {s : ByteArray} (h : IsTape w g bits used all s) (hb : Below w.heap.size w w1) : IsTape w1 g bits used all s := (hb.block g (blk_lt h)).trans h
theorem refDraws_no (b n : Int) (hb : ¬ IsBits b) : heraldref23_Draws.f b n = some (0, 230) := by
  unfold heraldref23_Draws.f
  rw [may_some, decide_eq_false hb]
  rfl
theorem refDraws_yes (b n : Int) (hb : IsBits b) (h0 : 0 ≤ n) (h1 : n ≤ 4294967296) : heraldref23_Draws.f b n = some (8 * n / b, 0) := by
  unfold heraldref23_Draws.f
  have hne : b ≠ 0 := by unfold IsBits at hb; omega
  rw [may_some, decide_eq_true hb]
  simp only [Option.bind_some, if_true]
  rw [if_neg (by omega), if_neg (by omega), if_neg hne, Math.wrap_in (a := 8 * n) (by omega) (by omega), Int.tdiv_eq_ediv_of_nonneg (by omega), Math.wrap_in ?_ ?_]
  · unfold IsBits at hb; rcases hb with rfl | rfl | rfl | rfl | rfl | rfl <;> omega
  · unfold IsBits at hb; rcases hb with rfl | rfl | rfl | rfl | rfl | rfl <;> omega

set_option maxHeartbeats 1600000 in
theorem draws_no (b : Int) (s : ByteArray) (more : Int) (w : World) (hb : ¬ IsBits b) : Calls Try.prog 3 #[.int .i64 b, .string s, .int .i64 more] w fun e w' => e = .returned (.bool true) ∧ Below w.heap.size w w' := by
  have HN := Aside0.mk (show tape_isBits.f b = some false by rw [isBits_some, decide_eq_false hb])
  have HD := Aside0.mk (refDraws_no b (s.size : Int) hb)
  clear hb
  go_enter Try.func3, Try.ntmps3
  go_wp2_with (first | (go_at_call 11; refine (new_no b s _ HN.out).mono ?_; rintro e w' ⟨rfl, ⟨m, rfl⟩⟩) | (go_at_call 12; refine (heraldref23_Draws.calls _ _ _ _ _ HD.out).mono ?_; rintro e w' ⟨rfl, ⟨m2, rfl⟩⟩) | (go_at_call 13; refine (heraldlaw23_awake.calls true _ rfl).mono ?_; rintro e w1 ⟨rfl, hbel⟩))
  go_ret
  refine ⟨by first | rfl | simp, ?_⟩
  repeat (refine pw_below_drewN ?_ _)
  exact below_then (pw_below_drewN (Below.refl _ _) _) (by simp) hbel

set_option maxHeartbeats 3200000 in
theorem draws_yes (b : Int) (s : ByteArray) (more : Int) (w : World) (hb : IsBits b) (hs : s.size ≤ 1048576) : Calls Try.prog 3 #[.int .i64 b, .string s, .int .i64 more] w fun e w' => e = .returned (.bool true) ∧ Below w.heap.size w w' := by
  obtain ⟨n, hn⟩ : ∃ n, 8 * (s.size : Int) / b = n := ⟨_, rfl⟩
  have hnew := new_ok b s w hb (by omega)
  have hD := refDraws_yes b (s.size : Int) hb (by omega) (by omega)
  rw [hn] at hnew hD
  have hn0 : 0 ≤ n := by subst hn; unfold IsBits at hb; rcases hb with rfl | rfl | rfl | rfl | rfl | rfl <;> omega
  have hn1 : n ≤ 8388608 := by subst hn; unfold IsBits at hb; rcases hb with rfl | rfl | rfl | rfl | rfl | rfl <;> omega
  have HN := Aside0.mk hnew
  have HD := Aside0.mk hD
  have HB := Aside0.mk hb
  have HE := Aside0.mk hn
  have HT0 := Aside0.mk (fun m : Nat => isTape_new w b n s m)
  have HW0 := Aside0.mk (below_alloc (Below.refl w.heap.size w) (.cells #[.int .i64 b, .int .i64 0, .int .i64 n, .string s] 66))
  clear hnew hD hb hn
  go_enter Try.func3, Try.ntmps3
  go_wp2_with (first | (go_at_call 11; refine (HN.out).mono ?_; rintro e w' ⟨m, rfl, rfl⟩) | (go_at_call 12; refine (heraldref23_Draws.calls _ _ _ _ _ HD.out).mono ?_; rintro e w' ⟨rfl, ⟨m2, rfl⟩⟩) | (go_at_call 13; refine (heraldlaw23_awake.calls true _ rfl).mono ?_; rintro e w1 ⟨rfl, hbel⟩))
  have HT1 := Aside0.mk ((HT0.out _).below hbel)
  have HW1 := Aside0.mk (below_then (pw_below_drewN HW0.out _) (by simp) hbel)
  clear hbel HT0
  go_loopw [11] (fun v11 wr => ∃ i : Int, 0 ≤ i ∧ i ≤ n ∧ v11 = .int .i64 i ∧ Aside0 (IsTape wr w.heap.size b i n s) ∧ Aside0 (Below w.heap.size w wr)) (fun v11 _ => (n - intOf v11).toNat)
  case atStart => exact ⟨0, Int.le_refl _, hn0, rfl, HT1, HW1⟩
  case round =>
    obtain ⟨i, hi0, hin, rfl, HT, HW⟩ := hrel
    clear HT1 HW1
    by_cases hlt : i < n
    · have hbo := HB.out
      have hb1 : 0 ≤ b := by unfold IsBits at hbo; omega
      have hat := at_some b s i hbo hi0 (draw_fits hbo hi0 (by rw [HE.out]; exact hlt)) (by omega) 100 (by omega)
      obtain ⟨v, hv⟩ : ∃ v, drawV b s i = v := ⟨_, rfl⟩
      have hdr := fun W (hW : Drawn0 wr W) => draw_calls w.heap.size b i n s W hbo (by obtain ⟨⟨q, rfl⟩⟩ := hW; exact HT.out.drewN q) hi0 hlt HE.out.symm (by omega)
      rw [hv] at hat
      simp only [hv] at hdr
      have hle := fun W (hW : Drawn0 wr W) => left_calls w.heap.size b i n s W (by obtain ⟨⟨q, rfl⟩⟩ := hW; exact HT.out.drewN q)
      have hus := fun W (hW : Drawn0 wr W) => used_calls w.heap.size b i n s W (by obtain ⟨⟨q, rfl⟩⟩ := hW; exact HT.out.drewN q)
      rw [show wrap64 (n - i) = n - i from by unfold wrap64; omega] at hle
      have HAt := Aside0.mk hat
      have HDr := Aside0.mk hdr
      have HLe := Aside0.mk hle
      have HUs := Aside0.mk hus
      clear hbo hb1 hat hdr hle hus hv
      have HT2 := Aside0.mk (HT.out.set (i + 1))
      have HW2 := Aside0.mk (HW.out.setCell (p := ⟨w.heap.size, 1, none⟩) (Nat.le_refl _) (.int .i64 (i + 1)))
      go_wp2_with (first | (go_at_call 14; refine (HUs.out _ (by first | exact Drawn0.refl _ | exact ⟨⟨_, rfl⟩⟩)).mono ?_; rintro e w' ⟨rfl, ⟨m2, rfl⟩⟩) | (go_at_call 15; refine (HLe.out _ (by first | exact Drawn0.refl _ | exact ⟨⟨_, rfl⟩⟩)).mono ?_; rintro e w' ⟨rfl, ⟨m3, rfl⟩⟩) | (go_at_call 16; refine (HDr.out _ (by first | exact Drawn0.refl _ | exact ⟨⟨_, rfl⟩⟩)).mono ?_; rintro e w' ⟨rfl, ⟨m4, rfl⟩⟩) | (go_at_call 17; refine (heraldref23_At.calls _ _ _ _ _ _ HAt.out).mono ?_; rintro e w' ⟨rfl, ⟨m5, rfl⟩⟩))
      go_roundw
      case rel => exact ⟨i + 1, by omega, by omega, by first | rfl | go_num, ⟨HT2.out⟩, ⟨by repeat (first | exact HW2.out | refine pw_below_drewN ?_ _ | rw [setCell_drewN])⟩⟩
      case measure => simp [intOf]; omega
    · obtain rfl : i = n := by omega
      have hus := fun W (hW : Drawn0 wr W) => used_calls w.heap.size b i i s W (by obtain ⟨⟨q, rfl⟩⟩ := hW; exact HT.out.drewN q)
      have hle := fun W (hW : Drawn0 wr W) => left_calls w.heap.size b i i s W (by obtain ⟨⟨q, rfl⟩⟩ := hW; exact HT.out.drewN q)
      have hno := fun W (hW : Drawn0 wr W) => draw_none w.heap.size b i s W (by obtain ⟨⟨q, rfl⟩⟩ := hW; exact HT.out.drewN q)
      rw [show wrap64 (i - i) = 0 from by unfold wrap64; omega] at hle
      have HLe := Aside0.mk hle
      have HUs := Aside0.mk hus
      have HNo := Aside0.mk hno
      clear hus hle hno hlt
      go_wp2
      go_loopw [14] (fun v14 wq => ∃ j : Int, 0 ≤ j ∧ j ≤ 9 ∧ v14 = .int .i64 j ∧ Drawn0 wr wq) (fun v14 _ => (9 - intOf v14).toNat)
      case atStart => exact ⟨0, by omega, by omega, rfl, Drawn0.refl _⟩
      case round =>
        obtain ⟨j, hj0, hj9, rfl, hd⟩ := hrel
        obtain ⟨nq, rfl⟩ := hd.out
        clear hd
        have fin : True := trivial
        by_cases hm : j < more
        · by_cases h9 : j < 9
          · go_wp2_with (go_at_call 16; refine (HNo.out _ ⟨⟨_, rfl⟩⟩).mono ?_; rintro e w' ⟨rfl, ⟨m4, rfl⟩⟩)
            go_roundw
            case rel => exact ⟨j + 1, by omega, by omega, by first | rfl | go_num, by repeat (first | exact Drawn0.refl _ | apply Drawn0.step)⟩
            case measure => simp [intOf]; omega
          · go_wp2_with (first | (go_at_call 14; refine (HUs.out _ ⟨⟨_, rfl⟩⟩).mono ?_; rintro e w' ⟨rfl, ⟨m2, rfl⟩⟩) | (go_at_call 15; refine (HLe.out _ ⟨⟨_, rfl⟩⟩).mono ?_; rintro e w' ⟨rfl, ⟨m3, rfl⟩⟩))
            go_ret
            exact ⟨by first | rfl | simp, by repeat (first | exact HW.out | refine pw_below_drewN ?_ _)⟩
        · go_wp2_with (first | (go_at_call 14; refine (HUs.out _ ⟨⟨_, rfl⟩⟩).mono ?_; rintro e w' ⟨rfl, ⟨m2, rfl⟩⟩) | (go_at_call 15; refine (HLe.out _ ⟨⟨_, rfl⟩⟩).mono ?_; rintro e w' ⟨rfl, ⟨m3, rfl⟩⟩))
          go_ret
          exact ⟨by first | rfl | simp, by repeat (first | exact HW.out | refine pw_below_drewN ?_ _)⟩
theorem draws_walk (b : Int) (s : ByteArray) (more : Int) (w : World) (hs : s.size ≤ 1048576) : Calls Try.prog 3 #[.int .i64 b, .string s, .int .i64 more] w fun e w' => e = .returned (.bool true) ∧ Below w.heap.size w w' := by
  by_cases hb : IsBits b
  · exact draws_yes b s more w hb hs
  · exact draws_no b s more w hb
end Go.Proofs.Ytljlpkadjngpoaa.PAll
