/- By hand: the law of two tapes in turns. -/
import Derived.Test.YtljlpkadjngpoaaTpDraws
namespace Go.Proofs.Ytljlpkadjngpoaa.PAll
open Go.RowKit Go.Proofs.Ytljlpkadjngpoaa.Math Go.Proofs.YtljlpkadjngpoaaW.PrintWords Go.Proofs.YtljlpkadjngpoaaW.PrintLast Go.Proofs.YtljlpkadjngpoaaW.PrintMore
set_option linter.unusedVariables false
set_option linter.unusedSimpArgs false

theorem count_range (b : Int) (s : ByteArray) (hb : IsBits b) (hs : s.size ≤ 1048576) : 0 ≤ 8 * (s.size : Int) / b ∧ 8 * (s.size : Int) / b ≤ 8388608 := by
  unfold IsBits at hb; rcases hb with rfl | rfl | rfl | rfl | rfl | rfl <;> omega
/-- What a call on one tape changes: that tape alone. -/
structure Step (w w' : World) (g : Nat) (b u n : Int) (s : ByteArray) : Prop where
  tape : IsTape w' g b u n s
  far : ∀ (g' : Nat) (b' u' n' : Int) (s' : ByteArray), g' ≠ g → IsTape w g' b' u' n' s' → IsTape w' g' b' u' n' s'
  below : ∀ (N : Nat) (w0 : World), N ≤ g → Below N w0 w → Below N w0 w'
theorem Step.drewN {w w' : World} {g : Nat} {b u n : Int} {s : ByteArray} (h : Step w w' g b u n s) (m : Nat) : Step w (w'.drewN m) g b u n s :=
  ⟨h.tape.drewN m, fun g' b' u' n' s' hg ht => (h.far g' b' u' n' s' hg ht).drewN m, fun N w0 hN hb => pw_below_drewN (h.below N w0 hN hb) m⟩
theorem Step.ofDrewN {w w' : World} {g : Nat} {b u n : Int} {s : ByteArray} (m : Nat) (h : Step (w.drewN m) w' g b u n s) : Step w w' g b u n s :=
  ⟨h.tape, fun g' b' u' n' s' hg ht => h.far g' b' u' n' s' hg (ht.drewN m), fun N w0 hN hb => h.below N w0 hN (pw_below_drewN hb m)⟩
theorem Step.stay {w : World} {g : Nat} {b u n : Int} {s : ByteArray} (h : IsTape w g b u n s) : Step w w g b u n s :=
  ⟨h, fun _ _ _ _ _ _ h' => h', fun _ _ _ h' => h'⟩
theorem Step.set {w : World} {g : Nat} {b u n : Int} {s : ByteArray} (h : IsTape w g b u n s) (v : Int) : Step w (w.setCell ⟨g, 1, none⟩ (.int .i64 v)) g b v n s :=
  ⟨h.set v, fun g' b' u' n' s' hg ht => ht.far (p := ⟨g, 1, none⟩) hg _, fun N w0 hN hb => hb.setCell (p := ⟨g, 1, none⟩) hN _⟩
def nextV (b : Int) (s : ByteArray) (n i : Int) : Int := if i < n then drawV b s i else -1
def errV (n i : Int) : Int := if i < n then 0 else 231
/-- A draw, whether or not one is left. -/
theorem draw_any (g : Nat) (b u n : Int) (s : ByteArray) (w : World) (hb : IsBits b) (h : IsTape w g b u n s) (h0 : 0 ≤ u) (h1 : u ≤ n) (hn : n = 8 * (s.size : Int) / b) (hs : s.size ≤ 1048576) :
    Calls Try.prog 16 #[.pointer (some ⟨g, 0, none⟩)] w fun e w' => e = .returned (.tuple #[.int .i64 (nextV b s n u), .int .i64 (errV n u)]) ∧ Step w w' g b (if u < n then u + 1 else n) n s := by
  unfold nextV errV
  by_cases hlt : u < n
  · rw [if_pos hlt, if_pos hlt, if_pos hlt]
    refine (draw_calls g b u n s w hb h h0 hlt hn (by omega)).mono ?_
    rintro e w' ⟨rfl, ⟨m, rfl⟩⟩
    exact ⟨rfl, (Step.set h (u + 1)).drewN m⟩
  · obtain rfl : u = n := by omega
    rw [if_neg hlt, if_neg hlt, if_neg hlt]
    refine (draw_none g b u s w h).mono ?_
    rintro e w' ⟨rfl, ⟨m, rfl⟩⟩
    exact ⟨rfl, (Step.stay h).drewN m⟩

set_option maxHeartbeats 1600000 in
theorem two_no (b : Int) (s t : ByteArray) (w : World) (hb : ¬ IsBits b) : Calls Try.prog 4 #[.int .i64 b, .string s, .string t] w fun e w' => e = .returned (.bool true) ∧ Below w.heap.size w w' := by
  have HN := Aside0.mk (show tape_isBits.f b = some false by rw [isBits_some, decide_eq_false hb])
  have HD := Aside0.mk (refDraws_no b (s.size : Int) hb)
  have HD2 := Aside0.mk (refDraws_no b (t.size : Int) hb)
  clear hb
  go_enter Try.func4, Try.ntmps4
  go_wp2_with (first | (go_at_call 11; (with_reducible refine (new_no b s _ HN.out).mono ?_); rintro e w' ⟨rfl, ⟨m, rfl⟩⟩) | (go_at_call 11; (with_reducible refine (new_no b t _ HN.out).mono ?_); rintro e w' ⟨rfl, ⟨m, rfl⟩⟩) | (go_at_call 12; (with_reducible refine (heraldref23_Draws.calls _ _ _ _ _ HD.out).mono ?_); rintro e w' ⟨rfl, ⟨m2, rfl⟩⟩) | (go_at_call 12; (with_reducible refine (heraldref23_Draws.calls _ _ _ _ _ HD2.out).mono ?_); rintro e w' ⟨rfl, ⟨m2, rfl⟩⟩) | (go_at_call 13; refine (heraldlaw23_awake.calls true _ rfl).mono ?_; rintro e w1 ⟨rfl, hbel⟩))
  go_ret
  refine ⟨by first | rfl | simp, ?_⟩
  repeat (refine pw_below_drewN ?_ _)
  exact below_then (pw_below_drewN (Below.refl _ _) _) (by simp) hbel

theorem new_at (b n : Int) (s : ByteArray) (w : World) (hb : IsBits b) (hn : 8 * (s.size : Int) / b = n) (hs : s.size ≤ 1048576) (g : Nat) (hg : w.heap.size = g) : Calls Try.prog 11 #[.int .i64 b, .string s] w fun e w' =>
    e = .returned (.tuple #[.pointer (some ⟨g, 0, none⟩), .int .i64 0]) ∧ Step w w' g b 0 n s ∧ w'.heap.size = g + 1 := by
  subst hg
  refine (new_ok b s w hb (by omega)).mono ?_
  rintro e w' ⟨m, rfl, rfl⟩
  rw [hn]
  have hs : ((w.alloc (.cells #[.int .i64 b, .int .i64 0, .int .i64 n, .string s] 66)).drewN m).heap.size = w.heap.size + 1 := by simp
  refine ⟨rfl, ⟨isTape_new w b n s m, ?_, ?_⟩, hs⟩
  · intro g' b' u' n' s' hg' ht
    have hlt : g' < w.heap.size := blk_lt ht
    exact ((pw_below_drewN (below_alloc (Below.refl w.heap.size w) _) m).block g' hlt).trans ht
  · intro N w0 hN hB
    exact pw_below_drewN (below_then hB hN (below_alloc (Below.refl w.heap.size w) _)) m

set_option maxRecDepth 20000 in
set_option maxHeartbeats 3200000 in
theorem two_yes (b : Int) (s t : ByteArray) (w : World) (hb : IsBits b) (hs : s.size ≤ 1048576) (ht : t.size ≤ 1048576) : Calls Try.prog 4 #[.int .i64 b, .string s, .string t] w fun e w' => e = .returned (.bool true) ∧ Below w.heap.size w w' := by
  obtain ⟨n, hn⟩ : ∃ n, 8 * (s.size : Int) / b = n := ⟨_, rfl⟩
  obtain ⟨m, hm⟩ : ∃ m, 8 * (t.size : Int) / b = m := ⟨_, rfl⟩
  have hD := refDraws_yes b (s.size : Int) hb (by omega) (by omega)
  have hD2 := refDraws_yes b (t.size : Int) hb (by omega) (by omega)
  rw [hn] at hD
  rw [hm] at hD2
  obtain ⟨hn0, hn1⟩ := count_range b s hb hs
  obtain ⟨hm0, hm1⟩ := count_range b t hb ht
  rw [hn] at hn0 hn1
  rw [hm] at hm0 hm1
  have HD := Aside0.mk hD
  have HD2 := Aside0.mk hD2
  have HB := Aside0.mk hb
  have HE := Aside0.mk hn
  have HE2 := Aside0.mk hm
  have HNa := Aside0.mk (fun W hW => new_at b n s W hb hn hs w.heap.size hW)
  have HNb := Aside0.mk (fun W hW => new_at b m t W hb hm ht (w.heap.size + 1) hW)
  clear hD hD2 hb hn hm
  go_enter Try.func4, Try.ntmps4
  go_wp2_with (first | (go_at_call 11; (with_reducible refine (HNa.out _ rfl).mono ?_); rintro e wa ⟨rfl, hsa, hza⟩; have HSa := Aside0.mk hsa; have HZa := Aside0.mk hza; clear hsa hza) | (go_at_call 11; (with_reducible refine (HNb.out _ HZa.out).mono ?_); rintro e wb ⟨rfl, hsb, hzb⟩; have HSb := Aside0.mk hsb; have HZb := Aside0.mk hzb; clear hsb hzb) | (go_at_call 12; (with_reducible refine (heraldref23_Draws.calls _ _ _ _ _ HD.out).mono ?_); rintro e w' ⟨rfl, ⟨m2, rfl⟩⟩) | (go_at_call 12; (with_reducible refine (heraldref23_Draws.calls _ _ _ _ _ HD2.out).mono ?_); rintro e w' ⟨rfl, ⟨m2, rfl⟩⟩) | (go_at_call 13; refine (heraldlaw23_awake.calls true _ rfl).mono ?_; rintro e w1 ⟨rfl, hbel⟩))
  have HTa := Aside0.mk (((HSb.out.far _ _ _ _ _ (by omega) HSa.out.tape).drewN _).below hbel)
  have HTb := Aside0.mk ((HSb.out.tape.drewN _).below hbel)
  have HW := Aside0.mk (below_then (pw_below_drewN (HSb.out.below _ _ (Nat.le_succ _) (HSa.out.below _ _ (Nat.le_refl _) (Below.refl w.heap.size w))) _) (by have := HZb.out; simp; omega) hbel)
  clear HSa HSb HZa HZb hbel HNa HNb
  go_loopw [15] (fun v15 wr => ∃ i : Int, 0 ≤ i ∧ i ≤ 8388608 ∧ v15 = .int .i64 i ∧ Aside0 (IsTape wr w.heap.size b (min i n) n s) ∧ Aside0 (IsTape wr (w.heap.size + 1) b (min i m) m t) ∧ Aside0 (Below w.heap.size w wr)) (fun v15 _ => (max n m - intOf v15).toNat)
  case atStart => exact ⟨0, Int.le_refl _, by omega, rfl, by rw [Int.min_eq_left hn0]; exact HTa, by rw [Int.min_eq_left hm0]; exact HTb, HW⟩
  case round =>
    clear HTa HTb HW
    obtain ⟨i, hi0, hi1, rfl, Ta, Tb, W0⟩ := hrel
    have hbo := HB.out
    have HDa := Aside0.mk (fun W (hT : IsTape W w.heap.size b (min i n) n s) => draw_any w.heap.size b (min i n) n s W hbo hT (by omega) (by omega) HE.out.symm hs)
    have HDb := Aside0.mk (fun W (hT : IsTape W (w.heap.size + 1) b (min i m) m t) => draw_any (w.heap.size + 1) b (min i m) m t W hbo hT (by omega) (by omega) HE2.out.symm ht)
    by_cases han : i < n
    · have hAa := Aside0.mk (at_some b s i hbo hi0 (draw_fits hbo hi0 (by rw [HE.out]; exact han)) (by omega) 100 (by omega))
      rw [show min i n = i by omega] at HDa
      rw [if_pos han, show nextV b s n i = drawV b s i from if_pos han, show errV n i = 0 from if_pos han] at HDa
      have Ta' : Aside0 (IsTape wr w.heap.size b i n s) := by have := Ta; rwa [show min i n = i by omega] at this
      obtain ⟨va, hva⟩ : ∃ v, drawV b s i = v := ⟨_, rfl⟩
      rw [hva] at HDa hAa
      have za : min (i + 1) n = i + 1 := by omega
      by_cases hbn : i < m
      · have hAb := Aside0.mk (at_some b t i hbo hi0 (draw_fits hbo hi0 (by rw [HE2.out]; exact hbn)) (by omega) 100 (by omega))
        rw [show min i m = i by omega] at HDb
        rw [if_pos hbn, show nextV b t m i = drawV b t i from if_pos hbn, show errV m i = 0 from if_pos hbn] at HDb
        have Tb' : Aside0 (IsTape wr (w.heap.size + 1) b i m t) := by have := Tb; rwa [show min i m = i by omega] at this
        obtain ⟨vb, hvb⟩ : ∃ v, drawV b t i = v := ⟨_, rfl⟩
        rw [hvb] at HDb hAb
        have zb : min (i + 1) m = i + 1 := by omega
        clear hbo HE HE2 Ta Tb
        go_wp2_with (first | (go_at_call 16; (with_reducible refine (HDa.out _ Ta'.out).mono ?_); rintro e wa ⟨rfl, hsa⟩; have HSa := Aside0.mk hsa; clear hsa) | (go_at_call 16; (with_reducible refine (HDb.out _ (HSa.out.far _ _ _ _ _ (by omega) Tb'.out)).mono ?_); rintro e wb ⟨rfl, hsb⟩; have HSb := Aside0.mk hsb; clear hsb) | (go_at_call 17; (with_reducible refine (heraldref23_At.calls _ _ _ _ _ _ hAa.out).mono ?_); rintro e w' ⟨rfl, ⟨m5, rfl⟩⟩) | (go_at_call 17; (with_reducible refine (heraldref23_At.calls _ _ _ _ _ _ hAb.out).mono ?_); rintro e w' ⟨rfl, ⟨m5, rfl⟩⟩))
        go_roundw
        case rel => exact ⟨i + 1, by omega, by omega, by first | rfl | go_num, ⟨by rw [za]; repeat (first | exact HSb.out.far _ _ _ _ _ (by omega) HSa.out.tape | apply IsTape.drewN)⟩, ⟨by rw [zb]; repeat (first | exact HSb.out.tape | apply IsTape.drewN)⟩, ⟨by repeat (first | exact HSb.out.below _ _ (Nat.le_succ _) (HSa.out.below _ _ (Nat.le_refl _) W0.out) | refine pw_below_drewN ?_ _)⟩⟩
        case measure => simp [intOf]; omega
      · rw [show min i m = m by omega] at HDb
        rw [if_neg (by omega), show nextV b t m m = -1 from if_neg (by omega), show errV m m = 231 from if_neg (by omega)] at HDb
        have Tb' : Aside0 (IsTape wr (w.heap.size + 1) b m m t) := by have := Tb; rwa [show min i m = m by omega] at this
        have zb : min (i + 1) m = m := by omega
        clear hbo HE HE2 Ta Tb
        go_wp2_with (first | (go_at_call 16; (with_reducible refine (HDa.out _ Ta'.out).mono ?_); rintro e wa ⟨rfl, hsa⟩; have HSa := Aside0.mk hsa; clear hsa) | (go_at_call 16; (with_reducible refine (HDb.out _ (HSa.out.far _ _ _ _ _ (by omega) Tb'.out)).mono ?_); rintro e wb ⟨rfl, hsb⟩; have HSb := Aside0.mk hsb; clear hsb) | (go_at_call 17; (with_reducible refine (heraldref23_At.calls _ _ _ _ _ _ hAa.out).mono ?_); rintro e w' ⟨rfl, ⟨m5, rfl⟩⟩))
        go_roundw
        case rel => exact ⟨i + 1, by omega, by omega, by first | rfl | go_num, ⟨by rw [za]; repeat (first | exact HSb.out.far _ _ _ _ _ (by omega) HSa.out.tape | apply IsTape.drewN)⟩, ⟨by rw [zb]; repeat (first | exact HSb.out.tape | apply IsTape.drewN)⟩, ⟨by repeat (first | exact HSb.out.below _ _ (Nat.le_succ _) (HSa.out.below _ _ (Nat.le_refl _) W0.out) | refine pw_below_drewN ?_ _)⟩⟩
        case measure => simp [intOf]; omega
    · rw [show min i n = n by omega] at HDa
      rw [if_neg (by omega), show nextV b s n n = -1 from if_neg (by omega), show errV n n = 231 from if_neg (by omega)] at HDa
      have Ta' : Aside0 (IsTape wr w.heap.size b n n s) := by have := Ta; rwa [show min i n = n by omega] at this
      have za : min (i + 1) n = n := by omega
      by_cases hbn : i < m
      · have hAb := Aside0.mk (at_some b t i hbo hi0 (draw_fits hbo hi0 (by rw [HE2.out]; exact hbn)) (by omega) 100 (by omega))
        rw [show min i m = i by omega] at HDb
        rw [if_pos hbn, show nextV b t m i = drawV b t i from if_pos hbn, show errV m i = 0 from if_pos hbn] at HDb
        have Tb' : Aside0 (IsTape wr (w.heap.size + 1) b i m t) := by have := Tb; rwa [show min i m = i by omega] at this
        obtain ⟨vb, hvb⟩ : ∃ v, drawV b t i = v := ⟨_, rfl⟩
        rw [hvb] at HDb hAb
        have zb : min (i + 1) m = i + 1 := by omega
        clear hbo HE HE2 Ta Tb
        go_wp2_with (first | (go_at_call 16; (with_reducible refine (HDa.out _ Ta'.out).mono ?_); rintro e wa ⟨rfl, hsa⟩; have HSa := Aside0.mk hsa; clear hsa) | (go_at_call 16; (with_reducible refine (HDb.out _ (HSa.out.far _ _ _ _ _ (by omega) Tb'.out)).mono ?_); rintro e wb ⟨rfl, hsb⟩; have HSb := Aside0.mk hsb; clear hsb) | (go_at_call 17; (with_reducible refine (heraldref23_At.calls _ _ _ _ _ _ hAb.out).mono ?_); rintro e w' ⟨rfl, ⟨m5, rfl⟩⟩))
        go_roundw
        case rel => exact ⟨i + 1, by omega, by omega, by first | rfl | go_num, ⟨by rw [za]; repeat (first | exact HSb.out.far _ _ _ _ _ (by omega) HSa.out.tape | apply IsTape.drewN)⟩, ⟨by rw [zb]; repeat (first | exact HSb.out.tape | apply IsTape.drewN)⟩, ⟨by repeat (first | exact HSb.out.below _ _ (Nat.le_succ _) (HSa.out.below _ _ (Nat.le_refl _) W0.out) | refine pw_below_drewN ?_ _)⟩⟩
        case measure => simp [intOf]; omega
      · rw [show min i m = m by omega] at HDb
        rw [if_neg (by omega), show nextV b t m m = -1 from if_neg (by omega), show errV m m = 231 from if_neg (by omega)] at HDb
        have Tb' : Aside0 (IsTape wr (w.heap.size + 1) b m m t) := by have := Tb; rwa [show min i m = m by omega] at this
        have zb : min (i + 1) m = m := by omega
        go_wp2
        go_ret
        exact ⟨by first | rfl | simp, by repeat (first | exact W0.out | refine pw_below_drewN ?_ _)⟩
theorem two_walk (b : Int) (s t : ByteArray) (w : World) (hs : s.size ≤ 1048576) (ht : t.size ≤ 1048576) : Calls Try.prog 4 #[.int .i64 b, .string s, .string t] w fun e w' => e = .returned (.bool true) ∧ Below w.heap.size w w' := by
  by_cases hb : IsBits b
  · exact two_yes b s t w hb hs ht
  · exact two_no b s t w hb
end Go.Proofs.Ytljlpkadjngpoaa.PAll
