/- By hand: all draws of a tape. -/
import Derived.Test.YtljlpkadjngpoaaTpAwake
namespace Go.Proofs.Ytljlpkadjngpoaa.PAll
open Go.RowKit Go.Proofs.YtljlpkadjngpoaaW.PrintWords Go.Proofs.YtljlpkadjngpoaaW.PrintLast Go.Proofs.YtljlpkadjngpoaaW.PrintMore
set_option linter.unusedVariables false
set_option linter.unusedSimpArgs false

/-- The draws of a tape from place o on. -/
def drawsV (b : Int) (s : ByteArray) (o n : Nat) : List Int := (List.range n).map fun i => drawV b s ((o + i : Nat) : Int)
theorem drawsV_len (b : Int) (s : ByteArray) (o n : Nat) : (drawsV b s o n).length = n := by simp [drawsV]
theorem drawsV_zero (b : Int) (s : ByteArray) (o : Nat) : drawsV b s o 0 = [] := rfl
theorem drawsV_succ (b : Int) (s : ByteArray) (o n : Nat) : drawsV b s o (n + 1) = drawsV b s o n ++ [drawV b s ((o + n : Nat) : Int)] := by
  unfold drawsV; rw [List.range_succ, List.map_append]; rfl
theorem IsTape.grown {W w1 : World} {g : Nat} {bits used all : Int} {s : ByteArray} {row : Option Nat} (h : IsTape W g bits used all s) (hg : W.grownBy w1 row) (hne : some g ≠ row) : IsTape w1 g bits used all s :=
  (hg.block g (blk_lt h) hne).trans h
/-- A draw, where a row of the call's own has been begun. -/
theorem draw_beside (g : Nat) (b used all : Int) (s : ByteArray) (w w0 : World) (v : Value) (l : List Int) (hb : IsBits b) (h : IsTape w g b used all s) (h0 : 0 ≤ used) (h1 : used < all) (ha : all = 8 * (s.size : Int) / b) (hs : (s.size : Int) ≤ 281474976710656)
    (hr : Kd.R (Kd.int .i64) 2 w w0.heap.size (fun _ => True) v l) (hB : Below w0.heap.size w0 w) (hg : w0.heap.size ≤ g) :
    ∀ W, Drawn0 w W → Calls Try.prog 16 #[.pointer (some ⟨g, 0, none⟩)] W fun e w' => e = .returned (.tuple #[.int .i64 (drawV b s used), .int .i64 0]) ∧ IsTape w' g b (used + 1) all s ∧ Kd.R (Kd.int .i64) 2 w' w0.heap.size (fun _ => True) v l ∧ Below w0.heap.size w0 w' := by
  rintro W ⟨⟨m, rfl⟩⟩
  refine (draw_calls g b used all s _ hb (h.drewN m) h0 h1 ha hs).mono ?_
  rintro e w' ⟨rfl, ⟨nd, rfl⟩⟩
  refine ⟨rfl, ((h.drewN m).set _).drewN nd, Kd.R_drewN (Kd.R_set (Kd.R_drewN hr m) (h.drewN m) (by decide) 1 _) nd, pw_below_drewN ?_ nd⟩
  exact (pw_below_drewN hB m).setCell (p := ⟨g, 1, none⟩) hg _

def tape_All.f (_k : Nat) (b : Int) (s : ByteArray) : Option (List Int × Int) := if IsBits b then (if s.size ≤ 1048576 then some (drawsV b s 0 (8 * (s.size : Int) / b).toNat, 0) else none) else some ([], 230)
theorem tape_All.mono : ∀ a0 a1 k, LeO (tape_All.f k a0 a1) (tape_All.f (k + 1) a0 a1) := fun _ _ _ => LeO.refl _
set_option maxHeartbeats 3200000 in
theorem all_yes (b : Int) (s : ByteArray) (w : World) (hb : IsBits b) (hs : s.size ≤ 1048576) (n : Nat) (hn : 8 * (s.size : Int) / b = (n : Int)) (hn1 : n ≤ 8388608) :
    Calls Try.prog 24 #[.int .i64 b, .string s] w fun e w' => ∃ v0_ : Value, e = .returned (.tuple #[v0_, .int .i64 0]) ∧ Kd.R (Kd.int .i64) 2 w' w.heap.size (fun _ => True) v0_ (drawsV b s 0 n) ∧ Below w.heap.size w w' := by
  have hnew := new_ok b s w hb (by omega)
  rw [hn] at hnew
  have HN := Aside0.mk hnew
  have HB := Aside0.mk hb
  have HE := Aside0.mk hn
  have HT0 := Aside0.mk (fun m : Nat => isTape_new w b n s m)
  have HW0 := Aside0.mk (below_alloc (Below.refl w.heap.size w) (.cells #[.int .i64 b, .int .i64 0, .int .i64 (n : Int), .string s] 66))
  clear hnew hb hn
  go_enter Try.func24, Try.ntmps24
  go_wp2_with (go_at_call 11; refine (HN.out).mono ?_; rintro e w' ⟨m, rfl, rfl⟩)
  go_loopg [8] n (fun kq v8 wr => ∃ i : Nat, i + kq = n ∧ Aside0 (IsTape wr w.heap.size b (i : Int) (n : Int) s) ∧ Aside0 (Kd.R (Kd.int .i64) 2 wr w.heap.size (fun _ => True) v8 (drawsV b s 0 i)) ∧ Aside0 (Below w.heap.size w wr))
  case atStart => exact ⟨0, by omega, ⟨HT0.out _⟩, ⟨Kd.R_nil _ _ _ _ _⟩, ⟨pw_below_drewN HW0.out _⟩⟩
  case round =>
    clear HT0 HW0 HN
    obtain ⟨i, hi, T, R, B⟩ := hrel
    by_cases hlt : i < n
    · have hbo := HB.out
      obtain ⟨k1, rfl⟩ : ∃ m, gk = m + 1 := ⟨gk - 1, by omega⟩
      have hdr := draw_beside w.heap.size b (i : Int) (n : Int) s wr w u8 _ hbo T.out (by omega) (by omega) HE.out.symm (by omega) R.out B.out (Nat.le_refl _)
      obtain ⟨d, hd⟩ : ∃ d : Int, (n : Int) - (i : Int) = d := ⟨_, rfl⟩
      have hle : ∀ W, Drawn0 wr W → Calls Try.prog 15 #[.pointer (some ⟨w.heap.size, 0, none⟩)] W fun e w' => e = .returned (.int .i64 d) ∧ Drawn0 W w' := by
        rintro W ⟨⟨q, rfl⟩⟩
        have := left_calls w.heap.size b (i : Int) (n : Int) s _ (T.out.drewN q)
        rwa [show wrap64 ((n : Int) - (i : Int)) = d from by unfold wrap64; omega] at this
      have hd0 : 0 < d := by omega
      have hD := drawsV_succ b s 0 i
      rw [Nat.zero_add] at hD
      obtain ⟨x, hx⟩ : ∃ x, drawV b s (i : Int) = x := ⟨_, rfl⟩
      rw [hx] at hdr hD
      have hln : (drawsV b s 0 i).length = i := drawsV_len b s 0 i
      have LN := Aside0.mk hln
      have HDr := Aside0.mk hdr
      have HLe := Aside0.mk hle
      have HD := Aside0.mk hD
      clear hbo hdr hd hle hD hx hln T R B
      go_wp2_with (first | (go_at_call 15; refine (HLe.out _ (by first | exact Drawn0.refl _ | exact ⟨⟨_, rfl⟩⟩)).mono ?_; rintro e w' ⟨rfl, ⟨m3, rfl⟩⟩) | (go_at_call 16; refine (HDr.out _ (by first | exact Drawn0.refl _ | exact ⟨⟨_, rfl⟩⟩)).mono ?_; rintro e wd ⟨rfl, ht, hr, hbd⟩; have HT := Aside0.mk ht; have HR := Aside0.mk hr; have HBd := Aside0.mk hbd; clear ht hr hbd) | ((with_reducible refine gate_builtin (b := .append) (xs := #[.tmp 28, .tmp 30]) rfl ?_); at_builtin; refine Kd.R_append (Kd.int .i64) (w0 := w) w.heap.size rfl (.tmp 28) (.tmp 30) 40 2 (.int .i64 0) 8 rfl Try.underlying40 info2 rfl (by decide) (by omega) u8 (drawsV b s 0 i) x [.int .i64 x] (fun _ => True) (fun _ => False) rfl rfl ?aP (fun _ hk => hk.elim) ?aF ?aO ?aB ?aS ?aL ?_; (case aP => exact rfl); (case aB => exact HBd.out); (case aF => exact (fun _ _ => trivial)); (case aO => exact HR.out); (case aS => exact (below_size HBd.out)); (case aL => have := LN.out; omega); intro v1 w9 ho hb hg hat; rw [← HD.out] at ho; have HO := Aside0.mk ho; have HB9 := Aside0.mk hb; have HG := Aside0.mk hg; clear ho hb hg hat))
      go_roundg k1
      case measure => omega
      case rel => exact ⟨i + 1, by omega, ⟨HT.out.grown HG.out (Kd.R_ne HR.out HT.out (by decide))⟩, ⟨HO.out⟩, ⟨HB9.out⟩⟩
    · obtain rfl : i = n := by omega
      have hle : ∀ W, Drawn0 wr W → Calls Try.prog 15 #[.pointer (some ⟨w.heap.size, 0, none⟩)] W fun e w' => e = .returned (.int .i64 0) ∧ Drawn0 W w' := by
        rintro W ⟨⟨q, rfl⟩⟩
        have := left_calls w.heap.size b (i : Int) (i : Int) s _ (T.out.drewN q)
        rwa [show wrap64 ((i : Int) - (i : Int)) = 0 from by unfold wrap64; omega] at this
      have HLe := Aside0.mk hle
      clear hle hlt
      go_wp2_with (first | (go_at_call 15; refine (HLe.out _ (by first | exact Drawn0.refl _ | exact ⟨⟨_, rfl⟩⟩)).mono ?_; rintro e w' ⟨rfl, ⟨m3, rfl⟩⟩))
      go_ret2
      exact ⟨_, by first | rfl | simp, by (with_reducible repeat (first | apply Kd.R_alloc | apply Kd.R_drewN | apply Kd.R_drew)); exact R.out, by repeat (first | exact B.out | refine pw_below_drewN ?_ _)⟩
set_option maxHeartbeats 800000 in
theorem all_no (b : Int) (s : ByteArray) (w : World) (hb : ¬ IsBits b) :
    Calls Try.prog 24 #[.int .i64 b, .string s] w fun e w' => ∃ v0_ : Value, e = .returned (.tuple #[v0_, .int .i64 230]) ∧ Kd.R (Kd.int .i64) 2 w' w.heap.size (fun _ => True) v0_ ([] : List Int) ∧ Below w.heap.size w w' := by
  have HN := Aside0.mk (show tape_isBits.f b = some false by rw [isBits_some, decide_eq_false hb])
  clear hb
  go_enter Try.func24, Try.ntmps24
  go_wp2_with (go_at_call 11; refine (new_no b s _ HN.out).mono ?_; rintro e w' ⟨rfl, ⟨m, rfl⟩⟩)
  go_ret2
  exact ⟨_, by first | rfl | simp, Kd.R_nil _ _ _ _ _, by repeat (first | exact Below.refl _ _ | refine pw_below_drewN ?_ _)⟩
theorem all_count (b : Int) (s : ByteArray) (hb : IsBits b) (hs : s.size ≤ 1048576) : ∃ n : Nat, n ≤ 8388608 ∧ 8 * (s.size : Int) / b = (n : Int) ∧ (8 * (s.size : Int) / b).toNat = n := by
  have h : 0 ≤ 8 * (s.size : Int) / b ∧ 8 * (s.size : Int) / b ≤ 8388608 := by
    unfold IsBits at hb
    rcases hb with rfl | rfl | rfl | rfl | rfl | rfl <;> omega
  exact ⟨(8 * (s.size : Int) / b).toNat, by omega, by omega, rfl⟩
theorem tape_All.calls (k : Nat) (a0 : Int) (a1 : ByteArray) (r1 : List Int) (r2 : Int) (w : World) (h : tape_All.f k a0 a1 = some (r1, r2)) :
    Calls Try.prog 24 #[.int .i64 a0, .string a1] w fun e w' => ∃ v0_ : Value, e = .returned (.tuple #[v0_, .int .i64 r2]) ∧ Kd.R (Kd.int .i64) 2 w' w.heap.size (fun _ => True) v0_ r1 ∧ Below w.heap.size w w' := by
  unfold tape_All.f at h
  by_cases hb : IsBits a0
  · rw [if_pos hb] at h
    by_cases hs : a1.size ≤ 1048576
    · rw [if_pos hs] at h
      obtain ⟨n, hn1, hn, hn2⟩ := all_count a0 a1 hb hs
      rw [hn2] at h
      simp only [Option.some.injEq, Prod.mk.injEq] at h
      obtain ⟨rfl, rfl⟩ := h
      exact all_yes a0 a1 w hb hs n hn hn1
    · rw [if_neg hs] at h
      exact absurd h (by simp)
  · rw [if_neg hb] at h
    simp only [Option.some.injEq, Prod.mk.injEq] at h
    obtain ⟨rfl, rfl⟩ := h
    exact all_no a0 a1 w hb
end Go.Proofs.Ytljlpkadjngpoaa.PAll
