/- By hand: a part of a tape. -/
import Derived.Test.YtljlpkadjngpoaaTpAll
import Derived.Test.YtljlpkadjngpoaaPAllx3
import Derived.Outline
namespace Go.Proofs.Ytljlpkadjngpoaa.PAll
open Go.RowKit Go.Proofs.YtljlpkadjngpoaaW.PrintWords Go.Proofs.YtljlpkadjngpoaaW.PrintLast Go.Proofs.YtljlpkadjngpoaaW.PrintMore
set_option linter.unusedVariables false
set_option linter.unusedSimpArgs false

def partBad (n f d : Int) : Bool := decide (f < 0) || decide (d < 0) || decide (f > n) || decide (d > n - f)
def tape_Part.f (k : Nat) (b : Int) (s : ByteArray) (f d : Int) : Option (ByteArray × Int) :=
  if IsBits b then (if s.size ≤ 1048576 then (if partBad (8 * (s.size : Int) / b) f d = true then some ((⟨#[]⟩ : ByteArray), 1) else tape_Make.f k b (drawsV b s f.toNat d.toNat)) else none) else some ((⟨#[]⟩ : ByteArray), 230)
theorem tape_Part.mono : ∀ a0 a1 a2 a3 k, LeO (tape_Part.f k a0 a1 a2 a3) (tape_Part.f (k + 1) a0 a1 a2 a3) := by
  intro a0 a1 a2 a3 k
  unfold tape_Part.f
  repeat' first
      | (with_reducible exact tape_Make.mono _ _ _)
      | (with_reducible exact LeO.refl _)
      | (with_reducible exact LeO.none _)
      | (with_reducible refine LeO.ite ?_ ?_)
set_option maxHeartbeats 800000 in
theorem part_no (b : Int) (s : ByteArray) (f d : Int) (w : World) (hb : ¬ IsBits b) :
    Calls Try.prog 25 #[.int .i64 b, .string s, .int .i64 f, .int .i64 d] w fun e w' => e = .returned (.tuple #[.string (⟨#[]⟩ : ByteArray), .int .i64 230]) ∧ Below w.heap.size w w' := by
  have HN := Aside0.mk (show tape_isBits.f b = some false by rw [isBits_some, decide_eq_false hb])
  clear hb
  go_enter Try.func25, Try.ntmps25
  go_wp2_with (go_at_call 11; refine (new_no b s _ HN.out).mono ?_; rintro e w' ⟨rfl, ⟨m, rfl⟩⟩)
  go_ret2
  exact ⟨by first | rfl | simp, by repeat (first | exact Below.refl _ _ | refine pw_below_drewN ?_ _)⟩
set_option maxHeartbeats 1600000 in
theorem part_bad (b : Int) (s : ByteArray) (f d : Int) (w : World) (hb : IsBits b) (hs : s.size ≤ 1048576) (n : Nat) (hn : 8 * (s.size : Int) / b = (n : Int)) (hn1 : n ≤ 8388608) (hp : partBad (n : Int) f d = true) :
    Calls Try.prog 25 #[.int .i64 b, .string s, .int .i64 f, .int .i64 d] w fun e w' => e = .returned (.tuple #[.string (⟨#[]⟩ : ByteArray), .int .i64 1]) ∧ Below w.heap.size w w' := by
  have hnew := new_ok b s w hb (by omega)
  rw [hn] at hnew
  have HN := Aside0.mk hnew
  have HW0 := Aside0.mk (below_alloc (Below.refl w.heap.size w) (.cells #[.int .i64 b, .int .i64 0, .int .i64 (n : Int), .string s] 66))
  clear hnew hb hn
  have fin : ∀ m, Below w.heap.size w ((w.alloc (.cells #[.int .i64 b, .int .i64 0, .int .i64 (n : Int), .string s] 66)).drewN m) := fun m => pw_below_drewN HW0.out m
  have FIN := Aside0.mk fin
  clear fin
  by_cases h1 : f < 0
  · clear hp
    go_enter Try.func25, Try.ntmps25
    go_wp2_with (go_at_call 11; refine (HN.out).mono ?_; rintro e w' ⟨m, rfl, rfl⟩)
    go_ret2
    exact ⟨by first | rfl | simp, by first | exact FIN.out _ | exact pw_below_drewN (FIN.out _) _⟩
  by_cases h2 : d < 0
  · clear hp
    go_enter Try.func25, Try.ntmps25
    go_wp2_with (go_at_call 11; refine (HN.out).mono ?_; rintro e w' ⟨m, rfl, rfl⟩)
    go_ret2
    exact ⟨by first | rfl | simp, by first | exact FIN.out _ | exact pw_below_drewN (FIN.out _) _⟩
  by_cases h3 : f > (n : Int)
  · clear hp
    have h3' : (n : Int) < f := h3
    have h3d : decide ((n : Int) < f) = true := decide_eq_true h3
    go_enter Try.func25, Try.ntmps25
    go_wp2_with (go_at_call 11; refine (HN.out).mono ?_; rintro e w' ⟨m, rfl, rfl⟩)
    go_ret2
    exact ⟨by first | rfl | simp, by first | exact FIN.out _ | exact pw_below_drewN (FIN.out _) _⟩
  · have h4 : (n : Int) - f < d := by
      unfold partBad at hp
      simp only [Bool.or_eq_true, decide_eq_true_eq] at hp
      omega
    clear hp
    have h4d : decide ((n : Int) - f < d) = true := decide_eq_true h4
    go_enter Try.func25, Try.ntmps25
    go_wp2_with (go_at_call 11; refine (HN.out).mono ?_; rintro e w' ⟨m, rfl, rfl⟩)
    go_ret2
    exact ⟨by first | rfl | simp, by first | exact FIN.out _ | exact pw_below_drewN (FIN.out _) _⟩
set_option maxHeartbeats 3200000 in
theorem part_yes (b : Int) (s : ByteArray) (f d : Nat) (w : World) (hb : IsBits b) (hs : s.size ≤ 1048576) (n : Nat) (hn : 8 * (s.size : Int) / b = (n : Int)) (hn1 : n ≤ 8388608) (hf : f + d ≤ n) (k : Nat) (r1 : ByteArray) (r2 : Int) (hm : tape_Make.f k b (drawsV b s f d) = some (r1, r2)) :
    Calls Try.prog 25 #[.int .i64 b, .string s, .int .i64 (f : Int), .int .i64 (d : Int)] w fun e w' => e = .returned (.tuple #[.string r1, .int .i64 r2]) ∧ Below w.heap.size w w' := by
  have hnew := new_ok b s w hb (by omega)
  rw [hn] at hnew
  have HN := Aside0.mk hnew
  have HB := Aside0.mk hb
  have HE := Aside0.mk hn
  have HM := Aside0.mk hm
  have HT0 := Aside0.mk (fun m : Nat => (isTape_new w b n s m).set (f : Int))
  have HW0 := Aside0.mk (below_alloc (Below.refl w.heap.size w) (.cells #[.int .i64 b, .int .i64 0, .int .i64 (n : Int), .string s] 66))
  have HF := Aside0.mk hf
  have h1 : ¬ ((n : Int) < (f : Int)) := by omega
  have h2 : ¬ ((n : Int) - (f : Int) < (d : Int)) := by omega
  have q0 : decide ((f : Int) < 0) = false := decide_eq_false (by omega)
  have q1 : decide ((d : Int) < 0) = false := decide_eq_false (by omega)
  have q2 : decide (n < f) = false := decide_eq_false (by omega)
  have q3 : decide ((n : Int) - (f : Int) < (d : Int)) = false := decide_eq_false (by omega)
  clear hnew hb hn hm hf
  go_enter Try.func25, Try.ntmps25
  go_wp2_with (go_at_call 11; refine (HN.out).mono ?_; rintro e w' ⟨m, rfl, rfl⟩)
  go_loopg [12, 53] d (fun kq v12 v53 wr => ∃ i : Nat, i + kq = d ∧ v53 = .int .i64 (i : Int) ∧ Aside0 (IsTape wr w.heap.size b ((f + i : Nat) : Int) (n : Int) s) ∧ Aside0 (Kd.R (Kd.int .i64) 2 wr w.heap.size (fun _ => True) v12 (drawsV b s f i)) ∧ Aside0 (Below w.heap.size w wr))
  case atStart => exact ⟨0, by omega, rfl, ⟨by have := HT0.out m; exact this⟩, ⟨Kd.R_nil _ _ _ _ _⟩, ⟨(pw_below_drewN HW0.out m).setCell (p := ⟨w.heap.size, 1, none⟩) (Nat.le_refl _) _⟩⟩
  case round =>
    clear HT0 HW0 HN
    obtain ⟨i, hi, rfl, T, R, B⟩ := hrel
    by_cases hlt : i < d
    · have hbo := HB.out
      obtain ⟨k1, rfl⟩ : ∃ m, gk = m + 1 := ⟨gk - 1, by omega⟩
      have hff := HF.out
      have hdr := draw_beside w.heap.size b ((f + i : Nat) : Int) (n : Int) s wr w u12 _ hbo T.out (by omega) (by omega) HE.out.symm (by omega) R.out B.out (Nat.le_refl _)
      have hD := drawsV_succ b s f i
      obtain ⟨x, hx⟩ : ∃ x, drawV b s ((f + i : Nat) : Int) = x := ⟨_, rfl⟩
      rw [hx] at hdr hD
      have hln : (drawsV b s f i).length = i := drawsV_len b s f i
      have LN := Aside0.mk hln
      have HDr := Aside0.mk hdr
      have HD := Aside0.mk hD
      clear hbo hdr hD hx hln T R B hff
      go_wp2_with (first | (go_at_call 16; refine (HDr.out _ (by first | exact Drawn0.refl _ | exact ⟨⟨_, rfl⟩⟩)).mono ?_; rintro e wd ⟨rfl, ht, hr, hbd⟩; have HT := Aside0.mk ht; have HR := Aside0.mk hr; have HBd := Aside0.mk hbd; clear ht hr hbd) | ((with_reducible refine gate_builtin (b := .append) (xs := #[.tmp 60, .tmp 62]) rfl ?_); at_builtin; refine Kd.R_append (Kd.int .i64) (w0 := w) w.heap.size rfl (.tmp 60) (.tmp 62) 40 2 (.int .i64 0) 8 rfl Try.underlying40 info2 rfl (by decide) (by omega) u12 (drawsV b s f i) x [.int .i64 x] (fun _ => True) (fun _ => False) rfl rfl ?aP (fun _ hk => hk.elim) ?aF ?aO ?aB ?aS ?aL ?_; (case aP => exact rfl); (case aB => exact HBd.out); (case aF => exact (fun _ _ => trivial)); (case aO => exact HR.out); (case aS => exact (below_size HBd.out)); (case aL => have := LN.out; omega); intro v1 w9 ho hb hg hat; rw [← HD.out] at ho; have HO := Aside0.mk ho; have HB9 := Aside0.mk hb; have HG := Aside0.mk hg; clear ho hb hg hat))
      go_roundg k1
      case measure => omega
      case rel => exact ⟨i + 1, by omega, by first | rfl | go_num, ⟨by have := HT.out.grown HG.out (Kd.R_ne HR.out HT.out (by decide)); exact this⟩, ⟨HO.out⟩, ⟨HB9.out⟩⟩
    · obtain rfl : i = d := by omega
      obtain ⟨A, c, rfl, hc, hr⟩ := Kd.R_reads R.out
      have HC := Aside0.mk hr
      clear hr hlt
      go_wp2_with (go_at_call 22; (with_reducible refine (tape_Make.calls k b A c (drawsV b s f i) r1 r2 _ HC.out hc HM.out).mono ?_); rintro e wm ⟨rfl, hbm⟩)
      go_ret2
      exact ⟨by first | rfl | simp, below_then B.out B.out.size hbm⟩
theorem tape_Part.calls (k : Nat) (a0 : Int) (a1 : ByteArray) (a2 : Int) (a3 : Int) (r1 : ByteArray) (r2 : Int) (w : World) (h : tape_Part.f k a0 a1 a2 a3 = some (r1, r2)) :
    Calls Try.prog 25 #[.int .i64 a0, .string a1, .int .i64 a2, .int .i64 a3] w fun e w' => e = .returned (.tuple #[.string r1, .int .i64 r2]) ∧ Below w.heap.size w w' := by
  unfold tape_Part.f at h
  by_cases hb : IsBits a0
  · rw [if_pos hb] at h
    by_cases hs : a1.size ≤ 1048576
    · rw [if_pos hs] at h
      obtain ⟨n, hn1, hn, hn2⟩ := all_count a0 a1 hb hs
      rw [hn] at h
      by_cases hp : partBad (n : Int) a2 a3 = true
      · rw [if_pos hp] at h
        simp only [Option.some.injEq, Prod.mk.injEq] at h
        obtain ⟨rfl, rfl⟩ := h
        exact part_bad a0 a1 a2 a3 w hb hs n hn hn1 hp
      · rw [if_neg hp] at h
        unfold partBad at hp
        simp only [Bool.or_eq_true, decide_eq_true_eq] at hp
        obtain ⟨f, rfl⟩ := Int.eq_ofNat_of_zero_le (show 0 ≤ a2 by omega)
        obtain ⟨d, rfl⟩ := Int.eq_ofNat_of_zero_le (show 0 ≤ a3 by omega)
        exact part_yes a0 a1 f d w hb hs n hn hn1 (by omega) k r1 r2 h
    · rw [if_neg hs] at h
      exact absurd h (by simp)
  · rw [if_neg hb] at h
    simp only [Option.some.injEq, Prod.mk.injEq] at h
    obtain ⟨rfl, rfl⟩ := h
    exact part_no a0 a1 a2 a3 w hb
end Go.Proofs.Ytljlpkadjngpoaa.PAll
