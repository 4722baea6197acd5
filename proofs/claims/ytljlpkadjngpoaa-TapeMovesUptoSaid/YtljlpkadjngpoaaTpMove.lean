/- By hand: skips and going back. -/
import Derived.Test.YtljlpkadjngpoaaTpBack
namespace Go.Proofs.Ytljlpkadjngpoaa.PAll
open Go.RowKit Go.Proofs.Ytljlpkadjngpoaa.Math Go.Proofs.YtljlpkadjngpoaaW.PrintWords Go.Proofs.YtljlpkadjngpoaaW.PrintLast Go.Proofs.YtljlpkadjngpoaaW.PrintMore
set_option linter.unusedVariables false
set_option linter.unusedSimpArgs false

set_option maxHeartbeats 400000 in
theorem skip_nil (x : Int) (w : World) : Calls Try.prog 20 #[.pointer none, .int .i64 x] w fun e w' => e = .returned (.int .i64 231) ∧ Drawn0 w w' := by
  go_enter Try.func20, Try.ntmps20
  go_wp2
  go_ret
  exact ⟨by first | rfl | (simp; done), by repeat (first | exact Drawn0.refl _ | apply Drawn0.step)⟩
set_option maxHeartbeats 400000 in
theorem back_nil (x : Int) (w : World) : Calls Try.prog 21 #[.pointer none, .int .i64 x] w fun e w' => e = .returned (.int .i64 231) ∧ Drawn0 w w' := by
  go_enter Try.func21, Try.ntmps21
  go_wp2
  go_ret
  exact ⟨by first | rfl | (simp; done), by repeat (first | exact Drawn0.refl _ | apply Drawn0.step)⟩
/-- What a call on one tape changes, said of the cells, too. -/
structure Move (w w' : World) (g : Nat) (b u n : Int) (s : ByteArray) : Prop where
  step : Step w w' g b u n s
  cells : ∀ (p : Addr) (v : Value), p.block ≠ g → w.cell? p = some v → w'.cell? p = some v
theorem Move.stay {w : World} {g : Nat} {b u n : Int} {s : ByteArray} (h : IsTape w g b u n s) (m : Nat) : Move w (w.drewN m) g b u n s := ⟨(Step.stay h).drewN m, fun _ _ _ h' => h'⟩
theorem Move.set {w : World} {g : Nat} {b u n : Int} {s : ByteArray} (h : IsTape w g b u n s) (v : Int) (m : Nat) : Move w ((w.setCell ⟨g, 1, none⟩ (.int .i64 v)).drewN m) g b v n s :=
  ⟨(Step.set h v).drewN m, fun p x hp h' => (World.cell?_setCell_other _ _ _ _ (fun e => hp (by rw [← e]))).trans h'⟩
theorem draw_move (g : Nat) (b u n : Int) (s : ByteArray) (w : World) (hb : IsBits b) (h : IsTape w g b u n s) (h0 : 0 ≤ u) (h1 : u < n) (hn : n = 8 * (s.size : Int) / b) (hs : s.size ≤ 1048576) :
    Calls Try.prog 16 #[.pointer (some ⟨g, 0, none⟩)] w fun e w' => e = .returned (.tuple #[.int .i64 (drawV b s u), .int .i64 0]) ∧ Move w w' g b (u + 1) n s := by
  refine (draw_calls g b u n s w hb h h0 h1 hn (by omega)).mono ?_
  rintro e w' ⟨rfl, ⟨m, rfl⟩⟩
  exact ⟨rfl, Move.set h (u + 1) m⟩
theorem draw_move_none (g : Nat) (b n : Int) (s : ByteArray) (w : World) (h : IsTape w g b n n s) :
    Calls Try.prog 16 #[.pointer (some ⟨g, 0, none⟩)] w fun e w' => e = .returned (.tuple #[.int .i64 (-1), .int .i64 231]) ∧ Move w w' g b n n s := by
  refine (draw_none g b n s w h).mono ?_
  rintro e w' ⟨rfl, ⟨m, rfl⟩⟩
  exact ⟨rfl, Move.stay h m⟩
def skipE (x u n : Int) : Int := if x < 0 then 1 else if x > n - u then 231 else 0
def skipU (x u n : Int) : Int := if x < 0 then u else if x > n - u then u else u + x
set_option maxHeartbeats 800000 in
theorem skip_calls (g : Nat) (b u n x : Int) (s : ByteArray) (w : World) (h : IsTape w g b u n s) (h0 : 0 ≤ u) (h1 : u ≤ n) (h2 : n ≤ 8388608) :
    Calls Try.prog 20 #[.pointer (some ⟨g, 0, none⟩), .int .i64 x] w fun e w' => e = .returned (.int .i64 (skipE x u n)) ∧ Move w w' g b (skipU x u n) n s := by
  have hl : ∀ W, Drawn0 w W → Calls Try.prog 15 #[.pointer (some ⟨g, 0, none⟩)] W fun e w' => e = .returned (.int .i64 (n - u)) ∧ Drawn0 W w' := by
    rintro W ⟨⟨q, rfl⟩⟩
    have := left_calls g b u n s _ (h.drewN q)
    rwa [show wrap64 (n - u) = n - u from by unfold wrap64; omega] at this
  have HL := Aside0.mk hl
  have c1 := h.c1
  have f1 := h.fz 1
  have HT := Aside0.mk h
  clear hl h
  unfold skipE skipU
  by_cases hx : x < 0
  · rw [if_pos hx, if_pos hx]
    go_enter Try.func20, Try.ntmps20
    go_wp2
    go_ret
    exact ⟨by first | rfl | (simp; done), by first | exact Move.stay HT.out _ | exact Move.stay HT.out 0⟩
  · rw [if_neg hx, if_neg hx]
    by_cases hy : x > n - u
    · rw [if_pos hy, if_pos hy]
      go_enter Try.func20, Try.ntmps20
      go_wp2_with (go_at_call 15; refine (HL.out _ ⟨0, rfl⟩).mono ?_; rintro e w' ⟨rfl, ⟨nd, rfl⟩⟩)
      go_ret
      exact ⟨by first | rfl | (simp; done), by first | exact Move.stay HT.out _ | exact Move.stay HT.out 0⟩
    · rw [if_neg hy, if_neg hy]
      go_enter Try.func20, Try.ntmps20
      go_wp2_with (go_at_call 15; refine (HL.out _ ⟨0, rfl⟩).mono ?_; rintro e w' ⟨rfl, ⟨nd, rfl⟩⟩)
      go_ret
      refine ⟨by first | rfl | (simp; done), ?_⟩
      rw [setCell_drewN]
      exact Move.set HT.out _ _
def backE (x u : Int) : Int := if x < 0 then 1 else if x > u then 1 else 0
def backU (x u : Int) : Int := if x < 0 then u else if x > u then u else u - x
set_option maxHeartbeats 800000 in
theorem goback_calls (g : Nat) (b u n x : Int) (s : ByteArray) (w : World) (h : IsTape w g b u n s) (h0 : 0 ≤ u) (h1 : u ≤ n) (h2 : n ≤ 8388608) :
    Calls Try.prog 21 #[.pointer (some ⟨g, 0, none⟩), .int .i64 x] w fun e w' => e = .returned (.int .i64 (backE x u)) ∧ Move w w' g b (backU x u) n s := by
  have c1 := h.c1
  have f1 := h.fz 1
  have HT := Aside0.mk h
  clear h
  unfold backE backU
  by_cases hx : x < 0
  · rw [if_pos hx, if_pos hx]
    go_enter Try.func21, Try.ntmps21
    go_wp2
    go_ret
    exact ⟨by first | rfl | (simp; done), by first | exact Move.stay HT.out _ | exact Move.stay HT.out 0⟩
  · rw [if_neg hx, if_neg hx]
    by_cases hy : x > u
    · rw [if_pos hy, if_pos hy]
      go_enter Try.func21, Try.ntmps21
      go_wp2
      go_ret
      exact ⟨by first | rfl | (simp; done), by first | exact Move.stay HT.out _ | exact Move.stay HT.out 0⟩
    · rw [if_neg hy, if_neg hy]
      go_enter Try.func21, Try.ntmps21
      go_wp2
      go_ret
      refine ⟨by first | rfl | (simp; done), ?_⟩
      exact Move.set HT.out _ 0

/-- All draws of the reference. -/
def AllOf (b : Int) (s : ByteArray) (n : Int) (l : List Int) : Prop := (l.length : Int) = n ∧ ∀ i : Nat, i < l.length → rd l (i : Int) = drawV b s (i : Int)
theorem all_loop (b : Int) (s : ByteArray) (n : Int) (hb : IsBits b) (hn : 8 * (s.size : Int) / b = n) (hs : s.size ≤ 1048576) (hn1 : n ≤ 8388608) : ∀ (e : Nat) (l : List Int) (k : Nat), (l.length : Int) + e = n → (∀ i : Nat, i < l.length → rd l (i : Int) = drawV b s (i : Int)) → e + 70 ≤ k →
    ∃ r, heraldref23_All.l0 k b s n 0 l (l.length : Int) = some (r, 0) ∧ AllOf b s n r := by
  intro e
  induction e with
  | zero =>
    intro l k he h hk
    obtain ⟨k, rfl⟩ : ∃ m, k = m + 1 := ⟨k - 1, by omega⟩
    simp only [heraldref23_All.l0]
    rw [if_neg (by omega)]
    exact ⟨l, rfl, by omega, h⟩
  | succ e ih =>
    intro l k he h hk
    obtain ⟨k, rfl⟩ : ∃ m, k = m + 1 := ⟨k - 1, by omega⟩
    have h0 : (0 : Int) ≤ (l.length : Int) := Int.natCast_nonneg _
    have hlt : (l.length : Int) < n := by omega
    have hfit := draw_fits hb h0 (by rw [hn]; exact hlt)
    simp only [heraldref23_All.l0]
    rw [if_pos hlt, at_some b s (l.length : Int) hb h0 hfit (by omega) k (by omega)]
    simp only [Option.bind_some]
    rw [if_pos (by omega), Math.wrap_in (by omega) (by omega)]
    have hlen : ((l ++ [drawV b s (l.length : Int)]).length : Int) = (l.length : Int) + 1 := by simp
    have := ih (l ++ [drawV b s (l.length : Int)]) k (by omega) (by
      intro i hi
      by_cases hil : i < l.length
      · rw [← h i hil]
        simp [rd, List.getD_eq_getElem?_getD, List.getElem?_append_left hil]
      · obtain rfl : i = l.length := by simp at hi; omega
        exact rd_snoc l _ _ rfl) (by omega)
    rw [hlen] at this
    exact this
theorem all_some (b : Int) (s : ByteArray) (n : Int) (hb : IsBits b) (hn : 8 * (s.size : Int) / b = n) (hs : s.size ≤ 1048576) (k : Nat) (hk : 8388700 ≤ k) : ∃ l, heraldref23_All.f k b s = some (l, 0) ∧ AllOf b s n l := by
  obtain ⟨h0, h1⟩ := count_range b s hb hs
  rw [hn] at h0 h1
  unfold heraldref23_All.f
  rw [refDraws_yes b (s.size : Int) hb (by omega) (by omega), hn]
  exact all_loop b s n hb hn hs h1 n.toNat [] k (by simp; omega) (by intro i hi; simp at hi) (by omega)
theorem all_none (b : Int) (s : ByteArray) (hb : ¬ IsBits b) (k : Nat) (hk : 1 ≤ k) : heraldref23_All.f k b s = some ([], 230) := by
  obtain ⟨k, rfl⟩ : ∃ m, k = m + 1 := ⟨k - 1, by omega⟩
  unfold heraldref23_All.f
  rw [refDraws_no b (s.size : Int) hb]
  simp only [Option.bind_some, heraldref23_All.l0]
  rw [if_neg (by omega)]
/-- A row of moves. -/
def IsMoves (w : World) (A : Option Addr) (n : Nat) : Prop := ∀ i : Nat, i < n → ∃ (ad : Addr) (x : Int) (y : Bool), A = some ad ∧ w.cell? (ad.add (i * 2)) = some (.int .i64 x) ∧ w.cell? (ad.add (i * 2 + 1)) = some (.bool y) ∧ (Lit.int .i64 x).wf = true
theorem add_next (ad : Addr) (i : Nat) : ad.add (i + 1) = ⟨(ad.add i).block, (ad.add i).off + 1, none⟩ := by
  unfold Addr.add
  by_cases h : i = 0
  · subst h; simp
  · simp [h]; omega
/-- The cells of a row that was made behind a block. -/
def RowAt (w : World) (g : Nat) (A : Option Addr) (l : List Int) : Prop := ∀ i : Nat, i < l.length → ∃ q : Nat, A = some ⟨q, 0, none⟩ ∧ g < q ∧ w.cell? ⟨q, i, none⟩ = some (.int .i64 (rd l (i : Int)))
theorem rowAt_of {w : World} {g base : Nat} {A : Option Addr} {c : Nat} {l : List Int} (h : Kd.R (Kd.int .i64) 2 w base (fun _ => True) (.slice A l.length c) l) (hg : g < base) : RowAt w g A l := by
  intro i hi
  obtain ⟨q, cap, he, hb, hl, cells, hc⟩ := Kd.R_form h (by omega)
  obtain ⟨_, _, hC⟩ := Kd.R_reads' h
  obtain ⟨ad, e1, hx⟩ := Kd.at_int hC (i : Int) (Int.natCast_nonneg _) (Int.ofNat_lt.mpr hi)
  subst e1
  cases he
  refine ⟨q, rfl, by omega, ?_⟩
  rw [Int.toNat_natCast] at hx
  have e : (⟨q, 0, none⟩ : Addr).add i = ⟨q, i, none⟩ := by
    unfold Addr.add
    by_cases h : i = 0
    · subst h; rfl
    · simp [h]
  rwa [e] at hx
set_option maxRecDepth 20000 in
set_option maxHeartbeats 3200000 in
theorem moves_no (b : Int) (s : ByteArray) (A : Option Addr) (c len : Nat) (w : World) (hb : ¬ IsBits b) : Calls Try.prog 7 #[.int .i64 b, .string s, .slice A len c] w fun e w' => e = .returned (.bool true) ∧ Below w.heap.size w w' := by
  have HN := Aside0.mk (show tape_isBits.f b = some false by rw [isBits_some, decide_eq_false hb])
  have HA := Aside0.mk (all_none b s hb 1 (Nat.le_refl _))
  clear hb
  go_enter Try.func7, Try.ntmps7
  go_wp2_with (first | (go_at_call 11; refine (new_no b s _ HN.out).mono ?_; rintro e w' ⟨rfl, ⟨m, rfl⟩⟩) | (go_at_call 19; refine (heraldref23_All.calls _ _ _ _ _ _ HA.out).mono ?_; rintro e wl ⟨vl, rfl, hR, hbl⟩; have HBl := Aside0.mk hbl; clear hbl hR) | (go_at_call 20; refine (skip_nil _ _).mono ?_; rintro e w' ⟨rfl, ⟨m2, rfl⟩⟩) | (go_at_call 21; refine (back_nil _ _).mono ?_; rintro e w' ⟨rfl, ⟨m3, rfl⟩⟩) | (go_at_call 13; refine (heraldlaw23_awake.calls true _ rfl).mono ?_; rintro e w1 ⟨rfl, hbel⟩; have HBc := Aside0.mk hbel; clear hbel))
  go_ret
  refine ⟨by first | rfl | simp, ?_⟩
  repeat (refine pw_below_drewN ?_ _)
  have h1 := below_then (pw_below_drewN (Below.refl w.heap.size w) _) (by simp) HBl.out
  exact below_then h1 h1.size HBc.out
set_option maxRecDepth 20000 in
set_option maxHeartbeats 3200000 in
theorem moves_yes (b : Int) (s : ByteArray) (A : Option Addr) (c len : Nat) (w : World) (hc : len ≤ c) (hlen : len ≤ 1048576) (hM : IsMoves w A len) (hb : IsBits b) (hs : s.size ≤ 1048576) : Calls Try.prog 7 #[.int .i64 b, .string s, .slice A len c] w fun e w' => e = .returned (.bool true) ∧ Below w.heap.size w w' := by
  obtain ⟨n, hn⟩ : ∃ n, 8 * (s.size : Int) / b = n := ⟨_, rfl⟩
  obtain ⟨hn0, hn1⟩ := count_range b s hb hs
  rw [hn] at hn0 hn1
  obtain ⟨k, hk⟩ : ∃ k, k = 8388700 := ⟨_, rfl⟩
  obtain ⟨l, hl, hall⟩ := all_some b s n hb hn hs k (by omega)
  have HN := Aside0.mk (fun W => new_big b n s W hb hn (by omega))
  have HA := Aside0.mk hl
  have HL := Aside0.mk hall
  have HB := Aside0.mk hb
  have HE := Aside0.mk hn
  have HM := Aside0.mk hM
  have hll := hall.1
  clear hl hall hb hn hM hk
  go_enter Try.func7, Try.ntmps7
  go_wp2_with (first | (go_at_call 11; (with_reducible refine (HN.out _).mono ?_); rintro e wn ⟨rfl, hsn⟩; have HSn := Aside0.mk hsn; clear hsn) | (go_at_call 19; refine (heraldref23_All.calls _ _ _ _ _ _ HA.out).mono ?_; rintro e wl ⟨vl, rfl, hR, hbl⟩; have HBl := Aside0.mk hbl; have HRl := Aside0.mk hR; clear hbl hR) | (go_at_call 20; refine (skip_nil _ _).mono ?_; rintro e w' ⟨rfl, ⟨m2, rfl⟩⟩) | (go_at_call 21; refine (back_nil _ _).mono ?_; rintro e w' ⟨rfl, ⟨m3, rfl⟩⟩) | (go_at_call 13; refine (heraldlaw23_awake.calls true _ rfl).mono ?_; rintro e w1 ⟨rfl, hbel⟩; have HBc := Aside0.mk hbel; clear hbel))
  obtain ⟨Al, cl, rfl, hcl⟩ := Kd.R_slice HRl.out
  have hg0 : w.heap.size ≤ w.heap.size := Nat.le_refl _
  have hb1 := HSn.out.below _ _ (Nat.le_refl _) (Below.refl w.heap.size w)
  have hb2 := below_then hb1 hb1.size HBl.out
  have hb3 := below_then hb2 hb2.size HBc.out
  have HW := Aside0.mk hb3
  have HT := Aside0.mk ((HSn.out.tape.below HBl.out).below HBc.out)
  have HRl1 := Aside0.mk (rowAt_of (g := w.heap.size) (Kd.R_below HRl.out HBc.out) (blk_lt HSn.out.tape))
  clear HSn HBl HBc HRl hb1 hb2 hb3
  go_loopw [12, 13] (fun v12 v13 wr => ∃ (at_ : Int) (i : Nat), 0 ≤ at_ ∧ at_ ≤ n ∧ i ≤ len ∧ v12 = .int .i64 at_ ∧ v13 = .int .i64 (i : Int) ∧ Aside0 (IsTape wr w.heap.size b at_ n s) ∧ Aside0 (Below w.heap.size w wr) ∧ Aside0 (RowAt wr w.heap.size Al l)) (fun _ v13 _ => len - (intOf v13).toNat)
  case atStart => exact ⟨0, 0, Int.le_refl _, hn0, Nat.zero_le _, rfl, rfl, ⟨HT.out.drewN _⟩, ⟨pw_below_drewN HW.out _⟩, ⟨HRl1.out⟩⟩
  case round =>
    clear HT HW HRl1
    obtain ⟨at_, i, ha0, ha1, hi, rfl, rfl, T, W0, R0⟩ := hrel
    by_cases hlt : i < len
    · obtain ⟨ad, x, y, hA, hx0, hy0, hwx⟩ := HM.out i hlt
      subst hA
      have hx := (W0.out.cell (World.block_lt_of_cell? w _ hx0)).trans hx0
      have hy := (W0.out.cell (World.block_lt_of_cell? w _ hy0)).trans hy0
      rw [add_next] at hy
      have p1 : (0 : Int) ≤ (i : Int) := Int.natCast_nonneg _
      have p2 : (i : Int) < (len : Int) := Int.ofNat_lt.mpr hlt
      have hxr : -9223372036854775808 ≤ x ∧ x ≤ 9223372036854775807 := (Lit.wf_int_iff _ _).1 hwx
      clear hx0 hy0 hwx
      have hgr : w.heap.size < wr.heap.size := blk_lt T.out
      have hgn : wr.heap.size ≠ w.heap.size := by omega
      have HG := Aside0.mk hgn
      have B1 := below_alloc (Below.refl wr.heap.size wr) (.cells #[.int .i64 x, .bool y] 45)
      have T1 := Aside0.mk (T.out.below B1)
      have W1b := Aside0.mk (below_then W0.out W0.out.size B1)
      have R1 : Aside0 (RowAt (wr.alloc (.cells #[.int .i64 x, .bool y] 45)) w.heap.size Al l) := ⟨by
        intro j hj
        obtain ⟨q, e1, e2, e3⟩ := R0.out j hj
        exact ⟨q, e1, e2, (B1.cell (World.block_lt_of_cell? wr _ e3)).trans e3⟩⟩
      have l0 : (wr.alloc (.cells #[.int .i64 x, .bool y] 45)).cell? ⟨wr.heap.size, 0, none⟩ = some (.int .i64 x) := (blk_cell (heap_alloc_new wr _) 0).trans rfl
      have l1 : (wr.alloc (.cells #[.int .i64 x, .bool y] 45)).cell? ⟨wr.heap.size, 1, none⟩ = some (.bool y) := (blk_cell (heap_alloc_new wr _) 1).trans rfl
      have L0 := Aside0.mk l0
      have L1 := Aside0.mk l1
      have hq := wr.heap.size
      clear B1 T R0
      cases y
      · by_cases hz : x = 0
        · subst hz
          by_cases han : at_ < n
          · have HC : Aside0 (∀ W, IsTape W w.heap.size b at_ n s → Calls Try.prog 16 #[.pointer (some ⟨w.heap.size, 0, none⟩)] W fun e w' => e = .returned (.tuple #[.int .i64 (drawV b s at_), .int .i64 0]) ∧ Move W w' w.heap.size b (at_ + 1) n s) := ⟨by
              intro W hT
              have := draw_move w.heap.size b at_ n s W HB.out hT ha0 han HE.out.symm hs
              exact this⟩
            obtain ⟨q, e1, e2, e3⟩ := R1.out at_.toNat (by omega)
            have hd : rd l ((at_.toNat : Nat) : Int) = drawV b s at_ := by rw [HL.out.2 _ (by omega), Int.toNat_of_nonneg ha0]
            rw [hd] at e3
            subst e1
            obtain ⟨dv, hdv⟩ : ∃ v, drawV b s at_ = v := ⟨_, rfl⟩
            rw [hdv] at HC e3
            have E3 := Aside0.mk e3
            have hqg : q ≠ w.heap.size := by omega
            have HQ := Aside0.mk hqg
            have pa : at_ < (l.length : Int) := by omega
            clear e3 hd hdv hqg
            clear l0 l1
            have hw1 : wrap64 ((n) - (at_ + 1)) = n - (at_ + 1) := Math.wrap_in (by omega) (by omega)
            have hll' := hll
            go_wp2_with (first | (go_at_call 16; (with_reducible refine (HC.out _ T1.out).mono ?_); rintro e wa ⟨rfl, hma⟩; have HMa := Aside0.mk hma; clear hma; have m0 := HMa.out.cells _ _ HG.out L0.out; have m1 := HMa.out.cells _ _ HG.out L1.out; have m2 := HMa.out.cells _ _ HQ.out E3.out) | (go_at_call 14; refine (used_calls _ _ _ _ _ _ HMa.out.step.tape).mono ?_; rintro e w' ⟨rfl, ⟨m2, rfl⟩⟩) | (go_at_call 15; refine (left_calls _ _ _ _ _ _ (HMa.out.step.tape.drewN _)).mono ?_; rintro e w' ⟨rfl, ⟨m3, rfl⟩⟩))
            go_roundw
            case rel => exact ⟨at_ + 1, i + 1, by omega, by omega, by omega, by first | rfl | go_num, by first | rfl | go_num, ⟨by repeat (first | exact HMa.out.step.tape | apply IsTape.drewN)⟩, ⟨by repeat (first | exact HMa.out.step.below _ _ (Nat.le_refl _) W1b.out | refine pw_below_drewN ?_ _)⟩, ⟨by intro j hj; obtain ⟨q_, a1, a2, a3⟩ := R1.out j hj; exact ⟨q_, a1, a2, HMa.out.cells _ _ (by simp; omega) a3⟩⟩⟩
            case measure => simp [intOf]; omega
          · obtain rfl : n = at_ := by omega
            have HC : Aside0 (∀ W, IsTape W w.heap.size b n n s → Calls Try.prog 16 #[.pointer (some ⟨w.heap.size, 0, none⟩)] W fun e w' => e = .returned (.tuple #[.int .i64 (-1), .int .i64 231]) ∧ Move W w' w.heap.size b (n) n s) := ⟨by
              intro W hT
              exact draw_move_none w.heap.size b n s W hT⟩
            clear l0 l1
            have hw1 : wrap64 (n - n) = 0 := by rw [Int.sub_self]; exact Math.wrap_in (by omega) (by omega)
            have hw2 : wrap64 0 = 0 := Math.wrap_in (by omega) (by omega)
            have hll' := hll
            go_wp2_with (first | (go_at_call 16; (with_reducible refine (HC.out _ T1.out).mono ?_); rintro e wa ⟨rfl, hma⟩; have HMa := Aside0.mk hma; clear hma; have m0 := HMa.out.cells _ _ HG.out L0.out; have m1 := HMa.out.cells _ _ HG.out L1.out) | (go_at_call 14; refine (used_calls _ _ _ _ _ _ HMa.out.step.tape).mono ?_; rintro e w' ⟨rfl, ⟨m2, rfl⟩⟩) | (go_at_call 15; refine (left_calls _ _ _ _ _ _ (HMa.out.step.tape.drewN _)).mono ?_; rintro e w' ⟨rfl, ⟨m3, rfl⟩⟩))
            go_roundw
            case rel => exact ⟨n, i + 1, by omega, by omega, by omega, by first | rfl | go_num, by first | rfl | go_num, ⟨by repeat (first | exact HMa.out.step.tape | apply IsTape.drewN)⟩, ⟨by repeat (first | exact HMa.out.step.below _ _ (Nat.le_refl _) W1b.out | refine pw_below_drewN ?_ _)⟩, ⟨by intro j hj; obtain ⟨q_, a1, a2, a3⟩ := R1.out j hj; exact ⟨q_, a1, a2, HMa.out.cells _ _ (by simp; omega) a3⟩⟩⟩
            case measure => simp [intOf]; omega
        · by_cases hneg : x < 0
          · have HC : Aside0 (∀ W, IsTape W w.heap.size b at_ n s → Calls Try.prog 20 #[.pointer (some ⟨w.heap.size, 0, none⟩), .int .i64 x] W fun e w' => e = .returned (.int .i64 1) ∧ Move W w' w.heap.size b (at_) n s) := ⟨by
              intro W hT
              have := skip_calls w.heap.size b at_ n x s W hT ha0 ha1 hn1
              rw [show skipE x at_ n = 1 from if_pos hneg, show skipU x at_ n = at_ from if_pos hneg] at this
              exact this⟩
            clear l0 l1
            have hw1 : wrap64 ((n) - (at_)) = n - (at_) := Math.wrap_in (by omega) (by omega)
            have hll' := hll
            go_wp2_with (first | (go_at_call 20; (with_reducible refine (HC.out _ T1.out).mono ?_); rintro e wa ⟨rfl, hma⟩; have HMa := Aside0.mk hma; clear hma; have m0 := HMa.out.cells _ _ HG.out L0.out; have m1 := HMa.out.cells _ _ HG.out L1.out) | (go_at_call 14; refine (used_calls _ _ _ _ _ _ HMa.out.step.tape).mono ?_; rintro e w' ⟨rfl, ⟨m2, rfl⟩⟩) | (go_at_call 15; refine (left_calls _ _ _ _ _ _ (HMa.out.step.tape.drewN _)).mono ?_; rintro e w' ⟨rfl, ⟨m3, rfl⟩⟩))
            go_roundw
            case rel => exact ⟨at_, i + 1, by omega, by omega, by omega, by first | rfl | go_num, by first | rfl | go_num, ⟨by repeat (first | exact HMa.out.step.tape | apply IsTape.drewN)⟩, ⟨by repeat (first | exact HMa.out.step.below _ _ (Nat.le_refl _) W1b.out | refine pw_below_drewN ?_ _)⟩, ⟨by intro j hj; obtain ⟨q_, a1, a2, a3⟩ := R1.out j hj; exact ⟨q_, a1, a2, HMa.out.cells _ _ (by simp; omega) a3⟩⟩⟩
            case measure => simp [intOf]; omega
          · by_cases hbig : x > n - at_
            · have HC : Aside0 (∀ W, IsTape W w.heap.size b at_ n s → Calls Try.prog 20 #[.pointer (some ⟨w.heap.size, 0, none⟩), .int .i64 x] W fun e w' => e = .returned (.int .i64 231) ∧ Move W w' w.heap.size b (at_) n s) := ⟨by
                intro W hT
                have := skip_calls w.heap.size b at_ n x s W hT ha0 ha1 hn1
                rw [show skipE x at_ n = 231 from (if_neg hneg).trans (if_pos hbig), show skipU x at_ n = at_ from (if_neg hneg).trans (if_pos hbig)] at this
                exact this⟩
              clear l0 l1
              have hw1 : wrap64 ((n) - (at_)) = n - (at_) := Math.wrap_in (by omega) (by omega)
              have hll' := hll
              go_wp2_with (first | (go_at_call 20; (with_reducible refine (HC.out _ T1.out).mono ?_); rintro e wa ⟨rfl, hma⟩; have HMa := Aside0.mk hma; clear hma; have m0 := HMa.out.cells _ _ HG.out L0.out; have m1 := HMa.out.cells _ _ HG.out L1.out) | (go_at_call 14; refine (used_calls _ _ _ _ _ _ HMa.out.step.tape).mono ?_; rintro e w' ⟨rfl, ⟨m2, rfl⟩⟩) | (go_at_call 15; refine (left_calls _ _ _ _ _ _ (HMa.out.step.tape.drewN _)).mono ?_; rintro e w' ⟨rfl, ⟨m3, rfl⟩⟩))
              go_roundw
              case rel => exact ⟨at_, i + 1, by omega, by omega, by omega, by first | rfl | go_num, by first | rfl | go_num, ⟨by repeat (first | exact HMa.out.step.tape | apply IsTape.drewN)⟩, ⟨by repeat (first | exact HMa.out.step.below _ _ (Nat.le_refl _) W1b.out | refine pw_below_drewN ?_ _)⟩, ⟨by intro j hj; obtain ⟨q_, a1, a2, a3⟩ := R1.out j hj; exact ⟨q_, a1, a2, HMa.out.cells _ _ (by simp; omega) a3⟩⟩⟩
              case measure => simp [intOf]; omega
            · have HC : Aside0 (∀ W, IsTape W w.heap.size b at_ n s → Calls Try.prog 20 #[.pointer (some ⟨w.heap.size, 0, none⟩), .int .i64 x] W fun e w' => e = .returned (.int .i64 0) ∧ Move W w' w.heap.size b (at_ + x) n s) := ⟨by
                intro W hT
                have := skip_calls w.heap.size b at_ n x s W hT ha0 ha1 hn1
                rw [show skipE x at_ n = 0 from (if_neg hneg).trans (if_neg hbig), show skipU x at_ n = at_ + x from (if_neg hneg).trans (if_neg hbig)] at this
                exact this⟩
              clear l0 l1
              have hw1 : wrap64 ((n) - (at_ + x)) = n - (at_ + x) := Math.wrap_in (by omega) (by omega)
              have hll' := hll
              go_wp2_with (first | (go_at_call 20; (with_reducible refine (HC.out _ T1.out).mono ?_); rintro e wa ⟨rfl, hma⟩; have HMa := Aside0.mk hma; clear hma; have m0 := HMa.out.cells _ _ HG.out L0.out; have m1 := HMa.out.cells _ _ HG.out L1.out) | (go_at_call 14; refine (used_calls _ _ _ _ _ _ HMa.out.step.tape).mono ?_; rintro e w' ⟨rfl, ⟨m2, rfl⟩⟩) | (go_at_call 15; refine (left_calls _ _ _ _ _ _ (HMa.out.step.tape.drewN _)).mono ?_; rintro e w' ⟨rfl, ⟨m3, rfl⟩⟩))
              go_roundw
              case rel => exact ⟨at_ + x, i + 1, by omega, by omega, by omega, by first | rfl | go_num, by first | rfl | go_num, ⟨by repeat (first | exact HMa.out.step.tape | apply IsTape.drewN)⟩, ⟨by repeat (first | exact HMa.out.step.below _ _ (Nat.le_refl _) W1b.out | refine pw_below_drewN ?_ _)⟩, ⟨by intro j hj; obtain ⟨q_, a1, a2, a3⟩ := R1.out j hj; exact ⟨q_, a1, a2, HMa.out.cells _ _ (by simp; omega) a3⟩⟩⟩
              case measure => simp [intOf]; omega
      · by_cases hneg : x < 0
        · have HC : Aside0 (∀ W, IsTape W w.heap.size b at_ n s → Calls Try.prog 21 #[.pointer (some ⟨w.heap.size, 0, none⟩), .int .i64 x] W fun e w' => e = .returned (.int .i64 1) ∧ Move W w' w.heap.size b (at_) n s) := ⟨by
            intro W hT
            have := goback_calls w.heap.size b at_ n x s W hT ha0 ha1 hn1
            rw [show backE x at_ = 1 from if_pos hneg, show backU x at_ = at_ from if_pos hneg] at this
            exact this⟩
          clear l0 l1
          have hw1 : wrap64 ((n) - (at_)) = n - (at_) := Math.wrap_in (by omega) (by omega)
          have hll' := hll
          go_wp2_with (first | (go_at_call 21; (with_reducible refine (HC.out _ T1.out).mono ?_); rintro e wa ⟨rfl, hma⟩; have HMa := Aside0.mk hma; clear hma; have m0 := HMa.out.cells _ _ HG.out L0.out; have m1 := HMa.out.cells _ _ HG.out L1.out) | (go_at_call 21; (with_reducible refine (HC.out _ HMa.out.step.tape).mono ?_); rintro e wb ⟨rfl, hmb⟩; have HMb := Aside0.mk hmb; clear hmb; have k0 := HMb.out.cells _ _ HG.out m0; have k1 := HMb.out.cells _ _ HG.out m1) | (go_at_call 14; refine (used_calls _ _ _ _ _ _ HMb.out.step.tape).mono ?_; rintro e w' ⟨rfl, ⟨m2, rfl⟩⟩) | (go_at_call 15; refine (left_calls _ _ _ _ _ _ (HMb.out.step.tape.drewN _)).mono ?_; rintro e w' ⟨rfl, ⟨m3, rfl⟩⟩))
          go_roundw
          case rel => exact ⟨at_, i + 1, by omega, by omega, by omega, by first | rfl | go_num, by first | rfl | go_num, ⟨by repeat (first | exact HMb.out.step.tape | apply IsTape.drewN)⟩, ⟨by repeat (first | exact HMb.out.step.below _ _ (Nat.le_refl _) (HMa.out.step.below _ _ (Nat.le_refl _) W1b.out) | refine pw_below_drewN ?_ _)⟩, ⟨by intro j hj; obtain ⟨q_, a1, a2, a3⟩ := R1.out j hj; exact ⟨q_, a1, a2, HMb.out.cells _ _ (by simp; omega) (HMa.out.cells _ _ (by simp; omega) a3)⟩⟩⟩
          case measure => simp [intOf]; omega
        · by_cases hbig : x > at_
          · have HC : Aside0 (∀ W, IsTape W w.heap.size b at_ n s → Calls Try.prog 21 #[.pointer (some ⟨w.heap.size, 0, none⟩), .int .i64 x] W fun e w' => e = .returned (.int .i64 1) ∧ Move W w' w.heap.size b (at_) n s) := ⟨by
              intro W hT
              have := goback_calls w.heap.size b at_ n x s W hT ha0 ha1 hn1
              rw [show backE x at_ = 1 from (if_neg hneg).trans (if_pos hbig), show backU x at_ = at_ from (if_neg hneg).trans (if_pos hbig)] at this
              exact this⟩
            clear l0 l1
            have hw1 : wrap64 ((n) - (at_)) = n - (at_) := Math.wrap_in (by omega) (by omega)
            have hll' := hll
            go_wp2_with (first | (go_at_call 21; (with_reducible refine (HC.out _ T1.out).mono ?_); rintro e wa ⟨rfl, hma⟩; have HMa := Aside0.mk hma; clear hma; have m0 := HMa.out.cells _ _ HG.out L0.out; have m1 := HMa.out.cells _ _ HG.out L1.out) | (go_at_call 21; (with_reducible refine (HC.out _ HMa.out.step.tape).mono ?_); rintro e wb ⟨rfl, hmb⟩; have HMb := Aside0.mk hmb; clear hmb; have k0 := HMb.out.cells _ _ HG.out m0; have k1 := HMb.out.cells _ _ HG.out m1) | (go_at_call 14; refine (used_calls _ _ _ _ _ _ HMb.out.step.tape).mono ?_; rintro e w' ⟨rfl, ⟨m2, rfl⟩⟩) | (go_at_call 15; refine (left_calls _ _ _ _ _ _ (HMb.out.step.tape.drewN _)).mono ?_; rintro e w' ⟨rfl, ⟨m3, rfl⟩⟩))
            go_roundw
            case rel => exact ⟨at_, i + 1, by omega, by omega, by omega, by first | rfl | go_num, by first | rfl | go_num, ⟨by repeat (first | exact HMb.out.step.tape | apply IsTape.drewN)⟩, ⟨by repeat (first | exact HMb.out.step.below _ _ (Nat.le_refl _) (HMa.out.step.below _ _ (Nat.le_refl _) W1b.out) | refine pw_below_drewN ?_ _)⟩, ⟨by intro j hj; obtain ⟨q_, a1, a2, a3⟩ := R1.out j hj; exact ⟨q_, a1, a2, HMb.out.cells _ _ (by simp; omega) (HMa.out.cells _ _ (by simp; omega) a3)⟩⟩⟩
            case measure => simp [intOf]; omega
          · have HC : Aside0 (∀ W, IsTape W w.heap.size b at_ n s → Calls Try.prog 21 #[.pointer (some ⟨w.heap.size, 0, none⟩), .int .i64 x] W fun e w' => e = .returned (.int .i64 0) ∧ Move W w' w.heap.size b (at_ - x) n s) := ⟨by
              intro W hT
              have := goback_calls w.heap.size b at_ n x s W hT ha0 ha1 hn1
              rw [show backE x at_ = 0 from (if_neg hneg).trans (if_neg hbig), show backU x at_ = at_ - x from (if_neg hneg).trans (if_neg hbig)] at this
              exact this⟩
            clear l0 l1
            have hw1 : wrap64 ((n) - (at_ - x)) = n - (at_ - x) := Math.wrap_in (by omega) (by omega)
            have hll' := hll
            go_wp2_with (first | (go_at_call 21; (with_reducible refine (HC.out _ T1.out).mono ?_); rintro e wa ⟨rfl, hma⟩; have HMa := Aside0.mk hma; clear hma; have m0 := HMa.out.cells _ _ HG.out L0.out; have m1 := HMa.out.cells _ _ HG.out L1.out) | (go_at_call 14; refine (used_calls _ _ _ _ _ _ HMa.out.step.tape).mono ?_; rintro e w' ⟨rfl, ⟨m2, rfl⟩⟩) | (go_at_call 15; refine (left_calls _ _ _ _ _ _ (HMa.out.step.tape.drewN _)).mono ?_; rintro e w' ⟨rfl, ⟨m3, rfl⟩⟩))
            go_roundw
            case rel => exact ⟨at_ - x, i + 1, by omega, by omega, by omega, by first | rfl | go_num, by first | rfl | go_num, ⟨by repeat (first | exact HMa.out.step.tape | apply IsTape.drewN)⟩, ⟨by repeat (first | exact HMa.out.step.below _ _ (Nat.le_refl _) W1b.out | refine pw_below_drewN ?_ _)⟩, ⟨by intro j hj; obtain ⟨q_, a1, a2, a3⟩ := R1.out j hj; exact ⟨q_, a1, a2, HMa.out.cells _ _ (by simp; omega) a3⟩⟩⟩
            case measure => simp [intOf]; omega
    · obtain rfl : i = len := by omega
      go_wp2
      go_ret
      exact ⟨by first | rfl | simp, by repeat (first | exact W0.out | refine pw_below_drewN ?_ _)⟩
theorem moves_walk (b : Int) (s : ByteArray) (A : Option Addr) (c len : Nat) (w : World) (hc : len ≤ c) (hlen : len ≤ 1048576) (hM : IsMoves w A len) (hs : s.size ≤ 1048576) : Calls Try.prog 7 #[.int .i64 b, .string s, .slice A len c] w fun e w' => e = .returned (.bool true) ∧ Below w.heap.size w w' := by
  by_cases hb : IsBits b
  · exact moves_yes b s A c len w hc hlen hM hb hs
  · exact moves_no b s A c len w hb
end Go.Proofs.Ytljlpkadjngpoaa.PAll
