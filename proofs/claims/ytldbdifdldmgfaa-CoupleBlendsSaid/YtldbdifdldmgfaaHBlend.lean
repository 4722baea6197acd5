/- By hand: couple.Blend. -/
import Derived.Test.YtldbdifdldmgfaaSoH
import Derived.Test.YtldbdifdldmgfaaBlMath
namespace Go.Proofs.Ytldbdifdldmgfaa.PAll
open Go.RowKit Go.Proofs.Ytldbdifdldmgfaa.Math Go.Proofs.YtldbdifdldmgfaaW.PrintWords Go.Proofs.YtldbdifdldmgfaaW.PrintLast Go.Proofs.YtldbdifdldmgfaaW.PrintMore
set_option linter.unusedVariables false
set_option linter.unusedSimpArgs false

theorem both_at (A0 A1 : Option Addr) (c0 c1 n : Nat) (p q : List Int) (w : World) (h0 : Kd.C (Kd.int .i64) w A0 n p) (hc0 : n ≤ c0) (h1 : Kd.C (Kd.int .i64) w A1 n q) (hc1 : n ≤ c1) (hpn : p.length = n) (hqn : q.length = n) (hP : Pair p q) :
    Calls Try.prog 37 #[.slice A0 n c0, .slice A1 n c1] w fun e w' => e = .returned (.tuple #[.int .i64 p.sum, .int .i64 0]) ∧ Drawn0 w w' := by
  subst hpn
  have hb := both_err p q 601 (by omega)
  rw [errV_pair hP, if_pos rfl] at hb
  have := couple_both.calls 601 A0 c0 p A1 c1 q p.sum 0 w h0 hc0 (by rw [hqn]; exact h1) (by rw [hqn]; exact hc1) hb
  rw [hqn] at this
  exact this
/-- The four blocks of Blend: what is made, the box, what is left, the order. -/
structure Four (w W : World) (n go gb gl gr : Nat) (lo ll lr : List Int) : Prop where
  below : Below w.heap.size w W
  b : W.heap[gb]? = some (.cells #[.slice (some ⟨gl, 0, none⟩) n n] 22 (0, 0))
  o : W.heap[go]? = some (.cells (lo.map (Value.int .i64)).toArray 2 (0, 0))
  l : W.heap[gl]? = some (.cells (ll.map (Value.int .i64)).toArray 2 (0, 0))
  r : W.heap[gr]? = some (.cells (lr.map (Value.int .i64)).toArray 3 (0, 0))
  ho : w.heap.size ≤ go
  hb : w.heap.size ≤ gb
  hl : w.heap.size ≤ gl
  hr : w.heap.size ≤ gr
  ob : go ≠ gb
  ol : go ≠ gl
  or_ : go ≠ gr
  bl : gb ≠ gl
  br : gb ≠ gr
  lr : gl ≠ gr
section
variable {w W : World} {n go gb gl gr : Nat} {lo ll lr : List Int}
theorem Four.drewN (h : Four w W n go gb gl gr lo ll lr) (m : Nat) : Four w (W.drewN m) n go gb gl gr lo ll lr :=
  ⟨pw_below_drewN h.below m, h.b, h.o, h.l, h.r, h.ho, h.hb, h.hl, h.hr, h.ob, h.ol, h.or_, h.bl, h.br, h.lr⟩
theorem row_cell {W : World} {g e : Nat} {l : List Int} (h : W.heap[g]? = some (.cells (l.map (Value.int .i64)).toArray e (0, 0))) (i : Nat) (hi : i < l.length) : W.cell? ⟨g, i, none⟩ = some (.int .i64 (rd l (i : Int))) :=
  (blk_cell h i).trans (by simp [rd, List.getD_eq_getElem?_getD, hi])
theorem row_set {W : World} {g e : Nat} {l : List Int} (h : W.heap[g]? = some (.cells (l.map (Value.int .i64)).toArray e (0, 0))) (i : Nat) (x : Int) : (W.setCell ⟨g, i, none⟩ (.int .i64 x)).heap[g]? = some (.cells ((l.set i x).map (Value.int .i64)).toArray e (0, 0)) := by
  refine (blk_set h i _).trans ?_
  congr 1
  simp [List.map_set]
theorem Four.setO (h : Four w W n go gb gl gr lo ll lr) (i : Nat) (x : Int) : Four w (W.setCell ⟨go, i, none⟩ (.int .i64 x)) n go gb gl gr (lo.set i x) ll lr :=
  ⟨h.below.setCell (p := ⟨go, i, none⟩) h.ho _, blk_far h.b h.ob.symm _, row_set h.o i x, blk_far h.l h.ol.symm _, blk_far h.r h.or_.symm _, h.ho, h.hb, h.hl, h.hr, h.ob, h.ol, h.or_, h.bl, h.br, h.lr⟩
theorem Four.setL (h : Four w W n go gb gl gr lo ll lr) (i : Nat) (x : Int) : Four w (W.setCell ⟨gl, i, none⟩ (.int .i64 x)) n go gb gl gr lo (ll.set i x) lr :=
  ⟨h.below.setCell (p := ⟨gl, i, none⟩) h.hl _, blk_far h.b h.bl _, blk_far h.o h.ol _, row_set h.l i x, blk_far h.r h.lr.symm _, h.ho, h.hb, h.hl, h.hr, h.ob, h.ol, h.or_, h.bl, h.br, h.lr⟩
theorem Four.setR (h : Four w W n go gb gl gr lo ll lr) (i : Nat) (x : Int) : Four w (W.setCell ⟨gr, i, none⟩ (.int .i64 x)) n go gb gl gr lo ll (lr.set i x) :=
  ⟨h.below.setCell (p := ⟨gr, i, none⟩) h.hr _, blk_far h.b h.br _, blk_far h.o h.or_ _, blk_far h.l h.lr _, row_set h.r i x, h.ho, h.hb, h.hl, h.hr, h.ob, h.ol, h.or_, h.bl, h.br, h.lr⟩
end
theorem Four.sort {w W : World} {n go gb gl gr : Nat} {lo ll : List Int} (h : Four w W n go gb gl gr lo ll (rng 0 n)) (hll : ll.length = n) (hlv : ∀ x, 0 ≤ rd ll x ∧ rd ll x ≤ 65536) (hn0 : 0 < n) (hn2 : n ≤ 512) :
    Calls Try.prog 46 #[.slice (some ⟨gr, 0, none⟩) n n, .func (.func 47) #[] #[.pointer (some ⟨gb, 0, none⟩)]] W fun e w' => e = .returned (.tuple #[]) ∧ ∃ Z, Sorted (fun x => rd ll x) (rng 0 n) Z ∧ Four w w' n go gb gl gr lo ll Z := by
  refine (sortStable_calls W W gr gb n n (fun x => rd ll x) ⟨rfl, rfl, rfl, rfl, h.r, fun _ _ => rfl⟩ (cmps_of W gr gb gl n n ll h.br h.lr ((blk_cell h.b 0).trans rfl) hll (fun i hi => row_cell h.l i (by omega)) hlv hn2) hlv hn0 hn2).mono ?_
  rintro e w' ⟨rfl, Z, hz, hs⟩
  refine ⟨rfl, Z, hz, ⟨⟨hs.os.trans h.below.os, hs.tape.trans h.below.tape, hs.output.trans h.below.output, ?_, fun k hk => (hs.keep k (by have := h.hr; omega)).trans (h.below.block k hk)⟩, (hs.keep gb h.br).trans h.b, (hs.keep go h.or_).trans h.o, (hs.keep gl h.lr).trans h.l, hs.row, h.ho, h.hb, h.hl, h.hr, h.ob, h.ol, h.or_, h.bl, h.br, h.lr⟩⟩
  rw [hs.size]; exact h.below.size
theorem Four.own {w W : World} {n go gb gl gr : Nat} {lo ll lr : List Int} (h : Four w W n go gb gl gr lo ll lr) (hlo : lo.length = n) (hn2 : n ≤ 512) : Kd.R (Kd.int .i64) 2 W w.heap.size (fun _ => True) (.slice (some ⟨go, 0, none⟩) n n) lo := by
  subst hlo
  refine Kd.R_of_own (enc := Value.int .i64) ?_ (fun _ _ => trivial)
  refine ⟨by simp [encs], .inr ⟨go, lo.length, _, rfl, h.ho, h.o, Nat.le_refl _, by unfold maxLen; omega, by simp, ?_⟩⟩
  simp only [encs, Nat.mul_one]
  rw [List.take_of_length_le (by simp)]
theorem made_zero (n : Nat) : madeCells #[.int .i64 0] n = ((List.replicate n (0 : Int)).map (Value.int .i64)).toArray := by
  apply Array.ext
  · simp [madeCells]
  · intro i h1 h2
    simp [madeCells, Nat.mod_one]
theorem heap_old (w : World) (o : Obj) (k : Nat) (h : k < w.heap.size) : (w.alloc o).heap[k]? = w.heap[k]? := (below_alloc (Below.refl w.heap.size w) o).block k h
theorem four_heap (w1 : World) (a b c d : Obj) :
    ((((w1.alloc a).alloc b).alloc c).alloc d).drew.heap[w1.heap.size]? = some a ∧ ((((w1.alloc a).alloc b).alloc c).alloc d).drew.heap[w1.heap.size + 1]? = some b ∧
    ((((w1.alloc a).alloc b).alloc c).alloc d).drew.heap[w1.heap.size + 1 + 1]? = some c ∧ ((((w1.alloc a).alloc b).alloc c).alloc d).drew.heap[w1.heap.size + 1 + 1 + 1]? = some d := by
  have s1 : (w1.alloc a).heap.size = w1.heap.size + 1 := by simp
  have s2 : ((w1.alloc a).alloc b).heap.size = w1.heap.size + 1 + 1 := by simp
  have s3 : (((w1.alloc a).alloc b).alloc c).heap.size = w1.heap.size + 1 + 1 + 1 := by simp
  refine ⟨?_, ?_, ?_, ?_⟩
  · exact (heap_old _ d _ (by omega)).trans ((heap_old _ c _ (by omega)).trans ((heap_old _ b _ (by omega)).trans (heap_alloc_new w1 a)))
  · exact (heap_old _ d _ (by omega)).trans ((heap_old _ c _ (by omega)).trans (by rw [← s1]; exact heap_alloc_new _ b))
  · exact (heap_old _ d _ (by omega)).trans (by rw [← s2]; exact heap_alloc_new _ c)
  · show ((((w1.alloc a).alloc b).alloc c).alloc d).heap[w1.heap.size + 1 + 1 + 1]? = some d
    rw [← s3]; exact heap_alloc_new _ d
set_option maxRecDepth 100000 in
set_option maxHeartbeats 6400000 in
theorem blend_yes (A0 A1 : Option Addr) (c0 c1 n : Nat) (p q : List Int) (part : Int) (w : World) (h0 : Kd.C (Kd.int .i64) w A0 n p) (hc0 : n ≤ c0) (h1 : Kd.C (Kd.int .i64) w A1 n q) (hc1 : n ≤ c1)
    (hpn : p.length = n) (hqn : q.length = n) (hn0 : 0 < n) (hn2 : n ≤ 512) (hP : Pair p q) (hp0 : 0 ≤ part) (hp1 : part ≤ 65536) : Calls Try.prog 35 #[.slice A0 n c0, .slice A1 n c1, .int .i64 part] w fun e w' => ∃ v0_ : Value, e = .returned (.tuple #[v0_, .int .i64 0]) ∧ Kd.R (Kd.int .i64) 2 w' w.heap.size (fun _ => True) v0_ (blendL p q part) ∧ Below w.heap.size w w' := by
  have HB := Aside0.mk (both_at A0 A1 c0 c1 n p q w h0 hc0 h1 hc1 hpn hqn hP)
  have HR0 := Aside0.mk h0
  have HR1 := Aside0.mk h1
  have HPP := Aside0.mk hP
  have HL := Aside0.mk (And.intro hpn hqn)
  clear h0 h1 hP hpn hqn
  have q0 : decide (part < 0) = false := decide_eq_false (by omega)
  have q1 : decide (part > 65536) = false := decide_eq_false (by omega)
  obtain ⟨sm, hsm⟩ : ∃ sm, sm = p.sum := ⟨_, rfl⟩
  rw [← hsm] at HB
  have HSM := Aside0.mk hsm
  clear hsm
  go_enter Try.func35, Try.ntmps35
  go_wp2_with (go_at_call 37; (with_reducible refine HB.out.mono ?_); rintro e w' ⟨rfl, ⟨nd, rfl⟩⟩)
  have mk2 := print_make (P := Try.prog) 22 2 .i64 8 Try.underlying22 info2 (by omega) n (by omega)
  have mk3 := print_make (P := Try.prog) 60 3 .i64 8 Try.underlying60 info3 (by omega) n (by omega)
  have hu22 := Try.underlying22
  have hu60 := Try.underlying60
  go_cut [10, 11, 12] (fun v10 v11 v12 wc => ∃ go gb gl gr : Nat, v10 = .slice (some ⟨go, 0, none⟩) n n ∧ v11 = .pointer (some ⟨gb, 0, none⟩) ∧ v12 = .slice (some ⟨gr, 0, none⟩) n n ∧ Aside0 (Four w wc n go gb gl gr (List.replicate n 0) (List.replicate n 0) (List.replicate n 0)))
  case first =>
    have HBw := Aside0.mk (pw_below_drewN (Below.refl w.heap.size w) nd)
    clear HB HR0 HR1
    generalize w.drewN nd = w1 at HBw ⊢
    go_region
    all_goals (go_wp2; go_meet)
    all_goals
      obtain ⟨h0, h1, h2, h3⟩ := four_heap w1 _ _ _ _
      have hsz := HBw.out.size
      refine ⟨_, _, _, _, rfl, rfl, rfl, ⟨Four.mk (below_drew (below_alloc (below_alloc (below_alloc (below_alloc HBw.out _) _) _) _)) (by first | exact h0 | exact h1 | exact h2 | exact h3) ?_ ?_ ?_ ?_ ?_ ?_ ?_ ?_ ?_ ?_ ?_ ?_ ?_⟩⟩
      all_goals first | (rw [← made_zero]; first | exact h0 | exact h1 | exact h2 | exact h3) | omega
  case rest =>
    clear mk2 mk3
    obtain ⟨go, gb, gl, gr, rfl, rfl, rfl, HF⟩ := hcut
    have HF0 : Aside0 (Four w wc n go gb gl gr (halfN (bo p q part) n 0) (halfN (br p q part) n 0) (halfN (fun t => (t : Int)) n 0)) := ⟨by rw [halfN_zero, halfN_zero, halfN_zero]; exact HF.out⟩
    have HNE := Aside0.mk (And.intro HF.out.ob (And.intro HF.out.ol (And.intro HF.out.or_ (And.intro HF.out.bl (And.intro HF.out.br HF.out.lr)))))
    clear HF HB
    go_wp2
    go_loopg [45, 8] n (fun kq v45 v8 wr => ∃ i : Nat, i + kq = n ∧ v45 = .int .i64 (i : Int) ∧ v8 = .int .i64 (sm - sumN (bo p q part) i) ∧ Aside0 (Four w wr n go gb gl gr (halfN (bo p q part) n i) (halfN (br p q part) n i) (halfN (fun t => (t : Int)) n i)))
    case atStart => exact ⟨0, by omega, rfl, by simp [sumN], HF0⟩
    case round =>
      clear HF0
      obtain ⟨i, hi, rfl, rfl, HF⟩ := hrel
      by_cases hlt : i < n
      · obtain ⟨k1, rfl⟩ : ∃ z, gk = z + 1 := ⟨gk - 1, by omega⟩
        have hip : i < p.length := by rw [HL.out.1]; exact hlt
        obtain ⟨x1, x2, x3, x4⟩ := bx_parts p q part HPP.out hp0 hp1 i hip
        have g1 := good_rd HPP.out.wp i hip
        have g2 := good_rd HPP.out.wq i (by rw [HL.out.2]; exact hlt)
        have p1 : (0 : Int) ≤ (i : Int) := by omega
        have p2 : (i : Int) < (n : Int) := by omega
        obtain ⟨ad0, e0, hx0⟩ := Kd.at_int (by have := HR0.out; rw [← HL.out.1] at this; exact this) (i : Int) p1 (by rw [HL.out.1]; exact p2)
        obtain ⟨ad1, e1, hy0⟩ := Kd.at_int (by have := HR1.out; rw [← HL.out.2] at this; exact this) (i : Int) p1 (by rw [HL.out.2]; exact p2)
        cases e0
        cases e1
        rw [Int.toNat_natCast] at hx0 hy0
        have hx := (HF.out.below.cell (World.block_lt_of_cell? w _ hx0)).trans hx0
        have hy := (HF.out.below.cell (World.block_lt_of_cell? w _ hy0)).trans hy0
        obtain ⟨av, hav⟩ : ∃ a, a = rd p (i : Int) := ⟨_, rfl⟩
        obtain ⟨bv, hbv⟩ : ∃ b, b = rd q (i : Int) := ⟨_, rfl⟩
        have hbx : bx p q part i = part * av + (65536 - part) * bv := by rw [hav, hbv]; rfl
        rw [← hav] at hx x1 x2 g1
        rw [← hbv] at hy x3 x4 g2
        obtain ⟨xv, hxv⟩ : ∃ x, x = part * av + (65536 - part) * bv := ⟨_, rfl⟩
        have hx5 : 0 ≤ xv ∧ xv ≤ 562949953421312 := by omega
        obtain ⟨x5, x6⟩ := hx5
        have r1 : IntKind.i64.wrap (part * av) = part * av := by rw [IntKind.wrap_i64]; omega
        have r2 : IntKind.i64.wrap (65536 - part) = 65536 - part := by rw [IntKind.wrap_i64]; omega
        have r3 : IntKind.i64.wrap ((65536 - part) * bv) = (65536 - part) * bv := by rw [IntKind.wrap_i64]; omega
        have r4 : IntKind.i64.wrap (part * av + (65536 - part) * bv) = xv := by rw [IntKind.wrap_i64, ← hxv]; omega
        have ho1 : bo p q part i = xv / 65536 := by unfold bo; rw [hbx, ← hxv]
        have hr1 : br p q part i = xv % 65536 := by unfold br; rw [hbx, ← hxv]
        have HO1 := Aside0.mk ho1
        have HR1 := Aside0.mk hr1
        clear hx0 hy0 hav hbv hbx hxv ho1 hr1 hip
        go_wp2
        go_quiet (fail)
        have HF2 := Aside0.mk (HF.out.drewN nq)
        clear hx hy HF
        generalize wr.drewN nq = w2 at HF2 ⊢
        clear r1 r2 r3 r4
        go_wp2
        have cb : w2.cell? ⟨gb, 0, none⟩ = some (.slice (some ⟨gl, 0, none⟩) n n) := (blk_cell HF2.out.b 0).trans rfl
        have co := row_cell HF2.out.o i (by rw [halfN_len]; exact hlt)
        have cl := row_cell HF2.out.l i (by rw [halfN_len]; exact hlt)
        have cr := row_cell HF2.out.r i (by rw [halfN_len]; exact hlt)
        have fo : w2.frozen? ⟨go, i, none⟩ = false := blk_frozen HF2.out.o i
        have fl : w2.frozen? ⟨gl, i, none⟩ = false := blk_frozen HF2.out.l i
        have fr : w2.frozen? ⟨gr, i, none⟩ = false := blk_frozen HF2.out.r i
        obtain ⟨ne1, ne2, ne3, ne4, ne5, ne6⟩ := HNE.out
        generalize rd (halfN (bo p q part) n i) (i : Int) = z1 at co
        generalize rd (halfN (br p q part) n i) (i : Int) = z2 at cl
        generalize rd (halfN (fun t => (t : Int)) n i) (i : Int) = z3 at cr
        go_big_region
        have hf3 := ((((HF2.out.setO i (xv / 65536)).setL i (xv % 65536)).setR i (i : Int))).drewN 1
        rw [← HO1.out, ← HR1.out, halfN_succ _ _ _ hlt, halfN_succ _ _ _ hlt] at hf3
        have hset := halfN_succ (fun t => (t : Int)) n i hlt
        rw [hset, HO1.out, HR1.out] at hf3
        have HF3 : Aside0 (Four w (((w2.setCell ⟨go, i, none⟩ (.int .i64 (xv / 65536))).setCell ⟨gl, i, none⟩ (.int .i64 (xv % 65536))).setCell ⟨gr, i, none⟩ (.int .i64 (i : Int))).drew n go gb gl gr (halfN (bo p q part) n (i + 1)) (halfN (br p q part) n (i + 1)) (halfN (fun t => (t : Int)) n (i + 1))) := ⟨hf3⟩
        clear hf3 hset HF2 cb co cl cr fo fl fr
        generalize (((w2.setCell ⟨go, i, none⟩ (.int .i64 (xv / 65536))).setCell ⟨gl, i, none⟩ (.int .i64 (xv % 65536))).setCell ⟨gr, i, none⟩ (.int .i64 (i : Int))).drew = w3 at HF3 ⊢
        have co := row_cell HF3.out.o i (by rw [halfN_len]; exact hlt)
        rw [halfN_rd _ _ _ _ hlt, if_pos (by omega), HO1.out] at co
        have hm1 := missing_at p q part HPP.out hp0 hp1 i (by rw [HL.out.1]; omega)
        have hm2 := missing_at p q part HPP.out hp0 hp1 (i + 1) (by rw [HL.out.1]; omega)
        rw [← HSM.out] at hm1 hm2
        have hstep : sumN (bo p q part) (i + 1) = sumN (bo p q part) i + xv / 65536 := by rw [← HO1.out]; rfl
        obtain ⟨ms, hms⟩ : ∃ ms, sm - sumN (bo p q part) i = ms := ⟨_, rfl⟩
        have hm3 : sm - sumN (bo p q part) (i + 1) = ms - xv / 65536 := by omega
        rw [hms] at hm1 ⊢
        rw [hm3] at hm2
        have HM3 := Aside0.mk hm3
        obtain ⟨m1, m2⟩ := hm1
        obtain ⟨m3, m4⟩ := hm2
        clear hstep hms hm3
        go_wp2
        go_roundg k1
        case measure => omega
        case rel => exact ⟨i + 1, by omega, by first | rfl | go_num, by rw [HM3.out], HF3⟩
      · obtain rfl : n = i := by omega
        have hlen : (listN (br p q part) n).length = n := listN_len _ _
        have hlv : ∀ x, 0 ≤ rd (listN (br p q part) n) x ∧ rd (listN (br p q part) n) x ≤ 65536 := by
          intro x
          by_cases hx : x.toNat < n
          · have e : rd (listN (br p q part) n) x = br p q part x.toNat := by
              have := listN_rd (br p q part) n x.toNat hx
              unfold rd at this ⊢
              rwa [Int.toNat_natCast] at this
            have := br_range p q part HPP.out hp0 hp1 x.toNat
            rw [e]; omega
          · have e : rd (listN (br p q part) n) x = 0 := by unfold rd; simp [List.getD_eq_getElem?_getD, listN, hx]
            rw [e]; omega
        have hf := HF.out
        rw [halfN_all, halfN_all, halfN_all, ← rng_listN] at hf
        have hso : ∀ W, Drawn0 wr W → Calls Try.prog 46 #[.slice (some ⟨gr, 0, none⟩) n n, .func (.func 47) #[] #[.pointer (some ⟨gb, 0, none⟩)]] W fun e w' => e = .returned (.tuple #[]) ∧ ∃ Z, Sorted (fun x => rd (listN (br p q part) n) x) (rng 0 n) Z ∧ Four w w' n go gb gl gr (listN (bo p q part) n) (listN (br p q part) n) Z := by
          rintro W ⟨⟨m, rfl⟩⟩
          exact (hf.drewN m).sort hlen hlv hn0 hn2
        have HSO := Aside0.mk hso
        have hmr := missing_range p q part HPP.out hp0 hp1
        rw [← HSM.out, HL.out.1] at hmr
        obtain ⟨ms, hms⟩ := Int.eq_ofNat_of_zero_le hmr.1
        have hmsn : ms < n := by omega
        have HMS := Aside0.mk hms
        rw [hms]
        clear hlen hlv hf hso hmr hms HF hlt hi
        go_wp2_with (go_at_call 46; refine (HSO.out _ (by first | exact Drawn0.refl _ | exact ⟨⟨_, rfl⟩⟩)).mono ?_; rintro e w2 ⟨rfl, Z, hz, hf2⟩; have HZ := Aside0.mk hz; have HF2 := Aside0.mk hf2; clear hz hf2)
        have HF3 : Aside0 (Four w w2 n go gb gl gr (outZ (bo p q part) n Z 0) (listN (br p q part) n) Z) := ⟨by rw [outZ_zero]; exact HF2.out⟩
        clear HF2 HSO
        go_loopg [90] ms (fun kq v90 wr => ∃ j : Nat, j + kq = ms ∧ v90 = .int .i64 (j : Int) ∧ Aside0 (Four w wr n go gb gl gr (outZ (bo p q part) n Z j) (listN (br p q part) n) Z))
        case atStart => exact ⟨0, by omega, rfl, HF3⟩
        case round =>
          clear HF3
          obtain ⟨j, hj, rfl, HF⟩ := hrel
          by_cases hlt : j < ms
          · obtain ⟨k1, rfl⟩ : ∃ z, gk = z + 1 := ⟨gk - 1, by omega⟩
            obtain ⟨hZl, z, hzn, hzr, hznot, hztake⟩ := order_at HZ.out j (by omega)
            have c1 := row_cell HF.out.r j (by omega)
            rw [hzr] at c1
            have c2 := row_cell HF.out.o z (by unfold outZ; rw [listN_len]; exact hzn)
            rw [outZ_rd _ _ _ _ _ hzn hznot] at c2
            have fo : wr.frozen? ⟨go, z, none⟩ = false := blk_frozen HF.out.o z
            have hb := bo_range p q part HPP.out hp0 hp1 z (by rw [HL.out.1]; exact hzn)
            obtain ⟨y, hy⟩ : ∃ y, bo p q part z = y := ⟨_, rfl⟩
            rw [hy] at hb c2
            obtain ⟨y0, y1⟩ := hb
            have hset := HF.out.setO z (y + 1)
            rw [← hy, outZ_succ _ _ _ _ _ hzn hztake, hy] at hset
            have HS := Aside0.mk hset
            have hzi : (z : Int) < (n : Int) := by omega
            have hji : (j : Int) < (ms : Int) := by omega
            clear hset HF hy hzr hznot hztake hZl
            go_wp2
            go_roundg k1
            case measure => omega
            case rel => exact ⟨j + 1, by omega, by first | rfl | go_num, HS⟩
          · obtain rfl : ms = j := by omega
            go_wp2
            go_ret2
            have hms := HMS.out
            rw [HSM.out] at hms
            have hf := HF.out
            rw [outZ_blend p q part n ms HL.out.1 Z HZ.out hms] at hf
            exact ⟨_, by first | rfl | simp, Four.own hf (by unfold blendL; rw [listN_len]; exact HL.out.1) hn2, hf.below⟩
set_option maxHeartbeats 1600000 in
theorem blend_bad (A0 A1 : Option Addr) (c0 c1 n : Nat) (p q : List Int) (part : Int) (w : World) (h0 : Kd.C (Kd.int .i64) w A0 n p) (hc0 : n ≤ c0) (h1 : Kd.C (Kd.int .i64) w A1 n q) (hc1 : n ≤ c1)
    (hpn : p.length = n) (hqn : q.length = n) (hP : Pair p q) (hp : part < 0 ∨ part > 65536) : Calls Try.prog 35 #[.slice A0 n c0, .slice A1 n c1, .int .i64 part] w fun e w' => ∃ v0_ : Value, e = .returned (.tuple #[v0_, .int .i64 1]) ∧ Kd.R (Kd.int .i64) 2 w' w.heap.size (fun _ => True) v0_ ([] : List Int) ∧ Below w.heap.size w w' := by
  have HB := Aside0.mk (both_at A0 A1 c0 c1 n p q w h0 hc0 h1 hc1 hpn hqn hP)
  obtain ⟨sm, hsm⟩ : ∃ sm, sm = p.sum := ⟨_, rfl⟩
  rw [← hsm] at HB
  clear h0 h1 hP hpn hqn hsm
  by_cases h2 : part < 0
  · clear hp
    go_enter Try.func35, Try.ntmps35
    go_wp2_with (go_at_call 37; (with_reducible refine HB.out.mono ?_); rintro e w' ⟨rfl, ⟨nd, rfl⟩⟩)
    go_ret2
    exact ⟨_, by first | rfl | simp, Kd.R_nil _ _ _ _ _, by repeat (first | exact Below.refl _ _ | refine pw_below_drewN ?_ _)⟩
  · have h3 : 65536 < part := by omega
    clear hp
    go_enter Try.func35, Try.ntmps35
    go_wp2_with (go_at_call 37; (with_reducible refine HB.out.mono ?_); rintro e w' ⟨rfl, ⟨nd, rfl⟩⟩)
    go_ret2
    exact ⟨_, by first | rfl | simp, Kd.R_nil _ _ _ _ _, by repeat (first | exact Below.refl _ _ | refine pw_below_drewN ?_ _)⟩
set_option maxHeartbeats 1600000 in
theorem blend_err (A0 A1 : Option Addr) (c0 c1 : Nat) (p q : List Int) (part : Int) (w : World) (h0 : Kd.C (Kd.int .i64) w A0 p.length p) (hc0 : p.length ≤ c0) (h1 : Kd.C (Kd.int .i64) w A1 q.length q) (hc1 : q.length ≤ c1)
    (hP : errV p q ≠ 0) : Calls Try.prog 35 #[.slice A0 p.length c0, .slice A1 q.length c1, .int .i64 part] w fun e w' => ∃ v0_ : Value, e = .returned (.tuple #[v0_, .int .i64 (errV p q)]) ∧ Kd.R (Kd.int .i64) 2 w' w.heap.size (fun _ => True) v0_ ([] : List Int) ∧ Below w.heap.size w w' := by
  have hb := both_err p q 601 (by omega)
  rw [if_neg hP] at hb
  have HB := Aside0.mk (couple_both.calls 601 A0 c0 p A1 c1 q 0 (errV p q) w h0 hc0 h1 hc1 hb)
  obtain ⟨ev, hev⟩ : ∃ ev, errV p q = ev := ⟨_, rfl⟩
  rw [hev] at HB hP ⊢
  have hne : (ev != 0) = true := bne_iff_ne.mpr hP
  clear h0 h1 hev hb
  go_enter Try.func35, Try.ntmps35
  go_wp2_with (go_at_call 37; (with_reducible refine HB.out.mono ?_); rintro e w' ⟨rfl, ⟨nd, rfl⟩⟩)
  go_ret2
  exact ⟨_, by first | rfl | simp, Kd.R_nil _ _ _ _ _, by repeat (first | exact Below.refl _ _ | refine pw_below_drewN ?_ _)⟩
def couple_Blend.f (_k : Nat) (p q : List Int) (part : Int) : Option (List Int × Int) :=
  if errV p q = 0 then (if part < 0 ∨ part > 65536 then some ([], 1) else some (blendL p q part, 0)) else some ([], errV p q)
theorem couple_Blend.mono : ∀ a0 a1 a2 k, LeO (couple_Blend.f k a0 a1 a2) (couple_Blend.f (k + 1) a0 a1 a2) := fun _ _ _ _ => LeO.refl _
theorem couple_Blend.calls (k : Nat) (A0 : Option Addr) (c0 : Nat) (l0 : List Int) (A1 : Option Addr) (c1 : Nat) (l1 : List Int) (a2 : Int) (r1 : List Int) (r2 : Int) (w : World) (hr0 : Kd.C (Kd.int .i64) w A0 l0.length l0) (hc0 : l0.length ≤ c0) (hr1 : Kd.C (Kd.int .i64) w A1 l1.length l1) (hc1 : l1.length ≤ c1) (h : couple_Blend.f k l0 l1 a2 = some (r1, r2)) :
    Calls Try.prog 35 #[.slice A0 l0.length c0, .slice A1 l1.length c1, .int .i64 a2] w fun e w' => ∃ v0_ : Value, e = .returned (.tuple #[v0_, .int .i64 r2]) ∧ Kd.R (Kd.int .i64) 2 w' w.heap.size (fun _ => True) v0_ r1 ∧ Below w.heap.size w w' := by
  unfold couple_Blend.f at h
  by_cases hP : Pair l0 l1
  · rw [if_pos (errV_pair hP)] at h
    have hl : l1.length = l0.length := hP.len.symm
    rw [hl] at hr1 hc1 ⊢
    by_cases hp : a2 < 0 ∨ a2 > 65536
    · rw [if_pos hp] at h
      simp only [Option.some.injEq, Prod.mk.injEq] at h
      obtain ⟨rfl, rfl⟩ := h
      exact blend_bad A0 A1 c0 c1 _ l0 l1 a2 w hr0 hc0 hr1 hc1 rfl hl hP hp
    · rw [if_neg hp] at h
      simp only [Option.some.injEq, Prod.mk.injEq] at h
      obtain ⟨rfl, rfl⟩ := h
      exact blend_yes A0 A1 c0 c1 _ l0 l1 a2 w hr0 hc0 hr1 hc1 rfl hl hP.wp.len1 hP.wp.len2 hP (by omega) (by omega)
  · have he := errV_no hP
    rw [if_neg he] at h
    simp only [Option.some.injEq, Prod.mk.injEq] at h
    obtain ⟨rfl, rfl⟩ := h
    exact blend_err A0 A1 c0 c1 l0 l1 a2 w hr0 hc0 hr1 hc1 he
end Go.Proofs.Ytldbdifdldmgfaa.PAll
