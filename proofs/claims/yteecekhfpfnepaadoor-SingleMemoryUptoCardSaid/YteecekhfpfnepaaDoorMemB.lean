/- A row that is grown beside the slice that it was taken from: what is kept in the rows stays. -/
import Derived.Test.YteecekhfpfnepaaDoorMgQ2
import Derived.Test.YteecekhfpfnepaaDoorMemA
namespace Go.Proofs.YteecekhfpfnepaaDoor.Mem
open Go Go.RowKit Go.Proofs.YteecekhfpfnepaaDoor.PAll Go.Proofs.YteecekhfpfnepaaDoorW.PrintWords Go.Proofs.YteecekhfpfnepaaDoorW.PrintLast Go.Proofs.YteecekhfpfnepaaDoorW.PrintMore
set_option linter.unusedVariables false
set_option linter.unusedSimpArgs false
abbrev KI : Kd Int := Kd.int .i8
abbrev KR : Kd (List Int) := Kd.slice 47 (Kd.int .i8)
/-- What is known while a slice taken out of the rows grows: it lies in its element's block yet, or in one of its own. -/
structure Gr (w : World) (base : Nat) (vr : Value) (xr : List Int) (ad : Addr) (n c : Nat) (rows : List (List Int)) (i : Int) (vi v : Value) (x : List Int) : Prop where
  ref : KI.R 47 w base (fun _ => True) vr xr
  own : KI.R 47 w base (fun k => some k ≠ vr.ownBlock) v x
  cell : w.cell? (ad.add i.toNat) = some vi
  i0 : 0 ≤ i
  i1 : i < n
  led : (v.ownBlock = vi.ownBlock ∧ (rows.getD i.toNat []).length ≤ x.length ∧ Kd.S KR 32 w base (fun k => some k ≠ vr.ownBlock) (.slice (some ad) n c) rows) ∨ Kd.S KR 32 w base (fun k => some k ≠ vr.ownBlock ∧ some k ≠ v.ownBlock) (.slice (some ad) n c) rows
section
variable {w : World} {base : Nat} {vr : Value} {xr : List Int} {ad : Addr} {n c : Nat} {rows : List (List Int)} {i : Int} {vi v : Value} {x : List Int}
theorem Gr.kept (h : Gr w base vr xr ad n c rows i vi v x) : Kd.S KR 32 w base (fun k => some k ≠ vr.ownBlock) (.slice (some ad) n c) rows := by
  rcases h.led with ⟨_, _, h⟩ | h
  · exact h
  · exact Kd.S_mono h (fun _ hk => hk.1)
theorem Gr.begin (hr : KI.R 47 w base (fun _ => True) vr xr) (hS : Kd.S KR 32 w base (fun k => some k ≠ vr.ownBlock) (.slice (some ad) n c) rows) (i0 : 0 ≤ i) (i1 : i < n) (hc : w.cell? (ad.add i.toNat) = some vi)
    (ho : KI.R 47 w base (fun k => some k ≠ vr.ownBlock) vi (rows.getD i.toNat [])) : Gr w base vr xr ad n c rows i vi vi (rows.getD i.toNat []) :=
  ⟨hr, ho, hc, i0, i1, .inl ⟨rfl, Nat.le_refl _, hS⟩⟩
theorem S_now {d : Kd (List Int)} {e : Nat} {ok : Nat → Prop} {u : Value} {ys : List (List Int)} (h : Kd.S d e w base ok u ys) : Kd.S d e w base (fun k => ok k ∧ k < w.heap.size) u ys := by
  obtain ⟨f, hR⟩ := h
  exact ⟨f, Kd.R_mono (Kd.R_bound hR) (fun k hk => ⟨hk.1, hk.2.2.1⟩)⟩
theorem set_self (l : List (List Int)) (i : Nat) (h : i < l.length) : l.set i (l.getD i []) = l := by
  rw [List.getD_eq_getElem?_getD, List.getElem?_eq_getElem h, Option.getD_some]
  exact List.set_getElem_self h
theorem Gr.event {w1 : World} {v1 : Value} {x1 : List Int} (h : Gr w base vr xr ad n c rows i vi v x) (hg : w.grownBy w1 v.ownBlock) (hat : v1.ownBlock = v.ownBlock ∨ ∃ b, v1.ownBlock = some b ∧ w.heap.size ≤ b)
    (hk : Keeps w w1 47 1 x.length) (hx : x.length ≤ x1.length) (ho : ∃ inner, w1.ownsRow base 47 1 v1 x1.length inner ∧ Reps (fun (p : Int) (cs : List Value) => cs = [Value.int .i8 p]) 1 x1 inner) : Gr w1 base vr xr ad n c rows i vi v1 x1 := by
  have hbr : ∀ k, v.ownBlock = some k → some k ≠ vr.ownBlock := h.own.1
  have hrl := Kd.R_lt h.ref
  have hS := h.kept
  have hKl := Kd.S_lt hS ad.block (by simp [Value.ownBlock])
  have hn : n = rows.length := (Kd.S_reads' hS).1
  have hi0 := h.i0
  have hi1 := h.i1
  -- the rows over the event
  have key : Kd.S KR 32 w1 base (fun k => (some k ≠ vr.ownBlock ∧ k < w.heap.size) ∧ (v.ownBlock = vi.ownBlock ∨ some k ≠ v.ownBlock)) (.slice (some ad) n c) rows ∧ some ad.block ≠ v.ownBlock ∧ (v.ownBlock = vi.ownBlock → (rows.getD i.toNat []).length ≤ x.length ∨ Kd.S KR 32 w1 base (fun k => (some k ≠ vr.ownBlock ∧ k < w.heap.size) ∧ some k ≠ v.ownBlock) (.slice (some ad) n c) rows) := by
    rcases h.led with ⟨e1, e2, e3⟩ | e3
    · obtain ⟨oki, cc, hcl, hM, hcc, hoki, hback⟩ := Kd.S_borrow (S_now e3) [] i h.i0 h.i1
      obtain ⟨ve, rfl, hve⟩ := hM
      have hc0 := hcc 0 ve rfl
      rw [show i.toNat * KR.sz + 0 = i.toNat from by show i.toNat * 1 + 0 = _; omega, h.cell] at hc0
      injection hc0 with hc0
      subst hc0
      have hrow : ∀ k, v.ownBlock = some k → oki k := fun k hk => hve.1 k (e1 ▸ hk)
      have hM1 : KR.M w1 base oki (rows.getD i.toNat []) [vi] := by
        obtain ⟨g1, inner, g2, g3⟩ := hve
        exact ⟨vi, rfl, g1, inner, hk _ _ _ _ e2 g2, g3⟩
      have hS1 := hback hg hrow hM1
      rw [set_self _ _ (by omega)] at hS1
      refine ⟨Kd.S_mono hS1 (fun k hk => ⟨hk, .inl e1⟩), ?_, fun _ => .inl e2⟩
      intro he
      exact (hoki _ (hrow _ he.symm)).2 (by simp [Value.ownBlock])
    · have hS1 := Kd.S_grown (S_now e3) hg (fun k hk => hk.1.2)
      have hne : some ad.block ≠ v.ownBlock := ((Kd.S_R e3).1 ad.block (by simp [Value.ownBlock])).2
      exact ⟨Kd.S_mono hS1 (fun k hk => ⟨⟨hk.1.1, hk.2⟩, .inr hk.1.2⟩), hne, fun _ => .inr (Kd.S_mono hS1 (fun k hk => ⟨⟨hk.1.1, hk.2⟩, hk.1.2⟩))⟩
  obtain ⟨k1, k2, k3⟩ := key
  obtain ⟨inner, ho, hrep⟩ := ho
  refine ⟨?_, ⟨fun k hk => ?_, inner, ho, hrep⟩, ?_, h.i0, h.i1, ?_⟩
  · have : KI.R 47 w base (fun k => some k ≠ v.ownBlock) vr xr := by
      obtain ⟨_, q1, q2, q3⟩ := h.ref
      exact ⟨fun k hk he => hbr k he.symm hk.symm, q1, q2, q3⟩
    exact Kd.R_mono (Kd.R_grown this hg (fun k hk => hk)) (fun _ _ => trivial)
  · rcases hat with e | ⟨b, e, hb⟩
    · exact hbr k (e ▸ hk)
    · rw [e] at hk
      injection hk with hk
      subst hk
      intro e2
      have := hrl b e2.symm
      omega
  · have hb : w1.heap[ad.block]? = w.heap[ad.block]? := hg.block _ hKl k2
    have := h.cell
    unfold World.cell? at this ⊢
    have hadd : (ad.add i.toNat).block = ad.block := by first | rfl | (unfold Addr.add; split <;> rfl) | simp [Addr.add]
    rw [hadd] at this
    rw [hadd, hb]
    exact this
  · rcases hat with e | ⟨b, e, hb⟩
    · by_cases c1 : v.ownBlock = vi.ownBlock
      · rcases k3 c1 with k3 | k3
        · exact .inl ⟨e.trans c1, Nat.le_trans k3 hx, Kd.S_mono k1 (fun k hk => hk.1.1)⟩
        · exact .inr (Kd.S_mono k3 (fun k hk => ⟨hk.1.1, by rw [e]; exact hk.2⟩))
      · exact .inr (Kd.S_mono k1 (fun k hk => ⟨hk.1.1, by rw [e]; exact hk.2.resolve_left c1⟩))
    · refine .inr (Kd.S_mono k1 (fun k hk => ⟨hk.1.1, ?_⟩))
      rw [e]
      intro h2
      injection h2 with h2
      have := hk.1.2
      omega
end
/-- append(g, x) of one such number, behind 'at_builtin'. -/
theorem Gr.append {P : Program} {ops : Array Oper} {rest : List Oper} {o : Oper} {a : Act} {Q : Exit → Act → World → Prop} {w0 W : World} {vr : Value} {xr : List Int} {ad : Addr} {n c : Nat} {rows : List (List Int)} {i : Int} {vi v : Value} {x : List Int} {y : Int} {s z : Operand}
    (hgd : o.guard = none) (ho : o.op = .call { callee := .builtin .append, args := #[s, z], argTypes := #[32, 32] })
    (ht : P.underlying 32 = some (.slice 47)) (hinfo : (P.info? 47).map (fun i => (i.zero, i.size, i.bytes)) = some (some (.int .i8 0), 1, 1)) (hs : a.eval s = v) (hz : a.eval z = .slice (some ⟨W.heap.size, 0, none⟩) 1 1)
    (HG : Gr W w0.heap.size vr xr ad n c rows i vi v x) (HB : Below w0.heap.size w0 W) (hbase : w0.heap.size ≤ W.heap.size) (hl : x.length + 1 ≤ 140737488355328)
    (h : ∀ v1 w1, Gr w1 w0.heap.size vr xr ad n c rows i vi v1 (x ++ [y]) → Below w0.heap.size w0 w1 → wpList P ops Q rest (a.put o.dst v1) w1) :
    wpList P ops Q (o :: rest) a (W.alloc (.cells #[.int .i8 y] 47)) := by
  obtain ⟨i0, hi, hzz⟩ := Option.map_eq_some_iff.1 hinfo
  simp only [Prod.mk.injEq] at hzz
  obtain ⟨hz0, hz1, hz2⟩ := hzz
  obtain ⟨hok, inner, hown, hrep⟩ := HG.own
  refine wpList_append_keeps (W.alloc (.cells #[.int .i8 y] 47)) hgd s z 32 ho w0.heap.size 47 i0 (.int .i8 0) 1 1 ht hi hz0 hz1 hz2 rfl (by omega) v x.length inner hs (hown.alloc _) ⟨W.heap.size, 0, none⟩ 1 1 [.int .i8 y] hz rfl
    (cell_one_new W (.int .i8 y) 47) (fun u hu => by rw [List.mem_singleton.1 hu]; rfl) (by simp only [maxLen]; omega) (by omega) (by simp; omega) ?_
  intro v1 w1 hown1 hg hat hk
  have hgr : W.grownBy w1 v.ownBlock := World.grownBy.trans (World.grownBy_alloc W _ _) hg
  refine h v1 w1 ?_ ((HB.alloc hbase _).grown hg (by simp; omega) (own_base hown))
  refine HG.event hgr ?_ (fun b u m ys hm ho => hk b u m ys hm (ho.alloc _)) (by simp) ⟨inner ++ [.int .i8 y], by rw [List.length_append, List.length_singleton]; exact hown1, ?_⟩
  · rcases hat with hat | hat
    · exact .inl hat
    · exact .inr ⟨_, hat, by simp⟩
  · exact Reps.snoc hrep rfl rfl
end Go.Proofs.YteecekhfpfnepaaDoor.Mem
