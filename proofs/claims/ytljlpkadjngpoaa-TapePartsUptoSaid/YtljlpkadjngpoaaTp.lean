/- By hand: the methods of a tape: its four cells, and what each call does to them. -/
import Derived.Test.YtljlpkadjngpoaaPAllx1
namespace Go.Proofs.Ytljlpkadjngpoaa.PAll
open Go.RowKit Go.Proofs.YtljlpkadjngpoaaW.PrintWords Go.Proofs.YtljlpkadjngpoaaW.PrintLast Go.Proofs.YtljlpkadjngpoaaW.PrintMore
set_option linter.unusedVariables false
set_option linter.unusedSimpArgs false

/-- A tape's four cells. -/
def IsTape (w : World) (g : Nat) (bits used all : Int) (s : ByteArray) : Prop := w.heap[g]? = some (.cells #[.int .i64 bits, .int .i64 used, .int .i64 all, .string s] 66 (0, 0))
theorem IsTape.drewN {w : World} {g : Nat} {bits used all : Int} {s : ByteArray} (h : IsTape w g bits used all s) (n : Nat) : IsTape (w.drewN n) g bits used all s := h
theorem IsTape.c0 {w : World} {g : Nat} {bits used all : Int} {s : ByteArray} (h : IsTape w g bits used all s) : w.cell? ⟨g, 0, none⟩ = some (.int .i64 bits) := (blk_cell h 0).trans rfl
theorem IsTape.c1 {w : World} {g : Nat} {bits used all : Int} {s : ByteArray} (h : IsTape w g bits used all s) : w.cell? ⟨g, 1, none⟩ = some (.int .i64 used) := (blk_cell h 1).trans rfl
theorem IsTape.c2 {w : World} {g : Nat} {bits used all : Int} {s : ByteArray} (h : IsTape w g bits used all s) : w.cell? ⟨g, 2, none⟩ = some (.int .i64 all) := (blk_cell h 2).trans rfl
theorem IsTape.c3 {w : World} {g : Nat} {bits used all : Int} {s : ByteArray} (h : IsTape w g bits used all s) : w.cell? ⟨g, 3, none⟩ = some (.string s) := (blk_cell h 3).trans rfl
theorem IsTape.fz {w : World} {g : Nat} {bits used all : Int} {s : ByteArray} (h : IsTape w g bits used all s) (i : Nat) : w.frozen? ⟨g, i, none⟩ = false := blk_frozen h i
theorem IsTape.set {w : World} {g : Nat} {bits used all : Int} {s : ByteArray} (h : IsTape w g bits used all s) (u : Int) : IsTape (w.setCell ⟨g, 1, none⟩ (.int .i64 u)) g bits u all s := (blk_set h 1 _).trans rfl
theorem IsTape.far {w : World} {g : Nat} {bits used all : Int} {s : ByteArray} (h : IsTape w g bits used all s) {p : Addr} (hp : g ≠ p.block) (u : Value) : IsTape (w.setCell p u) g bits used all s := blk_far h hp u

set_option maxHeartbeats 400000 in
theorem used_calls (g : Nat) (bits used all : Int) (s : ByteArray) (w : World) (h : IsTape w g bits used all s) :
    Calls Try.prog 14 #[.pointer (some ⟨g, 0, none⟩)] w fun e w' => e = .returned (.int .i64 used) ∧ Drawn0 w w' := by
  have c1 := h.c1
  go_enter Try.func14, Try.ntmps14
  go_wp2
  go_ret
  exact ⟨by first | rfl | (simp; done), by repeat (first | exact Drawn0.refl _ | apply Drawn0.step)⟩
set_option maxHeartbeats 400000 in
theorem used_nil (w : World) : Calls Try.prog 14 #[.pointer none] w fun e w' => e = .returned (.int .i64 0) ∧ Drawn0 w w' := by
  go_enter Try.func14, Try.ntmps14
  go_wp2
  go_ret
  exact ⟨by first | rfl | (simp; done), by repeat (first | exact Drawn0.refl _ | apply Drawn0.step)⟩
set_option maxHeartbeats 400000 in
theorem left_calls (g : Nat) (bits used all : Int) (s : ByteArray) (w : World) (h : IsTape w g bits used all s) :
    Calls Try.prog 15 #[.pointer (some ⟨g, 0, none⟩)] w fun e w' => e = .returned (.int .i64 (wrap64 (all - used))) ∧ Drawn0 w w' := by
  have c1 := h.c1
  have c2 := h.c2
  go_enter Try.func15, Try.ntmps15
  go_wp2
  go_quiet (fail)
  go_wp2
  go_ret
  exact ⟨by first | rfl | (simp; done), by repeat (first | exact Drawn0.refl _ | apply Drawn0.step)⟩
set_option maxHeartbeats 400000 in
theorem left_nil (w : World) : Calls Try.prog 15 #[.pointer none] w fun e w' => e = .returned (.int .i64 0) ∧ Drawn0 w w' := by
  go_enter Try.func15, Try.ntmps15
  go_wp2
  go_ret
  exact ⟨by first | rfl | (simp; done), by repeat (first | exact Drawn0.refl _ | apply Drawn0.step)⟩
set_option maxHeartbeats 400000 in
theorem draw_nil (w : World) : Calls Try.prog 16 #[.pointer none] w fun e w' => e = .returned (.tuple #[.int .i64 (-1), .int .i64 231]) ∧ Drawn0 w w' := by
  go_enter Try.func16, Try.ntmps16
  go_wp2_with (go_at_call 15; refine (left_nil _).mono ?_; rintro e w' ⟨rfl, ⟨nd, rfl⟩⟩)
  go_ret2
  exact ⟨by first | rfl | (simp; done), by repeat (first | exact Drawn0.refl _ | apply Drawn0.step)⟩
set_option maxHeartbeats 400000 in
theorem draw_none (g : Nat) (bits used : Int) (s : ByteArray) (w : World) (h : IsTape w g bits used used s) : Calls Try.prog 16 #[.pointer (some ⟨g, 0, none⟩)] w fun e w' => e = .returned (.tuple #[.int .i64 (-1), .int .i64 231]) ∧ Drawn0 w w' := by
  have hl : ∀ W, Drawn0 w W → Calls Try.prog 15 #[.pointer (some ⟨g, 0, none⟩)] W fun e w' => e = .returned (.int .i64 0) ∧ Drawn0 W w' := by
    rintro W ⟨⟨n, rfl⟩⟩
    have := left_calls g bits used used s _ (h.drewN n)
    rwa [show wrap64 (used - used) = 0 from by unfold wrap64; omega] at this
  have HL := Aside0.mk hl
  clear hl
  go_enter Try.func16, Try.ntmps16
  go_wp2_with (go_at_call 15; refine (HL.out _ ⟨0, rfl⟩).mono ?_; rintro e w' ⟨rfl, ⟨nd, rfl⟩⟩)
  go_ret2
  exact ⟨by first | rfl | (simp; done), by repeat (first | exact Drawn0.refl _ | apply Drawn0.step)⟩

set_option maxHeartbeats 400000 in
theorem new_no (bits : Int) (s : ByteArray) (w : World) (h : tape_isBits.f bits = some false) : Calls Try.prog 11 #[.int .i64 bits, .string s] w fun e w' => e = .returned (.tuple #[.pointer none, .int .i64 230]) ∧ Drawn0 w w' := by
  have H := Aside0.mk h
  clear h
  go_enter Try.func11, Try.ntmps11
  go_wp2_with (go_at_call 31; refine (tape_isBits.calls _ _ _ H.out).mono ?_; rintro e w' ⟨rfl, ⟨nd, rfl⟩⟩)
  go_ret2
  exact ⟨by first | rfl | (simp; done), by repeat (first | exact Drawn0.refl _ | apply Drawn0.step)⟩
def NewPost (bits : Int) (s : ByteArray) (w : World) (e : Ending) (w' : World) : Prop :=
  ∃ n, e = .returned (.tuple #[.pointer (some ⟨w.heap.size, 0, none⟩), .int .i64 0]) ∧ w' = (w.alloc (.cells #[.int .i64 bits, .int .i64 0, .int .i64 (wrap64 (Int.tdiv (wrap64 (8 * (s.size : Int))) bits)), .string s] 66)).drewN n
set_option maxHeartbeats 400000 in
theorem new_yes (bits : Int) (s : ByteArray) (w : World) (h : tape_isBits.f bits = some true) (hb : bits ≠ 0) : Calls Try.prog 11 #[.int .i64 bits, .string s] w (NewPost bits s w) := by
  have H := Aside0.mk h
  have hu66 := Try.underlying66
  have hb0 : (bits == 0) = false := beq_eq_false_iff_ne.mpr hb
  clear h
  go_enter Try.func11, Try.ntmps11
  go_wp2_with (go_at_call 31; refine (tape_isBits.calls _ _ _ H.out).mono ?_; rintro e w' ⟨rfl, ⟨nd, rfl⟩⟩)
  go_ret2
  exact ⟨_, by first | rfl | (simp; done), by first | rfl | (simp; done)⟩
end Go.Proofs.Ytljlpkadjngpoaa.PAll
