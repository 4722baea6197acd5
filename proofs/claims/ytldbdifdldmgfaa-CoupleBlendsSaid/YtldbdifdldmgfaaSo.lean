/- By hand: the world while a row is being sorted. -/
import Derived.Test.YtldbdifdldmgfaaPAllx1
import Derived.BigRegion
import Derived.BigQuiet
import Derived.Deep.QuietTactic
import Derived.Deep.LoopGhost
namespace Go.Proofs.Ytldbdifdldmgfaa.PAll
open Go.RowKit Go.Proofs.YtldbdifdldmgfaaW.PrintWords Go.Proofs.YtldbdifdldmgfaaW.PrintLast Go.Proofs.YtldbdifdldmgfaaW.PrintMore
set_option linter.unusedVariables false
set_option linter.unusedSimpArgs false

/-- The world W is w0 but for the row in block g, which holds l. -/
structure SO (w0 W : World) (g : Nat) (l : List Int) : Prop where
  os : W.os = w0.os
  tape : W.tape = w0.tape
  output : W.output = w0.output
  size : W.heap.size = w0.heap.size
  row : W.heap[g]? = some (.cells (l.map (Value.int .i64)).toArray 3 (0, 0))
  keep : ∀ k, k ≠ g → W.heap[k]? = w0.heap[k]?
section
variable {w0 W : World} {g : Nat} {l : List Int}
theorem SO.drewN (h : SO w0 W g l) (m : Nat) : SO w0 (W.drewN m) g l := ⟨h.os, h.tape, h.output, h.size, h.row, h.keep⟩
theorem SO.drew (h : SO w0 W g l) : SO w0 W.drew g l := h.drewN 1
theorem SO.lt (h : SO w0 W g l) : g < w0.heap.size := by rw [← h.size]; exact blk_lt h.row
theorem SO.cell (h : SO w0 W g l) (i : Nat) (hi : i < l.length) : W.cell? ⟨g, i, none⟩ = some (.int .i64 (rd l (i : Int))) :=
  (blk_cell h.row i).trans (by simp [rd, List.getD_eq_getElem?_getD, hi])
theorem SO.fz (h : SO w0 W g l) (i : Nat) : W.frozen? ⟨g, i, none⟩ = false := blk_frozen h.row i
theorem SO.set (h : SO w0 W g l) (i : Nat) (x : Int) : SO w0 (W.setCell ⟨g, i, none⟩ (.int .i64 x)) g (l.set i x) := by
  refine ⟨h.os, h.tape, h.output, by simpa [World.setCell] using h.size, ?_, fun k hk => (Below.heap_setCell W ⟨g, i, none⟩ _ k hk).trans (h.keep k hk)⟩
  refine (blk_set h.row i _).trans ?_
  congr 1
  simp [List.map_set]
theorem SO.old (h : SO w0 W g l) {p : Addr} (hp : p.block ≠ g) (v : Value) (hc : w0.cell? p = some v) : W.cell? p = some v := by
  rw [← hc]
  simp only [World.cell?, h.keep _ hp]
end
def swp (l : List Int) (i j : Nat) : List Int := (l.set i (rd l (j : Int))).set j (rd l (i : Int))
theorem swp_len (l : List Int) (i j : Nat) : (swp l i j).length = l.length := by simp [swp]
theorem SO.swap {w0 W : World} {g : Nat} {l : List Int} (h : SO w0 W g l) (i j : Nat) : SO w0 ((W.setCell ⟨g, i, none⟩ (.int .i64 (rd l (j : Int)))).setCell ⟨g, j, none⟩ (.int .i64 (rd l (i : Int)))).drew g (swp l i j) := ((h.set i _).set j _).drew
theorem SO.c2 {w0 W : World} {g : Nat} {l : List Int} (h : SO w0 W g l) (i j : Nat) (hj : j < l.length) (x : Int) : ∃ u, (W.setCell ⟨g, i, none⟩ (.int .i64 x)).cell? ⟨g, j, none⟩ = some u :=
  ⟨_, (h.set i x).cell j (by simpa using hj)⟩

/-- The first m of two stretches exchanged. -/
def swapR (a b : Nat) (l : List Int) : Nat → List Int
  | 0 => l
  | m + 1 => swp (swapR a b l m) (a + m) (b + m)
theorem swapR_len (a b : Nat) (l : List Int) : ∀ m, (swapR a b l m).length = l.length
  | 0 => rfl
  | m + 1 => by rw [swapR, swp_len, swapR_len a b l m]
set_option maxRecDepth 100000 in
set_option maxHeartbeats 1600000 in
theorem swapRange_calls (w0 W : World) (g n cap a b m : Nat) (f : Value) (d : List Int) (S : SO w0 W g d) (hn : d.length = n) (ha : a + m ≤ n) (hb : b + m ≤ n) (hn2 : n ≤ 512) :
    Calls Try.prog 52 #[.slice (some ⟨g, 0, none⟩) n cap, .int .i64 (a : Int), .int .i64 (b : Int), .int .i64 (m : Int), f] W fun e w' => e = .returned (.tuple #[]) ∧ SO w0 w' g (swapR a b d m) := by
  have S0 := Aside0.mk S
  clear S
  go_enter Try.func52, Try.ntmps52
  go_wp2
  go_loopg [10] m (fun kq v10 wr => ∃ i : Nat, i + kq = m ∧ v10 = .int .i64 (i : Int) ∧ Aside0 (SO w0 wr g (swapR a b d i)))
  case atStart => exact ⟨0, by omega, rfl, S0⟩
  case round =>
    clear S0
    obtain ⟨i, hi, rfl, S⟩ := hrel
    by_cases hlt : i < m
    · obtain ⟨k1, rfl⟩ : ∃ q, gk = q + 1 := ⟨gk - 1, by omega⟩
      have hl : (swapR a b d i).length = n := (swapR_len a b d i).trans hn
      obtain ⟨iN, hiN⟩ : ∃ q, q = a + i := ⟨_, rfl⟩
      obtain ⟨jN, hjN⟩ : ∃ q, q = b + i := ⟨_, rfl⟩
      have ea : ((a : Int) + (i : Int)).toNat = iN := by omega
      have pa : (0 : Int) ≤ (a : Int) + (i : Int) := by omega
      have ba : (a : Int) + (i : Int) < (n : Int) := by omega
      have ra : IntKind.i64.wrap ((a : Int) + (i : Int)) = (a : Int) + (i : Int) := by rw [IntKind.wrap_i64]; omega
      have eb : ((b : Int) + (i : Int)).toNat = jN := by omega
      have pb : (0 : Int) ≤ (b : Int) + (i : Int) := by omega
      have bb : (b : Int) + (i : Int) < (n : Int) := by omega
      have rb : IntKind.i64.wrap ((b : Int) + (i : Int)) = (b : Int) + (i : Int) := by rw [IntKind.wrap_i64]; omega
      obtain ⟨x, hx⟩ : ∃ x, x = rd (swapR a b d i) (iN : Int) := ⟨_, rfl⟩
      obtain ⟨y, hy⟩ : ∃ y, y = rd (swapR a b d i) (jN : Int) := ⟨_, rfl⟩
      have c1 := S.out.cell iN (by omega)
      have c2 := S.out.cell jN (by omega)
      have f1 := S.out.fz iN
      have f2 := S.out.fz jN
      obtain ⟨u, c3⟩ := S.out.c2 iN jN (by omega) y
      have S2 := S.out.swap iN jN
      rw [← hx] at c1 S2
      rw [← hy] at c2 S2
      have S3 := Aside0.mk (show SO w0 _ g (swapR a b d (i + 1)) from (show swapR a b d (i + 1) = swp (swapR a b d i) iN jN by rw [hiN, hjN]; rfl) ▸ S2)
      clear S2 S hl hx hy hiN hjN
      go_wp2_with fail
      go_big_region
      clear c1 c2 c3 f1 f2
      generalize ((wr.setCell ⟨g, iN, none⟩ (.int .i64 y)).setCell ⟨g, jN, none⟩ (.int .i64 x)).drew = w3 at S3 ⊢
      clear ea eb
      go_wp2
      go_roundg k1
      case measure => omega
      case rel => exact ⟨i + 1, by omega, by first | rfl | go_num, S3⟩
    · go_wp2
      go_end0
      obtain rfl : i = m := by omega
      exact ⟨rfl, S.out⟩
end Go.Proofs.Ytldbdifdldmgfaa.PAll
