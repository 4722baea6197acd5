/- Slices of slices of numbers that came in, read as lists of lists. -/
import Derived.Test.YtldbdifdldmgfaaPAllx0
import Derived.Deep.Matrix
import Derived.Lib.SmallJoins
import Derived.ProofKit
namespace Go.Proofs.Ytldbdifdldmgfaa.Math
set_option linter.unusedSimpArgs false
open Go.RowKit Go.Deep Go.WideShapes Go.ChangeShapes Go.Joins Go.Proofs.Ytldbdifdldmgfaa.PAll Go.Proofs.YtldbdifdldmgfaaW.PrintWords Go.Proofs.YtldbdifdldmgfaaW.PrintLast Go.Proofs.YtldbdifdldmgfaaW.PrintMore

theorem rows_C {H : Type} {enc : TypeId × Value → H} {P : Program} {w : World} {base : Nat} {held : Bool}
    {t e q : TypeId} {k : IntKind} {fuel : Nat} {cs : List Value} {x : DataW H × List MemPlace} (ht : P.underlying t = some (.slice e)) (he : P.underlying e = some (.slice q)) (hq : P.underlying q = some (.int k))
    (ce : P.cellsOf e = 1) (cq : P.cellsOf q = 1) (h : DataW.trod enc P w base (fun _ => true) held fuel t cs = some x) :
    ∃ (A : Option Addr) (c : Nat) (xs : List (List Int)), cs = [.slice A xs.length c] ∧ xs.length ≤ c ∧ Kd.C (Kd.slice q (Kd.int k)) w A xs.length xs := by
  rcases open_int_rows ht he hq ce cq h with ⟨rfl, _⟩ | ⟨a, len, cap, A, L, C, Z, rfl, _, hl, hm, _, hr⟩
  · exact ⟨none, 0, [], rfl, Nat.le_refl _, Kd.C_nil _ _⟩
  · have hlen : ((List.range len).map fun r => (Z r).take (L r)).length = len := by simp
    refine ⟨some a, cap, (List.range len).map fun r => (Z r).take (L r), by rw [hlen], by rw [hlen]; exact hl, ?_⟩
    rw [hlen]
    refine ⟨hlen, by unfold maxLen at *; omega, fun hn => ⟨a, rfl, fun j p hj => ?_⟩⟩
    have hjl : j < len := by
      have := (List.getElem?_eq_some_iff.1 hj).1
      rwa [hlen] at this
    have hp : (Z j).take (L j) = p := by simpa [hjl] using hj
    obtain ⟨h1, h2, h3, h4, h5, h6, h7⟩ := hr j (by omega)
    have hpl : p.length = L j := by rw [← hp, List.length_take]; omega
    refine ⟨[.slice (A j) (L j) (C j)], rfl, ⟨A j, C j, by rw [hpl], by omega, ?_⟩, fun i u hu => ?_⟩
    · refine Kd.C_of_reads (d := (0 : Int)) (h1 := fun _ => rfl) ⟨rfl, by unfold maxLen at *; omega, fun hn2 => ?_⟩
      rw [hpl] at hn2
      cases hA : A j with
      | none => have := h6 hA; omega
      | some a' =>
        refine ⟨a', rfl, fun c hc => ?_⟩
        rw [hpl] at hc
        rw [(h7 a' hA).2 c (by omega), ← hp]
        simp [List.getD_eq_getElem?_getD, hc]
    · cases i with
      | zero =>
        have : Value.slice (A j) (L j) (C j) = u := by simpa using hu
        subst this
        simpa [Kd.slice] using h1
      | succ i => simp at hu
end Go.Proofs.Ytldbdifdldmgfaa.Math
