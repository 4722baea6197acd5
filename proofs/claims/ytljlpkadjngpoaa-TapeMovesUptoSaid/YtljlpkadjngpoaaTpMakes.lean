/- The law of made tapes: what Make makes is the reference's. -/
import Derived.Test.YtljlpkadjngpoaaPAllx5
import Derived.Test.YtljlpkadjngpoaaEvMade
import Derived.DataShut
namespace Go.Proofs.Ytljlpkadjngpoaa.PAll
open Go.RowKit Go.Proofs.Ytljlpkadjngpoaa.Math Go.Proofs.YtljlpkadjngpoaaW.PrintWords Go.Proofs.YtljlpkadjngpoaaW.PrintLast Go.Proofs.YtljlpkadjngpoaaW.PrintMore
set_option linter.unusedVariables false
set_option linter.unusedSimpArgs false

theorem makes_loop (l : List Int) (hl : l.length ≤ 1048576) : ∀ (e i k : Nat), i + e = l.length → e + 1 ≤ k → heraldlaw23_TapeMakes.l0 k l l (i : Int) = some true := by
  intro e
  induction e with
  | zero =>
    intro i k he hk
    obtain ⟨k, rfl⟩ : ∃ m, k = m + 1 := ⟨k - 1, by omega⟩
    simp only [heraldlaw23_TapeMakes.l0]
    rw [if_neg (by omega)]
  | succ e ih =>
    intro i k he hk
    obtain ⟨k, rfl⟩ : ∃ m, k = m + 1 := ⟨k - 1, by omega⟩
    simp only [heraldlaw23_TapeMakes.l0]
    rw [if_pos (by omega), if_pos (by omega), if_pos (by omega), Math.wrap_in (by omega) (by omega), show (i : Int) + 1 = ((i + 1 : Nat) : Int) from by omega]
    exact ih (i + 1) k (by omega) (by omega)
theorem makes_j (l : List Int) (hl : l.length ≤ 1048576) (b : Bool) (hb : b = false) (k : Nat) (hk : l.length + 2 ≤ k) : heraldlaw23_TapeMakes.j0 k l l b = some true := by
  subst hb
  obtain ⟨k, rfl⟩ : ∃ m, k = m + 1 := ⟨k - 1, by omega⟩
  simp only [heraldlaw23_TapeMakes.j0]
  rw [if_neg (by decide)]
  exact makes_loop l hl l.length 0 k (by omega) (by omega)
theorem makes_f (b : Int) (l : List Int) (hl : l.length ≤ 1048576) (hw : ∀ x ∈ l, x ≤ 9223372036854775807) (k : Nat) (hk : 450000000 ≤ k) : heraldlaw23_TapeMakes.f k b l = some true := by
  unfold heraldlaw23_TapeMakes.f
  simp only [Option.bind_some, List.nil_append]
  rw [if_pos (by simp; omega)]
  by_cases hb : IsBits b
  · obtain ⟨r, hr, hm⟩ := make_some b l hb hl k (by omega)
    obtain ⟨r', hr', hm'⟩ := refMake_some b l hb hl hw k hk
    obtain rfl := hm.same hm'
    rw [hr, hr']
    simp only [Option.bind_some, heraldlaw23_awake.f, if_true]
    exact makes_j l hl _ (by simp) k (by omega)
  · rw [make_no b l hb, refMake_no b l hb]
    simp only [Option.bind_some, heraldlaw23_awake.f, if_true]
    exact makes_j l hl _ (by simp) k (by omega)
theorem makes_walk (b : Int) (A : Option Addr) (c : Nat) (l : List Int) (w : World) (hr : Kd.C (Kd.int .i64) w A l.length l) (hc : l.length ≤ c) (hw : ∀ x ∈ l, (Lit.int .i64 x).wf = true) (hl : l.length ≤ 1048576) :
    Calls Try.prog 8 #[.int .i64 b, .slice A l.length c] w fun e w' => e = .returned (.bool true) ∧ Below w.heap.size w w' := by
  obtain ⟨k, hk⟩ : ∃ k, k = 450000000 := ⟨_, rfl⟩
  have hx : ∀ x ∈ l, x ≤ 9223372036854775807 := by
    intro x hx
    have := ((Lit.wf_int_iff _ _).1 (hw x hx)).2
    exact this
  exact heraldlaw23_TapeMakes.calls k b A c l true w hr hc (makes_f b l hl hx k (by omega))
end Go.Proofs.Ytljlpkadjngpoaa.PAll
