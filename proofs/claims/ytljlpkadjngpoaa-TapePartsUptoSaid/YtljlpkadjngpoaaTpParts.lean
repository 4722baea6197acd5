/- The law of parts, all draws, wider draws and made tapes. -/
import Derived.Test.YtljlpkadjngpoaaEvWider
import Derived.DataShut
namespace Go.Proofs.Ytljlpkadjngpoaa.PAll
open Go.RowKit Go.Proofs.Ytljlpkadjngpoaa.Math Go.Proofs.YtljlpkadjngpoaaW.PrintWords Go.Proofs.YtljlpkadjngpoaaW.PrintLast Go.Proofs.YtljlpkadjngpoaaW.PrintMore
set_option linter.unusedVariables false
set_option linter.unusedSimpArgs false

theorem parts_loop (l : List Int) (hl : l.length ≤ 8388608) : ∀ (d i k : Nat), i + d = l.length → d + 1 ≤ k → heraldlaw23_TapeParts.l0 k l l (i : Int) = some true := by
  intro d
  induction d with
  | zero =>
    intro i k hi hk
    obtain ⟨k, rfl⟩ : ∃ m, k = m + 1 := ⟨k - 1, by omega⟩
    simp only [heraldlaw23_TapeParts.l0]
    rw [if_neg (by omega)]
  | succ d ih =>
    intro i k hi hk
    obtain ⟨k, rfl⟩ : ∃ m, k = m + 1 := ⟨k - 1, by omega⟩
    simp only [heraldlaw23_TapeParts.l0]
    have h1 : (i : Int) < (l.length : Int) := by omega
    have h2 : (0 : Int) ≤ (i : Int) := by omega
    have h3 : wrap64 ((i : Int) + 1) = ((i + 1 : Nat) : Int) := (wrap_in (by omega) (by omega)).trans (by omega)
    rw [if_pos h1, if_pos h2, if_pos h1, if_pos trivial, h3]
    exact ih (i + 1) k (by omega) (by omega)
theorem all_both (b : Int) (s : ByteArray) (hs : s.size ≤ 1048576) (k : Nat) (hk : 8388700 ≤ k) : ∃ (l : List Int) (e : Int), l.length ≤ 8388608 ∧ tape_All.f k b s = some (l, e) ∧ heraldref23_All.f k b s = some (l, e) := by
  by_cases hb : IsBits b
  · obtain ⟨n, hn1, hn, hn2⟩ := all_count b s hb hs
    exact ⟨_, _, by rw [drawsV_len]; exact hn1, tapeAll_yes b s n hb hn hs k, refAll_yes b s n hb hn hs hn1 k hk⟩
  · exact ⟨[], 230, by simp, tapeAll_no b s hb k, refAll_no b s hb k (by omega)⟩
theorem parts_f (b : Int) (s : ByteArray) (c f d : Int) (hs : s.size ≤ 1048576) (hf : -9223372036854775808 ≤ f ∧ f ≤ 9223372036854775807) (hd : -9223372036854775808 ≤ d ∧ d ≤ 9223372036854775807) (k : Nat) (hk : 3800000000 ≤ k) :
    heraldlaw23_TapeParts.f k b s c f d = some true := by
  obtain ⟨l, e, hl, h1, h2⟩ := all_both b s hs k (by omega)
  obtain ⟨⟨x, g⟩, h3, h4⟩ := part_both b s f d hs hf hd k (by omega)
  obtain ⟨⟨v, i⟩, h5, h6⟩ := wider_both b c s hs k (by omega)
  obtain ⟨⟨p, j⟩, h7, h8⟩ := fill_some (IntKind.u64.wrap f) d k (by omega)
  obtain ⟨k, rfl⟩ : ∃ m, k = m + 1 := ⟨k - 1, by omega⟩
  unfold heraldlaw23_TapeParts.f heraldlaw23_awake.f
  rw [h1, h2, h3, h4, h5, h6, h7, h8]
  simp only [Option.bind_some, if_true, heraldlaw23_TapeParts.j0, bne_self_eq_false, Bool.false_eq_true, if_false]
  exact parts_loop l hl l.length 0 k (by omega) (by omega)
theorem parts_walk (b : Int) (s : ByteArray) (c f d : Int) (w : World) (hs : s.size ≤ 1048576) (hf : (Lit.int .i64 f).wf = true) (hd : (Lit.int .i64 d).wf = true) :
    Calls Try.prog 10 #[.int .i64 b, .string s, .agg #[.int .i64 c, .int .i64 f, .int .i64 d]] w fun e w' => e = .returned (.bool true) ∧ Below w.heap.size w w' := by
  obtain ⟨k, hk⟩ : ∃ k, k = 3800000000 := ⟨_, rfl⟩
  exact heraldlaw23_TapeParts.calls k b s c f d true w (parts_f b s c f d hs ((Lit.wf_int_iff _ _).1 hf) ((Lit.wf_int_iff _ _).1 hd) k (by omega))
end Go.Proofs.Ytljlpkadjngpoaa.PAll
