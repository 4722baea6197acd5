/- For every row of true and guessed weights and every row of draws the law CoupleChains returns true: Chain answers as the document's reference does. Conditions: none but those of the given statement. -/
import Derived.Test.YtldbdifdldmgfaaEvD
import Derived.Test.YtldbdifdldmgfaaPureCoupleGuesses
import Derived.Test.YtldbdifdldmgfaaPAllx19
namespace Go.Proofs.Ytldbdifdldmgfaa.Pure
open Go.RowKit Go.Proofs.Ytldbdifdldmgfaa.PAll Go.Proofs.Ytldbdifdldmgfaa.Math Go.Proofs.YtldbdifdldmgfaaW.PrintWords Go.Proofs.YtldbdifdldmgfaaW.PrintLast Go.Proofs.YtldbdifdldmgfaaW.PrintMore
set_option linter.unusedVariables false
set_option linter.unusedSimpArgs false

/-- What Guess tells of any input. -/
def gueV (p q : List Int) (u : Int) : Int × Int × Bool × Int :=
  if errV p q = 0 then (if u < 0 ∨ u ≥ p.sum then (0, 0, false, 241) else (couple_Guess.g p q (findL q 0 u).1 (findL q 0 u).2).getD (0, 0, false, 0)) else (0, 0, false, errV p q)
theorem cgue_some (p q : List Int) (u : Int) (k : Nat) (hk : 1300 < k) : couple_Guess.f k p q u = some (gueV p q u) := by
  obtain ⟨x, y, b, e, h, _⟩ := guess_both p q u k hk
  rw [h]
  unfold couple_Guess.f at h
  rw [both_err p q k (by omega)] at h
  simp only [Option.bind_some] at h
  unfold gueV
  by_cases c : errV p q = 0
  · simp only [if_pos c, if_true] at h ⊢
    by_cases d : u < 0 ∨ u ≥ p.sum
    · rw [if_pos d] at h ⊢
      exact h.symm
    · rw [if_neg d] at h ⊢
      rw [h]
      rfl
  · simp only [if_neg c] at h ⊢
    exact h.symm
theorem rgue_some (p q : List Int) (u : Int) (k : Nat) (hk : 1301 < k) : heraldref24_Guess.f k p q u = some (gueV p q u) := by
  obtain ⟨k, rfl⟩ : ∃ m, k = m + 1 := ⟨k - 1, by omega⟩
  obtain ⟨x, y, b, e, h, h2⟩ := guess_both p q u k (by omega)
  rw [h2, ← h, cgue_some p q u k (by omega)]

section
variable (P Q : List (List Int)) (U : List Int)
def gAt (i : Nat) : Int × Int × Bool × Int := gueV (rd_L1 P (i : Int)) (rd_L1 Q (i : Int)) (rd U (i : Int))
def gS (i : Nat) : S26 := ⟨(gAt P Q U i).1, (gAt P Q U i).2.1, (gAt P Q U i).2.2.1⟩
/-- The tokens from place i on. -/
def outV (n : Nat) (last : Int) : Nat → Nat → List Int → List Int × Int × Int
  | 0, _, acc => (acc ++ [last], (n : Int), 0)
  | d + 1, i, acc => if (gAt P Q U i).2.2.1 = true then outV n last d (i + 1) (acc ++ [(gAt P Q U i).2.1]) else (acc ++ [(gAt P Q U i).2.1], (i : Int), 0)
def endV (n : Nat) : List Int × Int × Int := if (drawV (rd_L1 P (n : Int)) (rd U (n : Int))).2 = 0 then outV P Q U n (drawV (rd_L1 P (n : Int)) (rd U (n : Int))).1 n 0 [] else ([], 0, (drawV (rd_L1 P (n : Int)) (rd U (n : Int))).2)
/-- The first error from place i on, or the end. -/
def chkV (n : Nat) : Nat → Nat → List Int × Int × Int
  | 0, _ => endV P Q U n
  | d + 1, i => if (gAt P Q U i).2.2.2 = 0 then chkV n d (i + 1) else ([], 0, (gAt P Q U i).2.2.2)

theorem out_len (n : Nat) (last : Int) : ∀ (d i : Nat) (acc : List Int), (outV P Q U n last d i acc).1.length ≤ acc.length + d + 1
  | 0, _, acc => by simp [outV]
  | d + 1, i, acc => by
    unfold outV
    split
    · have := out_len n last d (i + 1) (acc ++ [(gAt P Q U i).2.1])
      simp at this
      omega
    · simp
theorem chk_len (n : Nat) : ∀ d i : Nat, (chkV P Q U n d i).1.length ≤ n + 1
  | 0, _ => by
    unfold chkV endV
    split
    · have := out_len P Q U n (drawV (rd_L1 P (n : Int)) (rd U (n : Int))).1 n 0 []
      simpa using this
    · simp
  | d + 1, i => by
    unfold chkV
    split
    · exact chk_len n d (i + 1)
    · simp

section
variable (n : Nat) (hn : n ≤ 64) (hP : P.length = n + 1) (hQ : Q.length = n) (hU : U.length = n + 1)
include hn hP hQ hU
theorem c_out (gl : List S26) (hgl : gl.length = n) (hg : ∀ i : Nat, i < n → rd_T26 gl (i : Int) = gS P Q U i) (last : Int) : ∀ (d i : Nat) (acc : List Int) (k : Nat), d = n - i → i ≤ n → acc.length = i → d < k →
    couple_Chain.l1 k (n : Int) last acc gl (n : Int) (i : Int) = some (outV P Q U n last d i acc) := by
  intro d
  induction d with
  | zero =>
    intro i acc k hd hi ha hk
    obtain ⟨k, rfl⟩ : ∃ m, k = m + 1 := ⟨k - 1, by omega⟩
    simp only [couple_Chain.l1, outV]
    rw [if_neg (by omega), if_pos (by omega)]
  | succ d ih =>
    intro i acc k hd hi ha hk
    obtain ⟨k, rfl⟩ : ∃ m, k = m + 1 := ⟨k - 1, by omega⟩
    simp only [couple_Chain.l1, outV]
    rw [if_pos (by omega), if_pos (by omega), if_pos (by omega), if_pos (by omega), hg i (by omega)]
    simp only [Option.bind_some]
    show (if (gAt P Q U i).2.2.1 = true then couple_Chain.l1 k (n : Int) last (acc ++ [(gAt P Q U i).2.1]) gl (n : Int) (wrap64 ((i : Int) + 1)) else some (acc ++ [(gAt P Q U i).2.1], (i : Int), 0)) = _
    by_cases c : (gAt P Q U i).2.2.1 = true
    · rw [if_pos c, if_pos c, wrap_in (by omega) (by omega)]
      exact ih (i + 1) _ k (by omega) (by omega) (by simp; omega) (by omega)
    · rw [if_neg c, if_neg c]
theorem r_out (last : Int) : ∀ (d i : Nat) (acc : List Int) (k : Nat), d = n - i → i ≤ n → acc.length = i → d + 1400 < k →
    heraldref24_Chain.l1 k P Q U (n : Int) last acc (i : Int) = some (outV P Q U n last d i acc) := by
  intro d
  induction d with
  | zero =>
    intro i acc k hd hi ha hk
    obtain ⟨k, rfl⟩ : ∃ m, k = m + 1 := ⟨k - 1, by omega⟩
    simp only [heraldref24_Chain.l1, outV]
    rw [if_neg (by omega), if_pos (by omega)]
  | succ d ih =>
    intro i acc k hd hi ha hk
    obtain ⟨k, rfl⟩ : ∃ m, k = m + 1 := ⟨k - 1, by omega⟩
    simp only [heraldref24_Chain.l1, outV]
    rw [if_pos (by omega), if_pos (by omega), if_pos (by omega), if_pos (by omega), if_pos (by omega), rgue_some _ _ _ k (by omega)]
    simp only [Option.bind_some]
    rw [if_pos (by omega)]
    show (if (gAt P Q U i).2.2.1 = true then _ else _) = _
    by_cases c : (gAt P Q U i).2.2.1 = true
    · rw [if_pos c, if_pos c, wrap_in (by omega) (by omega)]
      exact ih (i + 1) _ k (by omega) (by omega) (by simp; omega) (by omega)
    · rw [if_neg c, if_neg c]
      rfl
theorem c_chk : ∀ (d i : Nat) (gl : List S26) (k : Nat), d = n - i → i ≤ n → gl.length = i → (∀ j : Nat, j < i → rd_T26 gl (j : Int) = gS P Q U j) → d + 1500 < k →
    couple_Chain.l0 k P Q U (n : Int) gl (n : Int) (i : Int) = some (chkV P Q U n d i) := by
  intro d
  induction d with
  | zero =>
    intro i gl k hd hi hl hg hk
    obtain ⟨k, rfl⟩ : ∃ m, k = m + 1 := ⟨k - 1, by omega⟩
    obtain rfl : i = n := by omega
    simp only [couple_Chain.l0, chkV, endV]
    rw [if_neg (by omega), if_pos (by omega), if_pos (by omega), if_pos (by omega), cdraw_some _ _ k (by omega)]
    simp only [Option.bind_some]
    by_cases c : (drawV (rd_L1 P (i : Int)) (rd U (i : Int))).2 = 0
    · rw [if_pos c, if_pos c, hl]
      exact c_out P Q U i hn hP hQ hU gl hl hg _ i 0 [] k (by omega) (by omega) rfl (by omega)
    · rw [if_neg c, if_neg c]
  | succ d ih =>
    intro i gl k hd hi hl hg hk
    obtain ⟨k, rfl⟩ : ∃ m, k = m + 1 := ⟨k - 1, by omega⟩
    simp only [couple_Chain.l0, chkV]
    rw [if_pos (by omega), if_pos (by omega), if_pos (by omega), if_pos (by omega), if_pos (by omega), cgue_some _ _ _ k (by omega)]
    simp only [Option.bind_some]
    show (if (gAt P Q U i).2.2.2 = 0 then _ else _) = _
    by_cases c : (gAt P Q U i).2.2.2 = 0
    · rw [if_pos c, if_pos c, if_pos (by omega), wrap_in (by omega) (by omega)]
      refine ih (i + 1) _ k (by omega) (by omega) (by simp; omega) (fun j hj => ?_) (by omega)
      by_cases e : j < i
      · rw [← hg j e]
        simp [rd_T26, List.getElem?_append_left (show j < gl.length by omega)]
      · obtain rfl : j = i := by omega
        simp [rd_T26, gS, gAt, hl]
    · rw [if_neg c, if_neg c]
      rfl
theorem r_chk : ∀ (d i : Nat) (k : Nat), d = n - i → i ≤ n → d + 1500 < k →
    heraldref24_Chain.l0 k P Q U (n : Int) (i : Int) = some (chkV P Q U n d i) := by
  intro d
  induction d with
  | zero =>
    intro i k hd hi hk
    obtain ⟨k, rfl⟩ : ∃ m, k = m + 1 := ⟨k - 1, by omega⟩
    obtain rfl : i = n := by omega
    simp only [heraldref24_Chain.l0, chkV, endV]
    rw [if_neg (by omega), if_pos (by omega), if_pos (by omega), if_pos (by omega), rdraw_some _ _ k (by omega)]
    simp only [Option.bind_some]
    by_cases c : (drawV (rd_L1 P (i : Int)) (rd U (i : Int))).2 = 0
    · rw [if_pos c, if_pos c]
      exact r_out P Q U i hn hP hQ hU _ i 0 [] k (by omega) (by omega) rfl (by omega)
    · rw [if_neg c, if_neg c]
  | succ d ih =>
    intro i k hd hi hk
    obtain ⟨k, rfl⟩ : ∃ m, k = m + 1 := ⟨k - 1, by omega⟩
    simp only [heraldref24_Chain.l0, chkV]
    rw [if_pos (by omega), if_pos (by omega), if_pos (by omega), if_pos (by omega), if_pos (by omega), rgue_some _ _ _ k (by omega)]
    simp only [Option.bind_some]
    show (if (gAt P Q U i).2.2.2 = 0 then _ else _) = _
    by_cases c : (gAt P Q U i).2.2.2 = 0
    · rw [if_pos c, if_pos c, wrap_in (by omega) (by omega)]
      exact ih (i + 1) k (by omega) (by omega) (by omega)
    · rw [if_neg c, if_neg c]
      rfl
end
theorem alike_loop (a : List Int) (hm : a.length ≤ 100) : ∀ (d i k : Nat), d = a.length - i → i ≤ a.length → d < k → heraldlaw24_CoupleChains.l0 k a a (a.length : Int) (i : Int) = some true := by
  intro d
  induction d with
  | zero =>
    intro i k hd hi hk
    obtain ⟨k, rfl⟩ : ∃ m, k = m + 1 := ⟨k - 1, by omega⟩
    simp only [heraldlaw24_CoupleChains.l0]
    rw [if_neg (by omega)]
  | succ d ih =>
    intro i k hd hi hk
    obtain ⟨k, rfl⟩ : ∃ m, k = m + 1 := ⟨k - 1, by omega⟩
    simp only [heraldlaw24_CoupleChains.l0, if_true]
    rw [if_pos (by omega), if_pos (by omega), if_pos (by omega), wrap_in (by omega) (by omega)]
    have := ih (i + 1) k (by omega) (by omega) (by omega)
    rw [if_pos (by omega)]
    exact this
theorem chain_both (k : Nat) (hk : 2000 < k) : ∃ R : List Int × Int × Int, R.1.length ≤ 65 ∧ couple_Chain.f k P Q U = some R ∧ heraldref24_Chain.f k P Q U = some R := by
  obtain ⟨k, rfl⟩ : ∃ m, k = m + 1 := ⟨k - 1, by omega⟩
  unfold couple_Chain.f heraldref24_Chain.f
  have no : ∃ R : List Int × Int × Int, R.1.length ≤ 65 ∧ couple_Chain.j0 (k + 1) P Q U (Q.length : Int) true = some R ∧ heraldref24_Chain.j0 (k + 1) P Q U (Q.length : Int) true = some R :=
    ⟨([], 0, 1), by simp, by simp only [couple_Chain.j0, if_true], by simp only [heraldref24_Chain.j0, if_true]⟩
  by_cases c1 : (P.length : Int) = wrap64 ((Q.length : Int) + 1)
  · rw [if_pos c1, if_pos c1]
    by_cases c2 : (U.length : Int) = wrap64 ((Q.length : Int) + 1)
    · rw [if_pos c2, if_pos c2]
      by_cases c3 : (Q.length : Int) > 64
      · rw [decide_eq_true c3]
        exact no
      · rw [decide_eq_false c3]
        rw [wrap_in (by omega) (by omega)] at c1 c2
        refine ⟨chkV P Q U Q.length Q.length 0, by have := chk_len P Q U Q.length Q.length 0; omega, ?_, ?_⟩
        · simp only [couple_Chain.j0, Bool.false_eq_true, if_false]
          exact c_chk P Q U Q.length (by omega) (by omega) rfl (by omega) Q.length 0 [] k (by omega) (by omega) rfl (fun j hj => absurd hj (by omega)) (by omega)
        · simp only [heraldref24_Chain.j0, Bool.false_eq_true, if_false]
          exact r_chk P Q U Q.length (by omega) (by omega) rfl (by omega) Q.length 0 k (by omega) (by omega) (by omega)
    · rw [if_neg c2, if_neg c2]
      exact no
  · rw [if_neg c1, if_neg c1]
    exact no
end

theorem chains_end (a : List Int) (hm : a.length ≤ 65) (k : Nat) (hk : 100 < k) : heraldlaw24_CoupleChains.j0 k a a ((a.length : Int) != (a.length : Int)) = some true := by
  obtain ⟨k, rfl⟩ : ∃ m, k = m + 1 := ⟨k - 1, by omega⟩
  rw [bne_self_eq_false]
  simp only [heraldlaw24_CoupleChains.j0, Bool.false_eq_true, if_false]
  exact alike_loop a (by omega) a.length 0 k (by omega) (by omega) (by omega)
theorem chains_at (P Q : List (List Int)) (U : List Int) (k : Nat) (hk : 2000 < k) : heraldlaw24_CoupleChains.f k P Q U = some true := by
  obtain ⟨⟨a, b, c⟩, hR, h1, h2⟩ := chain_both P Q U k hk
  unfold heraldlaw24_CoupleChains.f
  rw [awake_some k (by omega), Option.bind_some, if_pos rfl, h1, Option.bind_some, h2, Option.bind_some]
  rw [if_pos rfl, if_pos rfl]
  exact chains_end a hR k (by omega)
theorem CoupleChains (P Q : List (List Int)) (U : List Int) : ∃ k, heraldlaw24_CoupleChains.f k P Q U = some true := ⟨2001, chains_at P Q U 2001 (by omega)⟩
end Go.Proofs.Ytldbdifdldmgfaa.Pure
