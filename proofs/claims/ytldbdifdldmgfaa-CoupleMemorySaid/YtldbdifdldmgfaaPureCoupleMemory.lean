/- For every two rows of numbers the law CoupleMemory returns true: lists that came out of Left are the caller's own. Conditions: none but those of the given statement. -/
import Derived.Test.YtldbdifdldmgfaaEvC
import Derived.Test.YtldbdifdldmgfaaPAllx7
namespace Go.Proofs.Ytldbdifdldmgfaa.Pure
open Go.RowKit Go.Proofs.Ytldbdifdldmgfaa.PAll Go.Proofs.Ytldbdifdldmgfaa.Math Go.Proofs.YtldbdifdldmgfaaW.PrintWords Go.Proofs.YtldbdifdldmgfaaW.PrintLast Go.Proofs.YtldbdifdldmgfaaW.PrintMore
set_option linter.unusedVariables false
set_option linter.unusedSimpArgs false

def leftV (p q : List Int) : List Int := if errV p q = 0 then resL p q else []
theorem leftV_len (p q : List Int) : (leftV p q).length ≤ 512 := by
  unfold leftV
  by_cases g : Pair p q
  · rw [if_pos (errV_pair g), resL_length p q g.len]; exact g.wp.len2
  · rw [if_neg (errV_no g)]; simp

theorem mem_grow (p q a : List Int) (ha : a.length ≤ 512) : ∀ (n i : Nat) (b : List Int) (k : Nat), n = 9 - i → i ≤ 9 → b.length = a.length + i → a = leftV p q → n + 700 < k →
    heraldlaw24_CoupleMemory.l1 k p q a b a (i : Int) = some true := by
  intro n
  induction n with
  | zero =>
    intro i b k hn hi hb he hk
    obtain ⟨k, rfl⟩ : ∃ m, k = m + 1 := ⟨k - 1, by omega⟩
    obtain rfl : i = 9 := by omega
    simp only [heraldlaw24_CoupleMemory.l1]
    rw [if_neg (by omega), cleft_some p q k (by omega)]
    simp only [Option.bind_some]
    have h1 : (if errV p q = 0 then (resL p q, (0 : Int)) else ([], errV p q)).1 = a := by rw [he]; unfold leftV; split <;> rfl
    rw [h1, same_some a a (by unfold maxLen; omega) k (by omega)]
    simp only [Option.bind_some, decide_true, if_true]
    rw [wrap_in (by omega) (by omega), hb]
    simp
  | succ n ih =>
    intro i b k hn hi hb he hk
    obtain ⟨k, rfl⟩ : ∃ m, k = m + 1 := ⟨k - 1, by omega⟩
    simp only [heraldlaw24_CoupleMemory.l1]
    rw [if_pos (by omega), if_pos (by omega), wrap_in (by omega) (by omega)]
    exact ih (i + 1) (b ++ [-8]) k (by omega) (by omega) (by simp; omega) he (by omega)
theorem mem_mark (p q a : List Int) (ha : a.length ≤ 512) (he : a = leftV p q) : ∀ (n i : Nat) (b : List Int) (k : Nat), n = a.length - i → i ≤ a.length → b.length = a.length → n + 800 < k →
    heraldlaw24_CoupleMemory.l0 k p q a b a (a.length : Int) (i : Int) = some true := by
  intro n
  induction n with
  | zero =>
    intro i b k hn hi hb hk
    obtain ⟨k, rfl⟩ : ∃ m, k = m + 1 := ⟨k - 1, by omega⟩
    simp only [heraldlaw24_CoupleMemory.l0]
    rw [if_neg (by omega)]
    exact mem_grow p q a ha 9 0 b k (by omega) (by omega) (by omega) he (by omega)
  | succ n ih =>
    intro i b k hn hi hb hk
    obtain ⟨k, rfl⟩ : ∃ m, k = m + 1 := ⟨k - 1, by omega⟩
    simp only [heraldlaw24_CoupleMemory.l0]
    rw [if_pos (by omega), if_pos (by omega), if_pos (by omega), wrap_in (by omega) (by omega), Int.toNat_natCast]
    exact ih (i + 1) (b.set i (-7)) k (by omega) (by omega) (by simp; omega) (by omega)

theorem CoupleMemory : heraldlaw24_CoupleMemory.Pure := by
  intro p q hm hr _ hm2 hr2 _
  refine ⟨2001, ?_⟩
  unfold heraldlaw24_CoupleMemory.f
  rw [awake_some _ (by omega)]
  simp only [Option.bind_some, if_true]
  rw [rleft_some p q 2000 (by omega), cleft_some p q _ (by omega)]
  have h1 : (if errV p q = 0 then (resL p q, (0 : Int)) else ([], errV p q)) = (leftV p q, errV p q) := by
    unfold leftV
    by_cases e : errV p q = 0
    · rw [if_pos e, if_pos e, e]
    · rw [if_neg e, if_neg e]
  rw [h1]
  simp only [Option.bind_some, if_true, bne_self_eq_false, heraldlaw24_CoupleMemory.j0, Bool.false_eq_true, if_false]
  have := leftV_len p q
  exact mem_mark p q (leftV p q) this rfl (leftV p q).length 0 (leftV p q) 2000 (by omega) (by omega) rfl (by omega)
end Go.Proofs.Ytldbdifdldmgfaa.Pure
