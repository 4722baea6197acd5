/- What is left, and the guess of a draw, as lists. -/
import Derived.Test.YtldbdifdldmgfaaEvB
namespace Go.Proofs.Ytldbdifdldmgfaa.Math
open Go.RowKit Go.Proofs.Ytldbdifdldmgfaa.PAll Go.Proofs.YtldbdifdldmgfaaW.PrintWords Go.Proofs.YtldbdifdldmgfaaW.PrintLast Go.Proofs.YtldbdifdldmgfaaW.PrintMore
set_option linter.unusedVariables false
set_option linter.unusedSimpArgs false

theorem take_snoc_rd (l : List Int) (i : Nat) (h : i < l.length) : l.take (i + 1) = l.take i ++ [rd l (i : Int)] := by
  rw [List.take_succ_eq_append_getElem h, rd_at l i h]
theorem set_next (l : List Int) (i : Nat) (h : i < l.length) : (l.take i ++ List.replicate (l.length - i) (0 : Int)).set i (rd l (i : Int)) = l.take (i + 1) ++ List.replicate (l.length - (i + 1)) 0 := by
  rw [take_snoc_rd l i h, show l.length - i = (l.length - (i + 1)) + 1 from by omega, List.replicate_succ]
  rw [List.set_append_right _ _ (by simp; omega)]
  simp [List.length_take, Nat.min_eq_left (Nat.le_of_lt h)]

section
variable {p q : List Int} (h : Pair p q)
include h
theorem left_loop : ∀ (n i : Nat) (k : Nat), n = p.length - i → i ≤ p.length → n < k →
    heraldref24_left.l0 k p q ((resL p q).take i) (p.length : Int) (i : Int) = some (resL p q) := by
  have hl := h.len
  have hml := resL_length p q h.len
  have h2 := h.wp.len2
  intro n
  induction n with
  | zero =>
    intro i k hn hi hk
    obtain ⟨k, rfl⟩ : ∃ m, k = m + 1 := ⟨k - 1, by omega⟩
    obtain rfl : i = p.length := by omega
    simp only [heraldref24_left.l0]
    rw [if_neg (by omega), ← hml, List.take_length]
  | succ n ih =>
    intro i k hn hi hk
    obtain ⟨k, rfl⟩ : ∃ m, k = m + 1 := ⟨k - 1, by omega⟩
    have hlt : i < p.length := by omega
    have h0 := good_rd h.wp i hlt
    have hr := res_range h i hlt
    have hrd := res_rd h i hlt
    simp only [heraldref24_left.l0]
    rw [if_pos (by omega), if_pos (by omega), if_pos (by omega), if_pos (by omega), less_some]
    simp only [Option.bind_some]
    rw [if_pos (by simp; omega), ← hrd, wrap_in (by omega) (by omega), wrap_in (by omega) (by omega), ← take_snoc_rd _ i (by omega)]
    exact ih (i + 1) k (by omega) (by omega) (by omega)
theorem cleft_loop : ∀ (n i : Nat) (k : Nat), n = p.length - i → i ≤ p.length → n < k →
    couple_Left.l0 k q ((resL p q).take i ++ List.replicate (p.length - i) 0) p (p.length : Int) (i : Int) = some (resL p q, 0) := by
  have hl := h.len
  have hml := resL_length p q h.len
  have h2 := h.wp.len2
  intro n
  induction n with
  | zero =>
    intro i k hn hi hk
    obtain ⟨k, rfl⟩ : ∃ m, k = m + 1 := ⟨k - 1, by omega⟩
    obtain rfl : i = p.length := by omega
    simp only [couple_Left.l0]
    rw [if_neg (by omega), ← hml, List.take_length]
    simp
  | succ n ih =>
    intro i k hn hi hk
    obtain ⟨k, rfl⟩ : ∃ m, k = m + 1 := ⟨k - 1, by omega⟩
    have hlt : i < p.length := by omega
    have h0 := good_rd h.wp i hlt
    have hr := res_range h i hlt
    have hrd := res_rd h i hlt
    simp only [couple_Left.l0]
    rw [if_pos (by omega), if_pos (by omega), if_pos (by omega), if_pos (by omega), if_pos (by simp; omega), ← hrd, wrap_in (by omega) (by omega), wrap_in (by omega) (by omega), Int.toNat_natCast]
    have := set_next (resL p q) i (by omega)
    rw [hml] at this
    rw [this]
    exact ih (i + 1) k (by omega) (by omega) (by omega)
end
theorem left_some {p q : List Int} (h : Pair p q) (k : Nat) (hk : 600 < k) : heraldref24_left.f k p q = some (resL p q) := by
  unfold heraldref24_left.f
  have := left_loop h p.length 0 k (by omega) (by omega) (by have := h.wp.len2; omega)
  simpa using this
theorem rleft_some (p q : List Int) (k : Nat) (hk : 600 < k) : heraldref24_Left.f (k + 1) p q = some (if errV p q = 0 then (resL p q, 0) else ([], errV p q)) := by
  unfold heraldref24_Left.f
  rw [together_some p q k hk]
  simp only [Option.bind_some]
  by_cases g : Pair p q
  · simp only [errV_pair g, if_true]
    rw [left_some g (k + 1) (by omega)]
    rfl
  · have e := errV_no g
    simp only [e, if_false]
theorem cleft_some (p q : List Int) (k : Nat) (hk : 600 < k) : couple_Left.f k p q = some (if errV p q = 0 then (resL p q, 0) else ([], errV p q)) := by
  unfold couple_Left.f
  rw [both_err p q k hk]
  simp only [Option.bind_some]
  by_cases g : Pair p q
  · simp only [errV_pair g, if_true]
    have h2 := g.wp.len2
    rw [if_pos (by omega), if_pos (by omega), Int.toNat_natCast]
    have := cleft_loop g p.length 0 k (by omega) (by omega) (by omega)
    simpa using this
  · have e := errV_no g
    simp only [e, if_false]

theorem place_loop (l : List Int) (hf : ∀ x ∈ l, 0 ≤ x) (hs : l.sum ≤ 4294967296) (hl : l.length ≤ 512) : ∀ (n x : Nat) (u : Int) (k : Nat), n = l.length - x → x ≤ l.length → 0 ≤ u → u < l.sum - pre l x → n < k →
    heraldref24_place.l0 k l u (x : Int) = some (findL (l.drop x) (x : Int) u) := by
  intro n
  induction n with
  | zero =>
    intro x u k hn hx h0 hu hk
    obtain rfl : x = l.length := by omega
    rw [pre_all] at hu
    omega
  | succ n ih =>
    intro x u k hn hx h0 hu hk
    obtain ⟨k, rfl⟩ : ∃ m, k = m + 1 := ⟨k - 1, by omega⟩
    have hlt : x < l.length := by omega
    have hp := pre_succ l x hlt
    have hx0 := hf _ (rd_mem l x hlt)
    have hpx := pre_nonneg l hf x hx
    rw [drop_cons l x hlt]
    simp only [heraldref24_place.l0]
    unfold findL
    rw [if_pos (by omega), if_pos (by omega)]
    by_cases hq : u < rd l (x : Int)
    · rw [if_pos hq, if_neg (by omega)]
    · rw [if_neg hq, if_pos (by omega), wrap_in (by omega) (by omega), wrap_in (by omega) (by omega)]
      exact ih (x + 1) (u - rd l (x : Int)) k (by omega) (by omega) (by omega) (by omega) (by omega)
theorem place_some (l : List Int) (hf : ∀ x ∈ l, 0 ≤ x) (hs : l.sum ≤ 4294967296) (hl : l.length ≤ 512) (u : Int) (h0 : 0 ≤ u) (hu : u < l.sum) (k : Nat) (hk : 600 < k) :
    heraldref24_place.f k l u = some (findL l 0 u) := by
  unfold heraldref24_place.f
  have := place_loop l hf hs hl l.length 0 u k (by omega) (by omega) h0 (by rw [pre_zero]; omega) (by omega)
  simpa using this

/-- The number of a lost draw. -/
theorem lostTo_eq {p q : List Int} (h : Pair p q) (a : Int) (ha : -4294967296 ≤ a) (hb : a ≤ 4294967296) : ∀ n : Nat, n ≤ p.length → lostTo p q n a = a + (pre q n - pre (minL p q) n)
  | 0, _ => by simp [lostTo, pre]
  | n + 1, hn => by
    have hl := h.len
    have hml := minL_length p q h.len
    have h1 := pre_min_le h n (by omega)
    have h2 := pre_min_le h (n + 1) (by omega)
    have h3 := pre_le_sum q (good_nn h.wq) (n + 1) (by omega)
    have h4 := pre_nonneg q (good_nn h.wq) n (by omega)
    have hs := good_sum h.wq
    have hq := good_rd h.wq n (by omega)
    have hp := good_rd h.wp n (by omega)
    have hp1 := pre_succ q n (by omega)
    have hp2 := pre_succ (minL p q) n (by omega)
    rw [minL_rd p q h.len n (by omega)] at hp2
    have hm := mn_le (rd p (n : Int)) (rd q (n : Int))
    have hm2 := mn_or (rd p (n : Int)) (rd q (n : Int))
    simp only [lostTo]
    rw [lostTo_eq h a ha hb n (by omega), wrap_in (a := rd q (n : Int) - mn (rd p (n : Int)) (rd q (n : Int))) (by omega) (by omega), wrap_in (by omega) (by omega)]
    omega

/-- What Guess tells of a draw of a pair: the guess, and the token. 'v' is how many draws below u are lost. -/
theorem guess_tells {p q : List Int} (h : Pair p q) (u : Int) (h0 : 0 ≤ u) (hu : u < p.sum) : ∃ (x : Nat) (r : Int), x < p.length ∧ 0 ≤ r ∧ r < rd q (x : Int) ∧ u = pre q x + r ∧ findL q 0 u = ((x : Int), r) ∧
    ((r < mn (rd p (x : Int)) (rd q (x : Int)) ∧ couple_Guess.g p q (x : Int) r = some ((x : Int), (x : Int), true, 0)) ∨
     (mn (rd p (x : Int)) (rd q (x : Int)) ≤ r ∧ mn (rd p (x : Int)) (rd q (x : Int)) = rd p (x : Int) ∧ ∃ (y : Nat) (s : Int), y < p.length ∧ 0 ≤ s ∧ s < rd (resL p q) (y : Int) ∧
        r - rd p (x : Int) + (pre q x - pre (minL p q) x) = pre (resL p q) y + s ∧ lostTo p q x (wrap64 (r - rd p (x : Int))) = r - rd p (x : Int) + (pre q x - pre (minL p q) x) ∧
        findL (resL p q) 0 (r - rd p (x : Int) + (pre q x - pre (minL p q) x)) = ((y : Int), s) ∧ couple_Guess.g p q (x : Int) r = some ((x : Int), (y : Int), false, 0))) := by
  have hl := h.len
  have hml := minL_length p q h.len
  have hrl := resL_length p q h.len
  have hs := h.same
  obtain ⟨x, r, hx, h2, h3, h4, h5⟩ := findL_tells q (good_nn h.wq) (good_sum h.wq).2 u h0 (by omega)
  refine ⟨x, r, by omega, h3, h4, h5, hx, ?_⟩
  have hp := good_rd h.wp x (by omega)
  have hq := good_rd h.wq x (by omega)
  have hgs := good_sum h.wq
  unfold couple_Guess.g
  rw [if_pos ⟨by omega, by omega, hl⟩]
  by_cases c : r < mn (rd p (x : Int)) (rd q (x : Int))
  · exact Or.inl ⟨c, by rw [if_pos c]⟩
  · refine Or.inr ⟨by omega, ?_, ?_⟩
    · rcases mn_or (rd p (x : Int)) (rd q (x : Int)) with e | e
      · exact e
      · omega
    · have he : mn (rd p (x : Int)) (rd q (x : Int)) = rd p (x : Int) := by
        rcases mn_or (rd p (x : Int)) (rd q (x : Int)) with e | e
        · exact e
        · omega
      have a1 := pre_min_le h (x + 1) (by omega)
      have a2 := pre_succ (minL p q) x (by omega)
      rw [minL_rd p q h.len x (by omega)] at a2
      have a3 := pre_succ q x (by omega)
      have a4 := pre_min_le h x (by omega)
      have hw : wrap64 (r - rd p (x : Int)) = r - rd p (x : Int) := wrap_in (by omega) (by omega)
      have hlost := lostTo_eq h (r - rd p (x : Int)) (by omega) (by omega) x (by omega)
      have hrs := res_sum h
      have htot : pre q (x + 1) - pre (minL p q) (x + 1) ≤ q.sum - (minL p q).sum := by
        have b := pre_res h.symm (x + 1) (by omega)
        have b2 := pre_le_sum (resL q p) (res_nn h.symm) (x + 1) (by rw [resL_length q p hl.symm]; omega)
        have b3 := res_sum h.symm
        rw [minL_comm q p] at b b3
        omega
      obtain ⟨y, s, hy, g2, g3, g4, g5⟩ := findL_tells (resL p q) (res_nn h) (by have := kept_le h; omega) (r - rd p (x : Int) + (pre q x - pre (minL p q) x)) (by omega) (by omega)
      refine ⟨y, s, by omega, g3, g4, g5, by rw [hw]; exact hlost, hy, ?_⟩
      rw [if_neg c, Int.toNat_natCast, hw, hlost, hy]
end Go.Proofs.Ytldbdifdldmgfaa.Math
