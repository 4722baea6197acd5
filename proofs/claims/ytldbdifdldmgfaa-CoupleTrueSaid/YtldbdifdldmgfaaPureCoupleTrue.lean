/- For every two rows of numbers the law CoupleTrue returns true: all draws counted one by one (of sums to 65536), by Guess each token comes of as many draws as p says, each guess of as many as q says, and as many keep it as the lesser ones sum to. Conditions: none but those of the given statement. -/
import Derived.Test.YtldbdifdldmgfaaEvC
import Derived.Test.YtldbdifdldmgfaaPAllx5
namespace Go.Proofs.Ytldbdifdldmgfaa.Pure
open Go.RowKit Go.Proofs.Ytldbdifdldmgfaa.PAll Go.Proofs.Ytldbdifdldmgfaa.Math Go.Proofs.YtldbdifdldmgfaaW.PrintWords Go.Proofs.YtldbdifdldmgfaaW.PrintLast Go.Proofs.YtldbdifdldmgfaaW.PrintMore
set_option linter.unusedVariables false
set_option linter.unusedSimpArgs false

/-- How many of the draws below u keep their guess, token by token. -/
def keptT (p q : List Int) (u : Int) : List Int := minL (cnt q u) (minL p q)
def lostN (p q : List Int) (u : Int) : Int := u - (keptT p q u).sum
def tok (p q : List Int) (u : Int) : List Int := List.zipWith (· + ·) (keptT p q u) (cnt (resL p q) (lostN p q u))
theorem plus_rd (a b : List Int) (h : a.length = b.length) (x : Nat) (hx : x < a.length) : rd (List.zipWith (· + ·) a b) (x : Int) = rd a (x : Int) + rd b (x : Int) := by
  have h1 : x < b.length := by omega
  simp [rd, List.getD_eq_getElem?_getD, List.getElem?_zipWith, hx, h1]
theorem sum_set (l : List Int) (x : Nat) (v : Int) (h : x < l.length) : (l.set x v).sum = l.sum - rd l (x : Int) + v := by
  induction l generalizing x with
  | nil => simp at h
  | cons a l ih =>
    cases x with
    | zero => simp [rd]; omega
    | succ x =>
      have := ih x (by simpa using h)
      have e : rd (a :: l) ((x + 1 : Nat) : Int) = rd l (x : Int) := by simp [rd]
      rw [e]
      simp only [List.set_cons_succ, List.sum_cons, this]
      omega
section
variable {p q : List Int} (g : Pair p q)
include g
theorem keptT_len (u : Int) : (keptT p q u).length = p.length := by
  have h1 := minL_length p q g.len
  have h2 := cnt_length q u
  have h3 := g.len
  unfold keptT
  rw [minL_length _ _ (by omega)]; omega
theorem keptT_rd (u : Int) (x : Nat) (hx : x < p.length) : rd (keptT p q u) (x : Int) = mn (rd (cnt q u) (x : Int)) (rd (minL p q) (x : Int)) := by
  have h1 := minL_length p q g.len
  have h2 := cnt_length q u
  have h3 := g.len
  unfold keptT
  exact minL_rd _ _ (by omega) x (by omega)
theorem min_range (x : Nat) (hx : x < p.length) : 0 ≤ rd (minL p q) (x : Int) ∧ rd (minL p q) (x : Int) ≤ rd p (x : Int) ∧ rd (minL p q) (x : Int) ≤ rd q (x : Int) := by
  have h1 := good_rd g.wp x hx
  have h2 := good_rd g.wq x (by have := g.len; omega)
  have h3 := mn_le (rd p (x : Int)) (rd q (x : Int))
  rw [minL_rd p q g.len x hx]
  rcases mn_or (rd p (x : Int)) (rd q (x : Int)) with e | e <;> omega
/-- The counts where u lies in x's stretch. -/
theorem cnt_at (u r : Int) (x : Nat) (hx : x < p.length) (h0 : 0 ≤ r) (h1 : r < rd q (x : Int)) (hu : u = pre q x + r) (y : Nat) (hy : y < p.length) :
    rd (cnt q u) (y : Int) = if y < x then rd q (y : Int) else if y = x then r else 0 := by
  have hl := g.len
  rw [cnt_rd q u y (by omega)]
  have a1 := pre_succ q y (by omega)
  have a2 := good_rd g.wq y (by omega)
  unfold within
  by_cases c : y < x
  · have := pre_le q (good_nn g.wq) (show y + 1 ≤ x by omega) (by omega)
    rw [if_pos c]
    split
    · omega
    · split <;> omega
  · rw [if_neg c]
    by_cases c2 : y = x
    · subst c2
      rw [if_pos rfl]
      split
      · omega
      · split <;> omega
    · have := pre_le q (good_nn g.wq) (show x + 1 ≤ y by omega) (by omega)
      have := pre_succ q x (by omega)
      rw [if_neg c2, if_pos (by omega)]
theorem keptT_at (u r : Int) (x : Nat) (hx : x < p.length) (h0 : 0 ≤ r) (h1 : r < rd q (x : Int)) (hu : u = pre q x + r) (y : Nat) (hy : y < p.length) :
    rd (keptT p q u) (y : Int) = if y < x then rd (minL p q) (y : Int) else if y = x then mn r (rd (minL p q) (x : Int)) else 0 := by
  have hm := min_range g y hy
  rw [keptT_rd g u y hy, cnt_at g u r x hx h0 h1 hu y hy]
  by_cases c : y < x
  · rw [if_pos c, if_pos c]
    unfold mn
    split <;> omega
  · rw [if_neg c, if_neg c]
    by_cases c2 : y = x
    · rw [if_pos c2, if_pos c2, c2]
    · rw [if_neg c2, if_neg c2]
      unfold mn
      split <;> omega
theorem kept_sum (u r : Int) (x : Nat) (hx : x < p.length) (h0 : 0 ≤ r) (h1 : r < rd q (x : Int)) (hu : u = pre q x + r) : (keptT p q u).sum = pre (minL p q) x + mn r (rd (minL p q) (x : Int)) := by
  have hml := minL_length p q g.len
  have hkl := keptT_len g u
  have low : ∀ n : Nat, n ≤ x → pre (keptT p q u) n = pre (minL p q) n := by
    intro n
    induction n with
    | zero => intro _; simp [pre_zero]
    | succ n ih =>
      intro hn
      rw [pre_succ _ n (by omega), pre_succ _ n (by omega), ih (by omega), keptT_at g u r x hx h0 h1 hu n (by omega), if_pos (by omega)]
  have high : ∀ n : Nat, x + 1 + n ≤ p.length → pre (keptT p q u) (x + 1 + n) = pre (minL p q) x + mn r (rd (minL p q) (x : Int)) := by
    intro n
    induction n with
    | zero =>
      intro hn
      rw [Nat.add_zero, pre_succ _ x (by omega), low x (Nat.le_refl _), keptT_at g u r x hx h0 h1 hu x hx, if_neg (by omega), if_pos rfl]
    | succ n ih =>
      intro hn
      rw [← Nat.add_assoc, pre_succ _ (x + 1 + n) (by omega), ih (by omega), keptT_at g u r x hx h0 h1 hu (x + 1 + n) (by omega), if_neg (by omega), if_neg (by omega)]
      omega
  have := high (p.length - (x + 1)) (by omega)
  rw [show x + 1 + (p.length - (x + 1)) = (keptT p q u).length from by omega, pre_all] at this
  exact this
theorem cnt_next (u r : Int) (x : Nat) (hx : x < p.length) (h0 : 0 ≤ r) (h1 : r < rd q (x : Int)) (hu : u = pre q x + r) : cnt q (u + 1) = (cnt q u).set x (r + 1) := by
  rw [cnt_step q (good_nn g.wq) u r x (by have := g.len; omega) h0 h1 hu, cnt_at g u r x hx h0 h1 hu x hx, if_neg (by omega), if_pos rfl]
theorem keptT_next (u r : Int) (x : Nat) (hx : x < p.length) (h0 : 0 ≤ r) (h1 : r < rd q (x : Int)) (hu : u = pre q x + r) :
    keptT p q (u + 1) = if r < rd (minL p q) (x : Int) then (keptT p q u).set x (rd (keptT p q u) (x : Int) + 1) else keptT p q u := by
  have hkl := keptT_len g u
  have hkl1 := keptT_len g (u + 1)
  have hl := g.len
  have hcl := cnt_length q u
  have hkx := keptT_at g u r x hx h0 h1 hu x hx
  rw [if_neg (by omega), if_pos rfl] at hkx
  have hm := mn_le r (rd (minL p q) (x : Int))
  have hm2 := mn_or r (rd (minL p q) (x : Int))
  by_cases c : r < rd (minL p q) (x : Int)
  · rw [if_pos c]
    refine list_ext_rd (by simp; omega) fun y hy => ?_
    rw [keptT_rd g (u + 1) y (by omega), cnt_next g u r x hx h0 h1 hu]
    by_cases e : x = y
    · subst e
      rw [rd_set_same _ _ _ (by omega), rd_set_same _ _ _ (by omega), hkx]
      unfold mn
      split <;> split <;> omega
    · rw [rd_set_other _ _ _ _ (by omega) e, rd_set_other _ _ _ _ (by omega) e, keptT_rd g u y (by omega)]
  · rw [if_neg c]
    refine list_ext_rd (by omega) fun y hy => ?_
    rw [keptT_rd g (u + 1) y (by omega), cnt_next g u r x hx h0 h1 hu]
    by_cases e : x = y
    · subst e
      rw [rd_set_same _ _ _ (by omega), hkx]
      unfold mn
      split <;> split <;> omega
    · rw [rd_set_other _ _ _ _ (by omega) e, keptT_rd g u y (by omega)]
theorem tok_len (u : Int) : (tok p q u).length = p.length := by
  have h1 := keptT_len g u
  have h2 := cnt_length (resL p q) (lostN p q u)
  have h3 := resL_length p q g.len
  unfold tok
  rw [List.length_zipWith]; omega
theorem tok_rd (u : Int) (y : Nat) (hy : y < p.length) : rd (tok p q u) (y : Int) = rd (keptT p q u) (y : Int) + rd (cnt (resL p q) (lostN p q u)) (y : Int) := by
  have h1 := keptT_len g u
  have h2 := cnt_length (resL p q) (lostN p q u)
  have h3 := resL_length p q g.len
  unfold tok
  exact plus_rd _ _ (by omega) y (by omega)
/-- One draw more: kept. -/
theorem next_kept (u r : Int) (x : Nat) (hx : x < p.length) (h0 : 0 ≤ r) (h1 : r < rd q (x : Int)) (hu : u = pre q x + r) (c : r < rd (minL p q) (x : Int)) :
    tok p q (u + 1) = (tok p q u).set x (rd (tok p q u) (x : Int) + 1) ∧ (keptT p q (u + 1)).sum = (keptT p q u).sum + 1 := by
  have hkl := keptT_len g u
  have hn := keptT_next g u r x hx h0 h1 hu
  rw [if_pos c] at hn
  have hs : (keptT p q (u + 1)).sum = (keptT p q u).sum + 1 := by rw [hn, sum_set _ _ _ (by omega)]; omega
  have hl : lostN p q (u + 1) = lostN p q u := by unfold lostN; omega
  refine ⟨?_, hs⟩
  have t1 := tok_len g u
  have t2 := tok_len g (u + 1)
  refine list_ext_rd (by simp; omega) fun y hy => ?_
  rw [tok_rd g (u + 1) y (by omega), hl, hn]
  by_cases e : x = y
  · subst e
    rw [rd_set_same _ _ _ (by omega), rd_set_same _ _ _ (by omega), tok_rd g u x hx]
    omega
  · rw [rd_set_other _ _ _ _ (by omega) e, rd_set_other _ _ _ _ (by omega) e, tok_rd g u y (by omega)]
/-- One draw more: lost. -/
theorem next_lost (u r : Int) (x : Nat) (hx : x < p.length) (h0 : 0 ≤ r) (h1 : r < rd q (x : Int)) (hu : u = pre q x + r) (c : ¬ r < rd (minL p q) (x : Int))
    (y : Nat) (s : Int) (hy : y < p.length) (s0 : 0 ≤ s) (s1 : s < rd (resL p q) (y : Int)) (hv : lostN p q u = pre (resL p q) y + s) :
    tok p q (u + 1) = (tok p q u).set y (rd (tok p q u) (y : Int) + 1) ∧ (keptT p q (u + 1)).sum = (keptT p q u).sum := by
  have hkl := keptT_len g u
  have hrl := resL_length p q g.len
  have hn := keptT_next g u r x hx h0 h1 hu
  rw [if_neg c] at hn
  have hs : (keptT p q (u + 1)).sum = (keptT p q u).sum := by rw [hn]
  have hl : lostN p q (u + 1) = lostN p q u + 1 := by unfold lostN; omega
  refine ⟨?_, hs⟩
  have t1 := tok_len g u
  have t2 := tok_len g (u + 1)
  have hc := cnt_step (resL p q) (res_nn g) (lostN p q u) s y (by omega) s0 s1 hv
  have hcl := cnt_length (resL p q) (lostN p q u)
  refine list_ext_rd (by simp; omega) fun z hz => ?_
  rw [tok_rd g (u + 1) z (by omega), hl, hn, hc]
  by_cases e : y = z
  · subst e
    rw [rd_set_same _ _ _ (by omega), rd_set_same _ _ _ (by omega), tok_rd g u y hy]
    omega
  · rw [rd_set_other _ _ _ _ (by omega) e, rd_set_other _ _ _ _ (by omega) e, tok_rd g u z (by omega)]
theorem lost_is (u r : Int) (x : Nat) (hx : x < p.length) (h0 : 0 ≤ r) (h1 : r < rd q (x : Int)) (hu : u = pre q x + r) (c : ¬ r < rd (minL p q) (x : Int)) (he : rd (minL p q) (x : Int) = rd p (x : Int)) :
    lostN p q u = r - rd p (x : Int) + (pre q x - pre (minL p q) x) := by
  have hs := kept_sum g u r x hx h0 h1 hu
  have : mn r (rd (minL p q) (x : Int)) = rd (minL p q) (x : Int) := by unfold mn; split <;> omega
  unfold lostN
  omega
theorem kept_zero : (keptT p q 0).sum = 0 ∧ keptT p q 0 = List.replicate p.length 0 := by
  have e : keptT p q 0 = List.replicate p.length 0 := by
    have h1 := keptT_len g 0
    refine list_ext_rd (by simp; omega) fun y hy => ?_
    have hm := min_range g y (by omega)
    rw [keptT_rd g 0 y (by omega), cnt_zero q (good_nn g.wq)]
    have e1 : ∀ n : Nat, y < n → rd (List.replicate n (0 : Int)) (y : Int) = 0 := fun n hn => by simp [rd, List.getD_eq_getElem?_getD, List.getElem?_replicate, hn]
    rw [e1 _ (by have := g.len; omega), e1 _ (by omega)]
    unfold mn
    split <;> omega
  rw [e]
  exact ⟨by induction p.length <;> simp_all [List.replicate_succ], rfl⟩
theorem tok_zero : tok p q 0 = List.replicate p.length 0 := by
  obtain ⟨h1, h2⟩ := kept_zero g
  have t1 := tok_len g 0
  have hrl := resL_length p q g.len
  refine list_ext_rd (by simp; omega) fun y hy => ?_
  have hl : lostN p q 0 = 0 := by unfold lostN; omega
  rw [tok_rd g 0 y (by omega), hl, h2, cnt_zero _ (res_nn g)]
  have e1 : ∀ n : Nat, y < n → rd (List.replicate n (0 : Int)) (y : Int) = 0 := fun n hn => by simp [rd, List.getD_eq_getElem?_getD, List.getElem?_replicate, hn]
  rw [e1 _ (by omega), e1 _ (by omega)]
  rfl
theorem kept_all : keptT p q p.sum = minL p q := by
  have h1 := keptT_len g p.sum
  have hml := minL_length p q g.len
  refine list_ext_rd (by omega) fun y hy => ?_
  have hm := min_range g y (by omega)
  rw [keptT_rd g _ y (by omega), g.same, cnt_all q (good_nn g.wq)]
  unfold mn
  split <;> omega
theorem tok_all : tok p q p.sum = p := by
  have t1 := tok_len g p.sum
  have hrs := res_sum g
  have hl : lostN p q p.sum = (resL p q).sum := by unfold lostN; rw [kept_all g]; omega
  refine list_ext_rd (by omega) fun y hy => ?_
  have := res_rd g y (by omega)
  rw [tok_rd g _ y (by omega), hl, kept_all g, cnt_all _ (res_nn g), minL_rd p q g.len y (by omega)]
  omega
theorem tok_range (u : Int) (y : Nat) (hy : y < p.length) (h0 : 0 ≤ u) : 0 ≤ rd (tok p q u) (y : Int) ∧ rd (tok p q u) (y : Int) ≤ 2 * rd p (y : Int) := by
  have hm := min_range g y hy
  have hr := res_range g y hy
  have hrl := resL_length p q g.len
  have hq := good_rd g.wq y (by have := g.len; omega)
  have h1 := cnt_range q (good_nn g.wq) u h0 y (by have := g.len; omega)
  have h2 : 0 ≤ rd (cnt (resL p q) (lostN p q u)) (y : Int) ∧ rd (cnt (resL p q) (lostN p q u)) (y : Int) ≤ rd (resL p q) (y : Int) := by
    rw [cnt_rd _ _ y (by omega)]
    unfold within
    split
    · omega
    · split <;> omega
  have h3 := mn_le (rd (cnt q u) (y : Int)) (rd (minL p q) (y : Int))
  have h4 := mn_or (rd (cnt q u) (y : Int)) (rd (minL p q) (y : Int))
  rw [tok_rd g u y hy, keptT_rd g u y hy]
  rcases h4 with e | e <;> omega
theorem keptsum_range (u : Int) (h0 : 0 ≤ u) : 0 ≤ (keptT p q u).sum ∧ (keptT p q u).sum ≤ q.sum := by
  have hkl := keptT_len g u
  have hl := g.len
  have hb : ∀ y : Nat, y < p.length → 0 ≤ rd (keptT p q u) (y : Int) ∧ rd (keptT p q u) (y : Int) ≤ rd q (y : Int) := by
    intro y hy
    have hm := min_range g y hy
    have h1 := cnt_range q (good_nn g.wq) u h0 y (by omega)
    have h3 := mn_le (rd (cnt q u) (y : Int)) (rd (minL p q) (y : Int))
    have h4 := mn_or (rd (cnt q u) (y : Int)) (rd (minL p q) (y : Int))
    rw [keptT_rd g u y hy]
    rcases h4 with e | e <;> omega
  have a1 := pre_le_pre (keptT p q u) q p.length (by omega) (by omega) (fun y hy => (hb y hy).2)
  have a2 : ∀ n : Nat, n ≤ p.length → 0 ≤ pre (keptT p q u) n := by
    intro n
    induction n with
    | zero => intro _; simp [pre_zero]
    | succ n ih => intro hn; rw [pre_succ _ n (by omega)]; have := ih (by omega); have := hb n (by omega); omega
  have a3 := a2 p.length (Nat.le_refl _)
  rw [show pre (keptT p q u) p.length = (keptT p q u).sum from by rw [← hkl, pre_all]] at a1 a3
  rw [show pre q p.length = q.sum from by rw [hl, pre_all]] at a1
  omega

theorem lesser_loop (a b : List Int) (hm : p.length ≤ maxLen) (ha : a = p) (hb : b = q) : ∀ (n i : Nat) (k : Nat), n = p.length - i → i ≤ p.length → n + 1200 < k →
    heraldlaw24_CoupleTrue.l1 k p q a b (minL p q).sum (pre (minL p q) i) (p.length : Int) (i : Int) = some true := by
  have hl := g.len
  have hml := minL_length p q g.len
  have h2 := g.wp.len2
  have hs := good_sum g.wp
  have hkl := kept_le g
  intro n
  induction n with
  | zero =>
    intro i k hn hi hk
    obtain ⟨k, rfl⟩ : ∃ m, k = m + 1 := ⟨k - 1, by omega⟩
    obtain rfl : i = p.length := by omega
    simp only [heraldlaw24_CoupleTrue.l1]
    rw [if_neg (by omega), kept_some p q k (by omega)]
    simp only [Option.bind_some, errV_pair g, if_true]
    rw [ha, hb, same_some p p hm k (by omega)]
    simp only [Option.bind_some, decide_true, if_true]
    rw [same_some q q (by omega) k (by omega)]
    simp only [Option.bind_some, decide_true, if_true]
    rw [show pre (minL p q) p.length = (minL p q).sum from by rw [← hml, pre_all]]
    simp
  | succ n ih =>
    intro i k hn hi hk
    obtain ⟨k, rfl⟩ : ∃ m, k = m + 1 := ⟨k - 1, by omega⟩
    have a1 := pre_succ (minL p q) i (by omega)
    have a2 := pre_min_le g (i + 1) (by omega)
    have a3 := pre_le_sum p (good_nn g.wp) (i + 1) (by omega)
    simp only [heraldlaw24_CoupleTrue.l1]
    rw [if_pos (by omega), if_pos (by omega), if_pos (by omega), if_pos (by omega), ← minL_rd p q g.len i (by omega), ← a1, wrap_in (by omega) (by omega), wrap_in (by omega) (by omega)]
    exact ih (i + 1) k (by omega) (by omega) (by omega)

theorem true_loop (hm : p.length ≤ maxLen) (hs : p.sum ≤ 65536) : ∀ (n : Nat) (u : Int) (k : Nat), (n : Int) = p.sum - u → 0 ≤ u → 2 * n + 2000 < k →
    heraldlaw24_CoupleTrue.l0 k p q (tok p q u) (cnt q u) (keptT p q u).sum p.sum u = some true := by
  have hl := g.len
  have h2 := g.wp.len2
  have hsm := g.same
  intro n
  induction n with
  | zero =>
    intro u k hn h0 hk
    obtain ⟨k, rfl⟩ : ∃ m, k = m + 1 := ⟨k - 1, by omega⟩
    obtain rfl : u = p.sum := by omega
    simp only [heraldlaw24_CoupleTrue.l0]
    rw [if_neg (by omega), kept_all g]
    have := lesser_loop g (tok p q p.sum) (cnt q p.sum) hm (tok_all g) (by rw [hsm]; exact cnt_all q (good_nn g.wq)) p.length 0 k (by omega) (by omega) (by omega)
    rwa [pre_zero] at this
  | succ n ih =>
    intro u k hn h0 hk
    obtain ⟨k, rfl⟩ : ∃ m, k = m + 2 := ⟨k - 2, by omega⟩
    obtain ⟨x, r, hx, h3, h4, h5, hf, hc⟩ := guess_tells g u (by omega) (by omega)
    have hG : couple_Guess.f (k + 1) p q u = couple_Guess.g p q (x : Int) r := by
      unfold couple_Guess.f
      rw [both_err p q _ (by omega)]
      simp only [Option.bind_some, errV_pair g, if_true]
      rw [if_neg (by omega), hf]
    have tl := tok_len g u
    have cl := cnt_length q u
    have tr := tok_range g u
    have kr := keptsum_range g u h0
    have hgq := good_rd g.wq x (by omega)
    have hcx := cnt_range q (good_nn g.wq) u h0 x (by omega)
    have hcs := cnt_step q (good_nn g.wq) u r x (by omega) h3 h4 h5
    have hmr := minL_rd p q g.len x hx
    have hih := ih (u + 1) k (by omega) (by omega) (by omega)
    simp only [heraldlaw24_CoupleTrue.l0]
    rw [if_pos (by omega), hG]
    rcases hc with ⟨c3, hg⟩ | ⟨c3, he, y, s, g2, g3, g4, g5, g6, g7, hg⟩
    · obtain ⟨n1, n2⟩ := next_kept g u r x hx h3 h4 h5 (by rw [hmr]; exact c3)
      have hgp := good_rd g.wp x hx
      have trx := tr x hx h0
      rw [n1, n2, hcs] at hih
      rw [hg]
      simp only [Option.bind_some, if_true]
      rw [if_neg (by omega), if_neg (by omega), if_neg (by omega), if_neg (by omega)]
      simp only [bne_self_eq_false, heraldlaw24_CoupleTrue.j2, Bool.false_eq_true, if_false, if_true, Option.bind_some]
      rw [if_pos (by omega), if_pos (by omega), if_pos (by omega), if_pos (by omega), Int.toNat_natCast, wrap_in (a := rd (tok p q u) (x : Int) + 1) (by omega) (by omega), wrap_in (a := rd (cnt q u) (x : Int) + 1) (by omega) (by omega), wrap_in (a := (keptT p q u).sum + 1) (by omega) (by omega), wrap_in (a := u + 1) (by omega) (by omega)]
      exact hih
    · have hv := lost_is g u r x hx h3 h4 h5 (by rw [hmr]; omega) (by rw [hmr]; exact he)
      obtain ⟨n1, n2⟩ := next_lost g u r x hx h3 h4 h5 (by rw [hmr]; omega) y s g2 g3 g4 (by omega)
      have hgp := good_rd g.wp y g2
      have tryy := tr y g2 h0
      rw [n1, n2, hcs] at hih
      rw [hg]
      simp only [Option.bind_some, if_true]
      rw [if_neg (by omega), if_neg (by omega), if_neg (by omega), if_neg (by omega)]
      simp only [heraldlaw24_CoupleTrue.j2, Bool.false_eq_true, if_false, Option.bind_some]
      rw [if_pos (by omega), if_pos (by omega), if_pos (by omega), if_pos (by omega), Int.toNat_natCast, Int.toNat_natCast, wrap_in (a := rd (tok p q u) (y : Int) + 1) (by omega) (by omega), wrap_in (a := rd (cnt q u) (x : Int) + 1) (by omega) (by omega), wrap_in (a := u + 1) (by omega) (by omega)]
      exact hih
end

theorem CoupleTrue : heraldlaw24_CoupleTrue.Pure := by
  intro p q hm hr _ hm2 hr2 _
  obtain ⟨k, hk⟩ : ∃ k, k = 140000 := ⟨_, rfl⟩
  refine ⟨k + 1, ?_⟩
  unfold heraldlaw24_CoupleTrue.f
  rw [awake_some _ (by omega), sum_some p _ (by omega)]
  simp only [Option.bind_some, if_true]
  by_cases gp : IsWts p
  rotate_left
  · rw [if_neg gp, if_pos rfl]
    simp only [heraldlaw24_CoupleTrue.j0, if_true]
  have hs := good_sum gp
  rw [if_pos gp, if_neg (by omega)]
  by_cases c1 : p.sum > 65536
  · rw [if_pos c1]
    simp only [heraldlaw24_CoupleTrue.j0, if_true]
  rw [if_neg c1, sum_some q _ (by omega)]
  simp only [Option.bind_some]
  by_cases gq : IsWts q
  rotate_left
  · rw [if_neg gq, if_neg (by omega)]
    simp only [heraldlaw24_CoupleTrue.j0, if_true]
  rw [if_pos gq]
  by_cases e1 : q.sum = p.sum
  rotate_left
  · rw [if_neg e1]
    simp only [heraldlaw24_CoupleTrue.j0, if_true]
  rw [if_pos e1]
  by_cases e2 : (p.length : Int) = (q.length : Int)
  rotate_left
  · have : ((p.length : Int) != (q.length : Int)) = true := by simpa using e2
    simp only [this, heraldlaw24_CoupleTrue.j0, if_true]
  have g : Pair p q := ⟨gp, gq, e1.symm, by omega⟩
  have h2 := gp.len2
  have : ((p.length : Int) != (q.length : Int)) = false := by simpa using e2
  simp only [this, heraldlaw24_CoupleTrue.j0, Bool.false_eq_true, if_false]
  rw [if_pos (by omega), if_pos (by omega), Int.toNat_natCast]
  obtain ⟨n, hn⟩ := Int.eq_ofNat_of_zero_le (show 0 ≤ p.sum by omega)
  have := true_loop g hm (by omega) n 0 k (by omega) (by omega) (by omega)
  rw [tok_zero g, (kept_zero g).1, cnt_zero q (good_nn g.wq), ← g.len] at this
  exact this
end Go.Proofs.Ytldbdifdldmgfaa.Pure
