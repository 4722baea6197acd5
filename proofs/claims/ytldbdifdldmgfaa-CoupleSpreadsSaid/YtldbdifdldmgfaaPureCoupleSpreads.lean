/- For every three rows of numbers the law CoupleSpreads returns true: Spread answers as the document's reference does; it is 0 just where both are the same, the same both ways, and no way round is shorter. Conditions: none but those of the given statement. -/
import Derived.Test.YtldbdifdldmgfaaEvB
import Derived.Test.YtldbdifdldmgfaaPAllx11
namespace Go.Proofs.Ytldbdifdldmgfaa.Pure
open Go.RowKit Go.Proofs.Ytldbdifdldmgfaa.PAll Go.Proofs.Ytldbdifdldmgfaa.Math Go.Proofs.YtldbdifdldmgfaaW.PrintWords Go.Proofs.YtldbdifdldmgfaaW.PrintLast Go.Proofs.YtldbdifdldmgfaaW.PrintMore
set_option linter.unusedVariables false
set_option linter.unusedSimpArgs false

def sprV (p q : List Int) : Int × Int := if errV p q = 0 then (p.sum - (minL p q).sum, 0) else (0, errV p q)
theorem pair_of {p q : List Int} (h : errV p q = 0) : Pair p q := by
  by_cases g : Pair p q
  · exact g
  · exact absurd h (errV_no g)
theorem cspr_some (p q : List Int) (k : Nat) (hk : 600 < k) : couple_Spread.f k p q = some (sprV p q) := by
  unfold couple_Spread.f sprV
  rw [both_err p q k hk]
  simp only [Option.bind_some]
  by_cases e : errV p q = 0
  · have g := pair_of e
    have hs := good_sum g.wp
    have hk2 := kept_le g
    simp only [if_pos e, if_true]
    rw [kept_some p q k hk]
    simp only [Option.bind_some, if_pos e]
    rw [wrap_in (by omega) (by omega)]
  · simp only [if_neg e]
theorem rspr_some (p q : List Int) (k : Nat) (hk : 600 < k) : heraldref24_Spread.f (k + 1) p q = some (sprV p q) := by
  unfold heraldref24_Spread.f sprV
  rw [refkept_some p q k hk]
  simp only [Option.bind_some]
  by_cases e : errV p q = 0
  · have g := pair_of e
    have hs := good_sum g.wp
    have hk2 := kept_le g
    simp only [if_pos e, if_true]
    rw [sum_some p _ (by omega), if_pos g.wp]
    simp only [Option.bind_some]
    rw [wrap_in (by omega) (by omega)]
  · simp only [if_neg e]
/-- Nothing is lost just where both are the same. -/
theorem spread_zero {p q : List Int} (g : Pair p q) : p.sum - (minL p q).sum = 0 ↔ p = q := by
  have hl := g.len
  have hml := minL_length p q g.len
  constructor
  · intro h
    refine list_ext_rd g.len fun x hx => ?_
    have a1 := pre_succ (resL p q) x (by rw [resL_length p q g.len]; exact hx)
    have a2 := pre_le_sum (resL p q) (res_nn g) (x + 1) (by rw [resL_length p q g.len]; omega)
    have a3 := pre_nonneg (resL p q) (res_nn g) x (by rw [resL_length p q g.len]; omega)
    have a4 := res_sum g
    have a5 := res_range g x hx
    have a6 := res_rd g x hx
    have b1 := pre_succ (resL q p) x (by rw [resL_length q p g.len.symm]; omega)
    have b2 := pre_le_sum (resL q p) (res_nn g.symm) (x + 1) (by rw [resL_length q p g.len.symm]; omega)
    have b3 := pre_nonneg (resL q p) (res_nn g.symm) x (by rw [resL_length q p g.len.symm]; omega)
    have b4 := res_sum g.symm
    have b5 := res_range g.symm x (by omega)
    have b6 := res_rd g.symm x (by omega)
    rw [minL_comm q p] at b4
    rw [mn_comm] at b6
    have := g.same
    omega
  · rintro rfl
    have a4 := res_sum g
    have : (resL p p).sum = pre (resL p p) (resL p p).length := (pre_all _).symm
    have z : ∀ n : Nat, n ≤ p.length → pre (resL p p) n = 0 := by
      intro n
      induction n with
      | zero => intro _; exact pre_zero _
      | succ n ih =>
        intro hn
        rw [pre_succ _ n (by rw [resL_length p p rfl]; omega), ih (by omega), res_rd g n (by omega)]
        have : mn (rd p (n : Int)) (rd p (n : Int)) = rd p (n : Int) := by rcases mn_or (rd p (n : Int)) (rd p (n : Int)) with e | e <;> exact e
        omega
    rw [resL_length p p rfl, z _ (Nat.le_refl _)] at this
    omega
/-- No way round is shorter. -/
theorem spread_tri {p q r : List Int} (h1 : Pair p r) (h2 : Pair r q) : p.sum - (minL p q).sum ≤ (p.sum - (minL p r).sum) + (r.sum - (minL r q).sum) := by
  have l1 := h1.len
  have l2 := h2.len
  have g : Pair p q := ⟨h1.wp, h2.wq, h1.same.trans h2.same, h1.len.trans h2.len⟩
  have key : ∀ n : Nat, n ≤ p.length → pre (minL p r) n + pre (minL r q) n ≤ pre r n + pre (minL p q) n := by
    intro n
    induction n with
    | zero => intro _; simp [pre_zero]
    | succ n ih =>
      intro hn
      have := ih (by omega)
      rw [pre_succ _ n (by rw [minL_length p r l1]; omega), pre_succ _ n (by rw [minL_length r q l2]; omega), pre_succ r n (by omega), pre_succ _ n (by rw [minL_length p q g.len]; omega), minL_rd p r l1 n (by omega), minL_rd r q l2 n (by omega), minL_rd p q g.len n (by omega)]
      unfold mn
      repeat' split
      all_goals omega
  have h := key p.length (Nat.le_refl _)
  rw [show pre (minL p r) p.length = (minL p r).sum from by rw [← minL_length p r l1, pre_all], show pre (minL r q) p.length = (minL r q).sum from by rw [show p.length = (minL r q).length from by rw [minL_length r q l2]; exact l1, pre_all], show pre r p.length = r.sum from by rw [l1, pre_all], show pre (minL p q) p.length = (minL p q).sum from by rw [← minL_length p q g.len, pre_all]] at h
  omega

theorem CoupleSpreads : heraldlaw24_CoupleSpreads.Pure := by
  intro p q r hm hr _ hm2 hr2 _ _ _ _
  obtain ⟨k, hk⟩ : ∃ k, k = 2000 + p.length + q.length := ⟨_, rfl⟩
  refine ⟨k + 4, ?_⟩
  unfold heraldlaw24_CoupleSpreads.f
  rw [awake_some _ (by omega)]
  simp only [Option.bind_some, if_true]
  rw [cspr_some p q _ (by omega), rspr_some p q (k + 3) (by omega)]
  simp only [Option.bind_some, if_true, bne_self_eq_false, heraldlaw24_CoupleSpreads.j0, Bool.false_eq_true, if_false]
  by_cases e : errV p q = 0
  · have g := pair_of e
    have hv : sprV p q = (p.sum - (minL p q).sum, 0) := by unfold sprV; rw [if_pos e]
    have hv2 : sprV q p = (p.sum - (minL p q).sum, 0) := by unfold sprV; rw [if_pos (errV_pair g.symm), minL_comm q p, g.same]
    rw [hv]
    simp only [if_true]
    rw [cspr_some q p _ (by omega), hv2]
    simp only [Option.bind_some, if_true]
    rw [same_some p q hm _ (by omega)]
    simp only [Option.bind_some]
    have hb : ((p.sum - (minL p q).sum == 0) != decide (p = q)) = false := by
      by_cases c : p = q
      · have := (spread_zero g).mpr c
        rw [this, decide_eq_true c]
        rfl
      · have : ¬ p.sum - (minL p q).sum = 0 := fun z => c ((spread_zero g).mp z)
        simp [this, c]
    rw [hb]
    simp only [heraldlaw24_CoupleSpreads.j1, Bool.false_eq_true, if_false]
    rw [cspr_some p r _ (by omega), cspr_some r q _ (by omega)]
    simp only [Option.bind_some]
    by_cases e1 : errV p r = 0
    · by_cases e2 : errV r q = 0
      · have g1 := pair_of e1
        have g2 := pair_of e2
        have hv3 : sprV p r = (p.sum - (minL p r).sum, 0) := by unfold sprV; rw [if_pos e1]
        have hv4 : sprV r q = (r.sum - (minL r q).sum, 0) := by unfold sprV; rw [if_pos e2]
        rw [hv3, hv4]
        simp only [if_true]
        have h1 := kept_le g1
        have h2 := kept_le g2
        have h3 := good_sum g1.wp
        have h4 := good_sum g2.wp
        rw [wrap_in (by omega) (by omega), decide_eq_true (spread_tri g1 g2)]
      · have hv4 : (sprV r q).2 = errV r q := by unfold sprV; rw [if_neg e2]
        rw [hv4, if_neg e2]
        split <;> rfl
    · have hv3 : (sprV p r).2 = errV p r := by unfold sprV; rw [if_neg e1]
      rw [hv3, if_neg e1]
  · have hv : (sprV p q).2 = errV p q := by unfold sprV; rw [if_neg e]
    rw [hv, if_neg e]
end Go.Proofs.Ytldbdifdldmgfaa.Pure
