/- Texts of this session and printed texts, merged, what is not needed left out: TxE, SgParts, SgAwake, PureSingleDecimal. -/
import Derived.Test.YteecekhfpfnepaaDoorTdD0
import Derived.Test.YteecekhfpfnepaaDoorTdD1
import Derived.Test.YteecekhfpfnepaaDoorTdD2
import Derived.Test.YteecekhfpfnepaaDoorTdD3
import Derived.Test.YteecekhfpfnepaaDoorTdD4
import Derived.DataShut
section
namespace Go.Proofs.YteecekhfpfnepaaDoor.Tx
open Go.RowKit Go.Proofs.YteecekhfpfnepaaDoor.PAll Go.Proofs.YteecekhfpfnepaaDoor.Nums Go.Proofs.YteecekhfpfnepaaDoorW.PrintWords Go.Proofs.YteecekhfpfnepaaDoorW.PrintLast Go.Proofs.YteecekhfpfnepaaDoorW.PrintMore
open Go.Proofs.YteecekhfpfnepaaDoor.Sg (NR sgn rung rung_scale rung_le join_div scale_join Fin32)
set_option linter.unusedVariables false
set_option linter.unusedSimpArgs false
theorem stk_spec (N D : Nat) (hD : 0 < D) : stk N D * D = 2 * N ∨ (stk N D % 2 = 1 ∧ (stk N D - 1) * D < 2 * N ∧ 2 * N < (stk N D + 1) * D) := by
  have h := Nat.mod_add_div N D
  have hl := Nat.mod_lt N hD
  obtain ⟨r, hr⟩ : ∃ r, N % D = r := ⟨_, rfl⟩
  obtain ⟨q, hq⟩ : ∃ q, N / D = q := ⟨_, rfl⟩
  rw [hr] at hl
  rw [hr, hq] at h
  have hs : stk N D = 2 * q + if r = 0 then 0 else 1 := by unfold stk; rw [hr, hq]
  have e : D * q = q * D := Nat.mul_comm _ _
  by_cases c : r = 0
  · rw [if_pos c, Nat.add_zero] at hs
    left
    rw [hs, Nat.mul_assoc, ← h]
    omega
  · rw [if_neg c] at hs
    right
    rw [hs]
    have e1 : (2 * q + 1 - 1) * D = 2 * (q * D) := by rw [Nat.add_sub_cancel, Nat.mul_assoc]
    have e2 : (2 * q + 1 + 1) * D = 2 * (q * D) + 2 * D := by rw [show 2 * q + 1 + 1 = 2 * (q + 1) by omega, Nat.mul_assoc, Nat.add_mul]; omega
    rw [e1, e2]
    generalize q * D = z at *
    omega
/-- A quotient that is M over a power of two, M below 2^24: the nearest is that of M. -/
theorem stk_exact (M N D d : Nat) (f : Int) (hD : 0 < D) (h : M * 2 ^ d * D = 2 * N) : rung (stk N D) f = rung M (f + d) :=
  join_div M (stk N D) M 1 (2 * N) D d f (by omega) hD (by rw [h, Nat.mul_one]) (.inl (Nat.mul_one _)) (stk_spec N D hD)
theorem NR_false (y : Nat) (e : Int) : NR false y e = (rung y e : Int) := by unfold NR; show (0 : Int) + _ = _; omega
theorem wf_pow_lt {a b : Nat} (h : 2 ^ a < 2 ^ b) : a < b := (Nat.pow_lt_pow_iff_right (by omega)).mp h
theorem ten_len {V k : Nat} (h : V < 10 ^ k) : (dgs 10 V).length ≤ k := (dgs_len_le (by omega)).mpr h
/-- Digits that come to M times 2^e, read with that power of ten that Text has. -/
theorem near_int (M : Nat) (e : Nat) (hM : M < 16777216) (he : e ≤ 167) (L : List Int) (hL : Dd L) (hl : L.length ≤ 240) (hv : pv 0 L = M * 2 ^ e) : Ev (fun k => single_nearest.f k (strOfNums L) 0) (rung M (e : Int) : Int) := by
  have hp := Nat.pow_pos (n := e) (show 0 < 2 by omega)
  have hV : M * 2 ^ e < 10 ^ 58 := by
    have h1 : 2 ^ e ≤ 2 ^ 167 := Nat.pow_le_pow_right (by omega) he
    have h2 : M * 2 ^ e ≤ 16777216 * 2 ^ 167 := Nat.mul_le_mul (by omega) h1
    have h3 : (16777216 : Nat) * 2 ^ 167 < 10 ^ 58 := by decide
    omega
  have hlen := ten_len hV
  refine nearest_head L 0 hL hl (by omega) (by omega) _ ?_ ?_ ?_ ?_
  · intro h0
    rw [hv] at h0
    have : M = 0 := by
      rcases Nat.mul_eq_zero.mp h0 with h | h
      · exact h
      · omega
    subst this
    rfl
  · intro h0 h1; omega
  · intro h0 h1; rw [hv] at h1; omega
  · intro h0 _ _
    rw [hv] at h0 ⊢
    have e1 : M * 2 ^ e * 10 ^ (0 : Int).toNat = M * 2 ^ e := Nat.mul_one _
    have e2 : (10 : Nat) ^ (-(0 : Int)).toNat = 1 := rfl
    rw [e1, e2]
    obtain ⟨x, y, b1, b2, hr⟩ := ratio_ev (M * 2 ^ e) 1 h0 (by omega) (by have := bl_lt_ten hV; omega) (by decide)
    rw [Nat.one_mul] at b1 hr
    have hd : y < e + x + 1 := by
      have h1 : 549755813888 * 2 ^ y < 16777216 * 2 ^ (e + x) := by
        have : M * 2 ^ e * 2 ^ x ≤ 16777216 * 2 ^ (e + x) := by
          rw [Nat.pow_add, Nat.mul_assoc]; exact Nat.mul_le_mul_right _ (by omega)
        omega
      have h2 : 2 ^ y < 2 ^ (e + x) := by
        generalize 2 ^ y = a at *
        generalize 2 ^ (e + x) = b at *
        omega
      have := wf_pow_lt h2
      omega
    obtain ⟨d, hdd⟩ : ∃ d, d + y = e + x + 1 := ⟨e + x + 1 - y, by omega⟩
    have hx := stk_exact M (M * 2 ^ e * 2 ^ x) (2 ^ y) d ((y : Int) - x - 1) (Nat.pow_pos (by omega)) (by
      rw [Nat.mul_assoc, ← Nat.pow_add, hdd, Nat.pow_succ, Nat.pow_add]
      simp only [Nat.mul_assoc, Nat.mul_comm 2, Nat.mul_left_comm 2])
    rw [NR_false, hx, show (y : Int) - x - 1 + d = (e : Int) by omega] at hr
    exact hr
theorem five_len (M p : Nat) (hM : M ≠ 0) (hp : p ≤ 149) : p ≤ (dgs 10 (M * 5 ^ p)).length + 60 := by
  by_cases c : p ≤ 60
  · omega
  · have h1 : 10 ^ (p - 61) ≤ M * 5 ^ p := by
      obtain ⟨q, rfl⟩ : ∃ q, p = q + 61 := ⟨p - 61, by omega⟩
      rw [show q + 61 - 61 = q by omega, Nat.pow_add]
      have h2 : 10 ^ q = 2 ^ q * 5 ^ q := by rw [← Nat.mul_pow]
      have h3 : 2 ^ q ≤ 2 ^ 88 := Nat.pow_le_pow_right (by omega) (by omega)
      have h4 : (2 : Nat) ^ 88 ≤ 5 ^ 61 := by decide
      have h5 : 2 ^ q * 5 ^ q ≤ 5 ^ 61 * 5 ^ q := Nat.mul_le_mul_right _ (by omega)
      rw [h2, Nat.mul_comm (5 ^ q) (5 ^ 61)]
      exact Nat.le_trans h5 (Nat.le_mul_of_pos_left _ (by omega))
    have h2 := (dgs_lt_len (b := 10) (n := M * 5 ^ p) (i := p - 61) (by omega)).mpr (by
      have := (Nat.le_div_iff_mul_le (Nat.pow_pos (n := p - 61) (show 0 < 10 by omega))).mpr (show 1 * 10 ^ (p - 61) ≤ M * 5 ^ p by omega)
      omega)
    omega
theorem near_frac (M p : Nat) (hM0 : M ≠ 0) (hM : M < 16777216) (hp : p ≤ 149) (L : List Int) (hL : Dd L) (hl : L.length ≤ 240) (hv : pv 0 L = M * 5 ^ p) : Ev (fun k => single_nearest.f k (strOfNums L) (-(p : Int))) (rung M (-(p : Int)) : Int) := by
  have hlo := five_len M p hM0 hp
  have hV : M * 5 ^ p < 10 ^ (8 + p) := by
    have h1 : 5 ^ p ≤ 10 ^ p := Nat.pow_le_pow_left (by omega) p
    have h2 : M * 5 ^ p ≤ 16777216 * 10 ^ p := Nat.mul_le_mul (by omega) h1
    have h3 := Nat.pow_pos (n := p) (show 0 < 10 by omega)
    rw [Nat.pow_add]
    generalize 10 ^ p = z at *
    omega
  have hhi := ten_len hV
  have hV0 : M * 5 ^ p ≠ 0 := Nat.mul_ne_zero hM0 (Nat.ne_of_gt (Nat.pow_pos (by omega)))
  refine nearest_head L (-(p : Int)) hL hl (by omega) (by omega) _ ?_ ?_ ?_ ?_
  · intro h0; rw [hv] at h0; exact absurd h0 hV0
  · intro h0 h1; rw [hv] at h1; omega
  · intro h0 h1; rw [hv] at h1; omega
  · intro _ _ _
    rw [hv]
    have e1 : M * 5 ^ p * 10 ^ (-(p : Int)).toNat = M * 5 ^ p := by rw [show (-(p : Int)).toNat = 0 by omega, Nat.pow_zero, Nat.mul_one]
    have e2 : (10 : Nat) ^ (-(-(p : Int))).toNat = 10 ^ p := by rw [Int.neg_neg, Int.toNat_natCast]
    rw [e1, e2]
    obtain ⟨x, y, b1, b2, hr⟩ := ratio_ev (M * 5 ^ p) (10 ^ p) hV0 (Nat.ne_of_gt (Nat.pow_pos (by omega))) (by have := bl_lt_ten hV; omega) (by have := bl_ten p; omega)
    have h10 : 10 ^ p = 2 ^ p * 5 ^ p := by rw [← Nat.mul_pow]
    have hd : p + y < x + 1 := by
      have h1 : 5 ^ p * (549755813888 * 2 ^ (p + y)) < 5 ^ p * (16777216 * 2 ^ x) := by
        have g1 : 5 ^ p * (549755813888 * 2 ^ (p + y)) = 549755813888 * (10 ^ p * 2 ^ y) := by
          rw [h10, Nat.pow_add]
          simp only [Nat.mul_assoc, Nat.mul_comm (5 ^ p), Nat.mul_left_comm (5 ^ p)]
        have g2 : M * 5 ^ p * 2 ^ x ≤ 5 ^ p * (16777216 * 2 ^ x) := by
          rw [Nat.mul_comm M, Nat.mul_assoc]
          exact Nat.mul_le_mul_left _ (Nat.mul_le_mul_right _ (by omega))
        omega
      have h1 := Nat.lt_of_mul_lt_mul_left h1
      have h2 : 2 ^ (p + y) < 2 ^ x := by
        generalize 2 ^ (p + y) = a at *
        generalize 2 ^ x = b at *
        omega
      have := wf_pow_lt h2
      omega
    obtain ⟨d, hdd⟩ : ∃ d, d + (p + y) = x + 1 := ⟨x + 1 - (p + y), by omega⟩
    have hx := stk_exact M (M * 5 ^ p * 2 ^ x) (10 ^ p * 2 ^ y) d ((y : Int) - x - 1) (Nat.mul_pos (Nat.pow_pos (by omega)) (Nat.pow_pos (by omega))) (by
      have g : 2 ^ d * (2 ^ p * 2 ^ y) = 2 ^ x * 2 := by rw [← Nat.pow_add, ← Nat.pow_add, hdd, Nat.pow_succ]
      rw [h10]
      calc M * 2 ^ d * (2 ^ p * 5 ^ p * 2 ^ y) = M * 5 ^ p * (2 ^ d * (2 ^ p * 2 ^ y)) := by
            simp only [Nat.mul_assoc, Nat.mul_comm (5 ^ p), Nat.mul_left_comm (5 ^ p)]
        _ = 2 * (M * 5 ^ p * 2 ^ x) := by rw [g, ← Nat.mul_assoc, Nat.mul_comm])
    rw [NR_false, hx, show (y : Int) - x - 1 + d = -(p : Int) by omega] at hr
    exact hr
/-- Where digits end that stand in a text. -/
theorem dE_digits (X Y : List Int) (hX : By X) (hY : By Y) (hy : ∀ c ∈ Y.head?, ¬ (48 ≤ c ∧ c ≤ 57)) : ∀ (D : List Int), Dd D → ∀ X, By X → dE (strOfNums (X ++ (D ++ Y))) X.length = X.length + D.length
  | [], _, X, hX => by
    have hb : By (X ++ ([] ++ Y)) := hX.app hY
    rw [dE_no]
    · rfl
    · rintro ⟨h1, h2, h3⟩
      rw [nums_size, List.length_append] at h1
      rw [nums_bt hb X.length (by rw [List.length_append]; omega)] at h2 h3
      cases Y with
      | nil => simp at h1
      | cons c Y =>
        simp only [List.nil_append, List.getElem_append_right (Nat.le_refl _), Nat.sub_self, List.getElem_cons_zero] at h2 h3
        exact hy c (by simp) ⟨h2, h3⟩
  | c :: D, hD, X, hX => by
    have hc := hD c (by simp)
    have hDD : Dd D := fun x hx => hD x (by simp [hx])
    have hb : By (X ++ (c :: D ++ Y)) := hX.app (hD.by.app hY)
    have ih := dE_digits X Y hX hY hy D hDD (X ++ [c]) (hX.app (by intro x hx; have := List.mem_singleton.mp hx; omega))
    have e : X ++ [c] ++ (D ++ Y) = X ++ (c :: D ++ Y) := by simp
    rw [e, List.length_append, List.length_singleton] at ih
    rw [dE_yes, ih, List.length_cons]
    · omega
    · refine ⟨?_, ?_⟩
      · rw [nums_size]; simp
      · rw [nums_bt hb X.length (by simp)]
        simp only [List.cons_append, List.getElem_append_right (Nat.le_refl _), Nat.sub_self, List.getElem_cons_zero]
        exact hc
theorem seg_mid (X D Y : List Int) (h : By (X ++ (D ++ Y))) : seg (strOfNums (X ++ (D ++ Y))) X.length (X.length + D.length) = D := by
  unfold seg
  rw [bytesOf_nums h, ← List.append_assoc, List.take_append_of_le_length (by simp), List.take_of_length_le (by simp), List.drop_left]
theorem head_facts (s : Bool) (T : List Int) (c : Int) (hT : By (c :: T)) (hc : 48 ≤ c ∧ c ≤ 57) : ng (strOfNums (sg s ++ c :: T)) = s ∧ i0 (strOfNums (sg s ++ c :: T)) = (sg s).length ∧ fb (strOfNums (sg s ++ c :: T)) = c := by
  have hb : By (sg s ++ c :: T) := (sg_by s).app hT
  have h1 : ng (strOfNums (sg s ++ c :: T)) = s := by
    unfold ng
    have hg := nums_bt hb 0 (by simp; omega)
    have hz : 0 < (strOfNums (sg s ++ c :: T)).size := by rw [nums_size]; simp; omega
    cases s with
    | true => exact decide_eq_true ⟨hz, hg⟩
    | false =>
      refine decide_eq_false (fun h => ?_)
      have h2 : c = 45 := hg.symm.trans h.2
      omega
  have h2 : i0 (strOfNums (sg s ++ c :: T)) = (sg s).length := by
    unfold i0; rw [h1]; cases s <;> rfl
  refine ⟨h1, h2, ?_⟩
  unfold fb
  rw [h2, if_pos (by rw [nums_size]; simp), nums_bt hb _ (by simp)]
  simp
theorem parse_fin (s : Bool) (M : Nat) (e : Int) (hM : M % 2 = 1 ∨ (M = 0 ∧ e = 0)) (hMb : M < 16777216) (he0 : -149 ≤ e) (he1 : e ≤ 167) (hl : (sg s ++ txt M e).length ≤ 200) : Ev (fun k => single_Parse.f k (strOfNums (sg s ++ txt M e))) (sgn s + (rung M e : Int), 0, 0) := by
  have hrl : rung M e < 2147483648 := by have := rung_le M e; omega
  by_cases c : 0 ≤ e
  · obtain ⟨n, rfl⟩ := Int.eq_ofNat_of_zero_le c
    have ht : txt M (n : Int) = dz (M * 2 ^ n) := by unfold txt; rw [if_pos c, Int.toNat_natCast]
    have hdz : Dd (dz (M * 2 ^ n)) ∧ pv 0 (dz (M * 2 ^ n)) = M * 2 ^ n ∧ dz (M * 2 ^ n) ≠ [] := by
      unfold dz
      by_cases c0 : M * 2 ^ n = 0
      · rw [if_pos c0]
        exact ⟨by intro x hx; have := List.mem_singleton.mp hx; omega, by rw [c0]; rfl, by simp⟩
      · rw [if_neg c0]
        refine ⟨dcs_dd _, pv_dcs _, ?_⟩
        intro h
        have h3 := dcs_length (M * 2 ^ n)
        have h4 := dgs_len_pos (b := 10) (by omega) c0
        rw [h] at h3
        rw [← h3] at h4
        exact absurd h4 (by simp)
    rw [ht] at hl ⊢
    obtain ⟨hd, hpv, hne⟩ := hdz
    obtain ⟨D, hD⟩ : ∃ D, dz (M * 2 ^ n) = D := ⟨_, rfl⟩
    rw [hD] at hl hd hpv hne ⊢
    obtain ⟨d0, D', rfl⟩ : ∃ d0 D', D = d0 :: D' := by cases D with | nil => exact absurd rfl hne | cons a b => exact ⟨a, b, rfl⟩
    obtain ⟨g1, g2, g3⟩ := head_facts s D' d0 hd.by (hd d0 (by simp))
    have hb : By (sg s ++ (d0 :: D' ++ [])) := by rw [List.append_nil]; exact (sg_by s).app hd.by
    have hE := dE_digits (sg s) [] (sg_by s) By.nil (by simp) (d0 :: D') hd (sg s) (sg_by s)
    have hS := seg_mid (sg s) (d0 :: D') [] hb
    rw [List.append_nil] at hE hS
    have hsz : (strOfNums (sg s ++ d0 :: D')).size = (sg s).length + (d0 :: D').length := by rw [nums_size, List.length_append]
    obtain ⟨S, hSS⟩ : ∃ S, strOfNums (sg s ++ d0 :: D') = S := ⟨_, rfl⟩
    rw [hSS] at g1 g2 g3 hE hS hsz ⊢
    have hc0 := hd d0 (by simp)
    have hsc : scS S (i0 S) = .good S.size (i0 S) S.size S.size S.size false S.size := by
      unfold scS
      rw [g2, hE, if_neg (by simp), ← hsz, if_neg (by omega)]
      unfold scX
      rw [if_neg (by omega)]
    have hpos : 0 < (sg s).length + (d0 :: D').length := by simp; omega
    rw [List.length_append] at hl
    have hnear := near_int M n hMb (by omega) (d0 :: D') hd (by omega) hpv
    have := parse_good S (by omega) (by omega) (by omega) _ _ _ _ _ _ _ hsc (rung M (n : Int)) hrl (by
      refine Ev.congr (fun k => ?_) hnear
      rw [extract_nil, seg_self, Nat.sub_self]
      have e1 : S.extract (i0 S) S.size ++ (⟨#[]⟩ : ByteArray) = strOfNums (d0 :: D') := by
        apply bytesOf_inj
        rw [bytesOf_append, seg_bytes, g2, hsz, hS, bytesOf_nums hd.by]
        show d0 :: D' ++ [] = _
        rw [List.append_nil]
      rw [e1]
      rfl)
    rw [if_neg (by omega), g1] at this
    exact this
  · obtain ⟨p, hp⟩ : ∃ p : Nat, e = -(p : Int) := ⟨(-e).toNat, by omega⟩
    subst hp
    have hodd : M % 2 = 1 := by omega
    have ht : txt M (-(p : Int)) = pnt p (M * 5 ^ p) := by unfold txt; rw [if_neg c, Int.neg_neg, Int.toNat_natCast]
    have hpl := pad_length p (M * 5 ^ p)
    have hpd := pad_dd p (M * 5 ^ p)
    have hpv : pv 0 (pad p (M * 5 ^ p)) = M * 5 ^ p := by unfold pad; rw [pv_zeros, pv_dcs]
    rw [ht] at hl ⊢
    unfold pnt at hl ⊢
    obtain ⟨T, hT⟩ : ∃ T, pad p (M * 5 ^ p) = T := ⟨_, rfl⟩
    rw [hT] at hpl hpd hpv hl ⊢
    obtain ⟨A, hA⟩ : ∃ A, T.take (T.length - p) = A := ⟨_, rfl⟩
    obtain ⟨B, hB⟩ : ∃ B, T.drop (T.length - p) = B := ⟨_, rfl⟩
    have hAB : A ++ B = T := by rw [← hA, ← hB, List.take_append_drop]
    have hAl : A.length = T.length - p := by rw [← hA, List.length_take]; omega
    have hBl : B.length = p := by rw [← hB, List.length_drop]; omega
    rw [hA, hB] at hl ⊢
    rw [← hAB] at hpd hpv
    obtain ⟨d0, A', rfl⟩ : ∃ d0 A', A = d0 :: A' := by
      cases A with
      | nil => simp at hAl; omega
      | cons a b => exact ⟨a, b, rfl⟩
    have hpt : By ([46] : List Int) := by simp [By]
    have hBb : By ([46] ++ B) := hpt.app hpd.right.by
    obtain ⟨g1, g2, g3⟩ := head_facts s (A' ++ ([46] ++ B)) d0 (by have := hpd.left.by.app hBb; exact this) (hpd.left d0 (by simp))
    have hb : By (sg s ++ (d0 :: A' ++ ([46] ++ B))) := (sg_by s).app (hpd.left.by.app hBb)
    have hE1 := dE_digits (sg s) ([46] ++ B) (sg_by s) hBb (by intro c hc; simp at hc; omega) (d0 :: A') hpd.left (sg s) (sg_by s)
    have hX2 : By (sg s ++ (d0 :: A' ++ [46])) := (sg_by s).app (hpd.left.by.app hpt)
    have hE2 := dE_digits (sg s) [] (sg_by s) By.nil (by simp) B hpd.right (sg s ++ (d0 :: A' ++ [46])) hX2
    have hS1 := seg_mid (sg s) (d0 :: A') ([46] ++ B) hb
    have hb2 : By (sg s ++ (d0 :: A' ++ [46]) ++ (B ++ [])) := by rw [List.append_nil]; exact hX2.app hpd.right.by
    have hS2 := seg_mid (sg s ++ (d0 :: A' ++ [46])) B [] hb2
    have eL : sg s ++ (d0 :: A' ++ [46]) ++ (B ++ []) = sg s ++ (d0 :: A' ++ ([46] ++ B)) := by simp
    rw [eL] at hE2 hS2
    have hdot : bt (strOfNums (sg s ++ (d0 :: A' ++ ([46] ++ B)))) (((sg s).length + (d0 :: A').length : Nat) : Int) = 46 := by
      rw [nums_bt hb _ (by simp)]
      have : sg s ++ (d0 :: A' ++ ([46] ++ B)) = (sg s ++ d0 :: A') ++ (46 :: B) := by simp
      simp only [this]
      rw [List.getElem_append_right (by simp)]
      simp
    have hsz : (strOfNums (sg s ++ (d0 :: A' ++ ([46] ++ B)))).size = (sg s).length + (d0 :: A').length + 1 + B.length := by rw [nums_size]; simp; omega
    have e12 : (sg s ++ (d0 :: A' ++ [46])).length = (sg s).length + (d0 :: A').length + 1 := by simp; omega
    rw [e12] at hE2 hS2
    have hll : (sg s ++ (d0 :: A' ++ ([46] ++ B))).length = (sg s).length + (d0 :: A').length + 1 + B.length := by simp; omega
    rw [hll] at hl
    have eg : sg s ++ d0 :: (A' ++ ([46] ++ B)) = sg s ++ (d0 :: A' ++ ([46] ++ B)) := rfl
    rw [eg] at g1 g2 g3
    obtain ⟨S, hSS⟩ : ∃ S, strOfNums (sg s ++ (d0 :: A' ++ ([46] ++ B))) = S := ⟨_, rfl⟩
    rw [hSS] at g1 g2 g3 hE1 hE2 hS1 hS2 hsz hdot ⊢
    have hc0 := hpd.left d0 (by simp)
    obtain ⟨a, ha⟩ : ∃ a, (sg s).length = a := ⟨_, rfl⟩
    obtain ⟨b, hbb⟩ : ∃ b, (d0 :: A').length = b := ⟨_, rfl⟩
    have hb0 : 0 < b := by rw [← hbb]; simp
    rw [ha, hbb] at hE1 hE2 hS1 hS2 hsz hdot hl
    rw [ha] at g2
    rw [hbb] at hAl
    have hsc : scS S (i0 S) = .good S.size (i0 S) (a + b) (a + b + 1) S.size false S.size := by
      unfold scS
      rw [g2, hE1, if_neg (by omega), if_pos ⟨by omega, hdot⟩, hE2, if_neg (by omega), ← hsz]
      unfold scX
      rw [if_neg (by omega)]
    have hM0 : M ≠ 0 := by omega
    have hnear := near_frac M p hM0 hMb (by omega) (d0 :: A' ++ B) hpd (by rw [List.length_append, hbb]; omega) hpv
    have := parse_good S (by omega) (by omega) (by omega) _ _ _ _ _ _ _ hsc (rung M (-(p : Int))) hrl (by
      refine Ev.congr (fun k => ?_) hnear
      rw [seg_self]
      have e1 : S.extract (i0 S) (a + b) ++ S.extract (a + b + 1) S.size = strOfNums (d0 :: A' ++ B) := by
        apply bytesOf_inj
        rw [bytesOf_append, seg_bytes, seg_bytes, g2, hsz, hS1, hS2, bytesOf_nums hpd.by]
      have e2 : powV false (cl 0 []) - ((S.size - (a + b + 1) : Nat) : Int) = -(p : Int) := by
        show ((0 : Nat) : Int) - _ = _
        omega
      rw [e1, e2])
    rw [if_neg (by omega), g1] at this
    exact this
theorem cpl_all (s w : ByteArray) : ∀ (n i j : Nat), i + n ≤ s.size → j + n = w.size → (∀ t, t < n → bt s ((i + t : Nat) : Int) = bt w ((j + t : Nat) : Int)) → cpl s i w j = n
  | 0, i, j, h1, h2, h => by rw [cpl_no (fun g => by have := g.2.1; omega)]
  | n + 1, i, j, h1, h2, h => by
    have ih := cpl_all s w n (i + 1) (j + 1) (by omega) (by omega) (fun t ht => by
      have := h (t + 1) (by omega)
      rwa [show i + (t + 1) = i + 1 + t by omega, show j + (t + 1) = j + 1 + t by omega] at this)
    rw [cpl_yes ⟨by omega, by omega, by simpa using h 0 (by omega)⟩, ih]
theorem parse_wnone : Ev (fun k => single_Parse.f k (strOfNums [110, 111, 110, 101])) (2143289344, 0, 0) := by
  have e : strOfNums [110, 111, 110, 101] = wNone := rfl
  have hc := cpl_all wNone wNone 4 0 0 (by decide) (by decide) (fun t ht => rfl)
  have := parse_none wNone (by decide) (by decide +kernel) (by decide +kernel)
  rw [hc, if_pos ⟨rfl, rfl⟩] at this
  rw [e]; exact this
theorem parse_winf (s : Bool) : Ev (fun k => single_Parse.f k (strOfNums (sg s ++ [105, 110, 102, 105, 110, 105, 116, 101]))) (sgn s + 2139095040, 0, 0) := by
  have h8 : ∀ t : Nat, t < 8 → bt (strOfNums (sg s ++ [105, 110, 102, 105, 110, 105, 116, 101])) (((sg s).length + t : Nat) : Int) = bt wInf ((0 + t : Nat) : Int) := by
    intro t ht
    have : t = 0 ∨ t = 1 ∨ t = 2 ∨ t = 3 ∨ t = 4 ∨ t = 5 ∨ t = 6 ∨ t = 7 := by omega
    rcases this with rfl | rfl | rfl | rfl | rfl | rfl | rfl | rfl <;> cases s <;> decide +kernel
  have hn : ng (strOfNums (sg s ++ [105, 110, 102, 105, 110, 105, 116, 101])) = s := by cases s <;> decide +kernel
  have hi : i0 (strOfNums (sg s ++ [105, 110, 102, 105, 110, 105, 116, 101])) = (sg s).length := by unfold i0; rw [hn]; cases s <;> rfl
  have hf : fb (strOfNums (sg s ++ [105, 110, 102, 105, 110, 105, 116, 101])) = 105 := by cases s <;> decide +kernel
  have hsz : (strOfNums (sg s ++ [105, 110, 102, 105, 110, 105, 116, 101])).size = (sg s).length + 8 := by rw [nums_size]; simp
  have hl := sg_len s
  have hc := cpl_all _ wInf 8 (sg s).length 0 (by omega) (by decide) h8
  have := parse_inf _ (by omega) hf
  rw [hi, hc, hn, if_pos ⟨rfl, hsz.symm⟩] at this
  exact this
end Go.Proofs.YteecekhfpfnepaaDoor.Tx
end

section
namespace Go.Proofs.YteecekhfpfnepaaDoor.Sg
open Go.RowKit Go.Proofs.YteecekhfpfnepaaDoor.PAll Go.Proofs.YteecekhfpfnepaaDoorW.PrintWords Go.Proofs.YteecekhfpfnepaaDoorW.PrintLast Go.Proofs.YteecekhfpfnepaaDoorW.PrintMore
set_option linter.unusedVariables false
set_option linter.unusedSimpArgs false
theorem refparts_loop (kind : Int) (s : Bool) (q : Nat) (hq : q % 2 = 1) : ∀ (t : Nat) (e : Int) (k : Nat), 2 ^ t * q < 16777216 → t ≤ 64 → -1000 ≤ e → e + t ≤ 1000 → t + 1 ≤ k → heraldref03_Parts.l0 k kind s ((2 ^ t * q : Nat) : Int) e = some (kind, s, (q : Int), e + t) := by
  intro t
  induction t with
  | zero =>
    intro e k h1 h2 h3 h4 hk
    obtain ⟨k, rfl⟩ : ∃ j, k = j + 1 := ⟨k - 1, by omega⟩
    simp only [heraldref03_Parts.l0]
    rw [Nat.pow_zero, Nat.one_mul, Int.tmod_eq_emod_of_nonneg (by omega), if_neg (by omega)]
    simp
  | succ t ih =>
    intro e k h1 h2 h3 h4 hk
    obtain ⟨k, rfl⟩ : ∃ j, k = j + 1 := ⟨k - 1, by omega⟩
    have e1 : 2 ^ (t + 1) * q = 2 * (2 ^ t * q) := by rw [Nat.pow_succ, Nat.mul_comm (2 ^ t) 2, Nat.mul_assoc]
    rw [e1] at h1 ⊢
    obtain ⟨z, hz⟩ : ∃ z, 2 ^ t * q = z := ⟨_, rfl⟩
    have hi := ih (e + 1) k (by omega) (by omega) (by omega) (by omega) (by omega)
    rw [hz] at h1 hi ⊢
    simp only [heraldref03_Parts.l0]
    rw [Int.tmod_eq_emod_of_nonneg (by omega), if_pos (by omega), Int.tdiv_eq_ediv_of_nonneg (by omega), show ((2 * z : Nat) : Int) / 2 = (z : Int) from by omega, wrap_in (by omega) (by omega), wrap_in (by omega) (by omega), hi]
    congr 4
    omega
theorem refparts_some (a : Int) (h0 : 0 ≤ a) (h1 : a < 4294967296) (k : Nat) (hk : 70 ≤ k) : heraldref03_Parts.f k a = some (partsV a) := by
  unfold heraldref03_Parts.f partsV
  rw [raw_some a h0 h1]
  simp only [Option.bind_some]
  rcases raw_cases a h0 h1 with ⟨ra, _⟩ | ⟨s, ra, _⟩ | ⟨s, m, e, ra, _, fa⟩ <;> rw [ra]
  · simp
  · simp
  · by_cases c : m = 0
    · subst c; simp
    · have hb : m < 16777216 ∧ -149 ≤ e ∧ e ≤ 104 := by rcases fa.form with ⟨g1, g2⟩ | ⟨g1, g2, g3, g4⟩ <;> omega
      obtain ⟨q, hq⟩ := tz_spec m c (by omega)
      have ht := tz_lt m c (by omega)
      have hl := refparts_loop 0 s (2 * q + 1) (by omega) (tz m) e k (by omega) (by omega) (by omega) (by omega) (by omega)
      rw [← hq] at hl
      have hdiv : m / 2 ^ tz m = 2 * q + 1 := by
        have hp := pow_pos' (tz m)
        obtain ⟨T, hT⟩ : ∃ T, 2 ^ tz m = T := ⟨_, rfl⟩
        rw [hT] at hq hp ⊢
        rw [hq, Nat.mul_div_cancel_left _ hp]
      simp only
      rw [if_neg (by omega), if_neg (by omega), Int.toNat_natCast, hdiv, hl]
end Go.Proofs.YteecekhfpfnepaaDoor.Sg
end

section
namespace Go.Proofs.YteecekhfpfnepaaDoor.Sg
open Go.RowKit Go.Proofs.YteecekhfpfnepaaDoor.PAll Go.Proofs.YteecekhfpfnepaaDoorW.PrintWords Go.Proofs.YteecekhfpfnepaaDoorW.PrintLast Go.Proofs.YteecekhfpfnepaaDoorW.PrintMore
set_option linter.unusedVariables false
set_option linter.unusedSimpArgs false
theorem one_one : single_Add.f 1065353216 1065353216 = some 1073741824 := by decide +kernel
theorem three_half : NR false 3 (-1) = 1069547520 := by decide +kernel
theorem awake_some (k : Nat) (hk : 80 ≤ k) : heraldlaw03_awake.f k = some true := by
  unfold heraldlaw03_awake.f
  rw [one_one]
  simp only [Option.bind_some, if_true]
  rw [near_some 3 (-1) (by omega) (by omega) k (by omega), if_neg (by decide)]
  have e : NR (decide ((3 : Int) < 0)) (3 : Int).natAbs (-1) = 1069547520 := three_half
  rw [e]
  rfl
theorem wf_u32 {a : Int} (h : (Lit.int .u32 a).wf = true) : 0 ≤ a ∧ a ≤ 4294967295 := (Lit.wf_int_iff _ _).1 h
end Go.Proofs.YteecekhfpfnepaaDoor.Sg
end

section
namespace Go.Proofs.YteecekhfpfnepaaDoor.Pure
open Go.RowKit Go.Proofs.YteecekhfpfnepaaDoor.PAll Go.Proofs.YteecekhfpfnepaaDoor.Tx Go.Proofs.YteecekhfpfnepaaDoor.Nums Go.Proofs.YteecekhfpfnepaaDoorW.PrintWords Go.Proofs.YteecekhfpfnepaaDoorW.PrintLast
open Go.Proofs.YteecekhfpfnepaaDoor.Sg (awake_some wf_u32 refparts_some sgn rung rung_scale Fin32)
set_option linter.unusedVariables false
theorem dec_far (a : Int) (T : ByteArray) (hT : 200 < T.size) (ht : Ev (fun k => single_Text.f k a) T) : Ev (fun k => heraldlaw03_SingleDecimal.f k a) true := by
  have hp := parse_far T hT
  have ha : Ev (fun k => heraldlaw03_awake.f k) true := ⟨80, fun k hk => awake_some k hk⟩
  obtain ⟨K1, h1⟩ := ht
  obtain ⟨K2, h2⟩ := hp
  obtain ⟨K3, h3⟩ := ha
  refine ⟨K1 + K2 + K3, fun k hk => ?_⟩
  have g1 : single_Text.f k a = some T := h1 k (by omega)
  have g2 : single_Parse.f k T = some (0, 200, 33) := h2 k (by omega)
  have g3 : heraldlaw03_awake.f k = some true := h3 k (by omega)
  show heraldlaw03_SingleDecimal.f k a = some true
  unfold heraldlaw03_SingleDecimal.f
  rw [g1, Option.bind_some, g2, Option.bind_some, if_pos (by omega), g3, Option.bind_some, if_pos rfl, if_pos rfl]
  rfl
theorem dec_near (a : Int) (h0 : 0 ≤ a) (h1 : a < 4294967296) (T : ByteArray) (hT : T.size ≤ 200) (r : Int) (hr : if (partsV a).1 = 2 then r = 2143289344 else r = a) (ht : Ev (fun k => single_Text.f k a) T) (hp : Ev (fun k => single_Parse.f k T) (r, 0, 0)) : Ev (fun k => heraldlaw03_SingleDecimal.f k a) true := by
  have ha : Ev (fun k => heraldlaw03_awake.f k) true := ⟨80, fun k hk => awake_some k hk⟩
  have hq : Ev (fun k => heraldref03_Parts.f k a) (partsV a) := ⟨70, fun k hk => refparts_some a h0 h1 k hk⟩
  obtain ⟨K1, h1⟩ := ht
  obtain ⟨K2, h2⟩ := hp
  obtain ⟨K3, h3⟩ := ha
  obtain ⟨K4, h4⟩ := hq
  refine ⟨K1 + K2 + K3 + K4, fun k hk => ?_⟩
  have g1 : single_Text.f k a = some T := h1 k (by omega)
  have g2 : single_Parse.f k T = some (r, 0, 0) := h2 k (by omega)
  have g3 : heraldlaw03_awake.f k = some true := h3 k (by omega)
  have g4 : heraldref03_Parts.f k a = some (partsV a) := h4 k (by omega)
  show heraldlaw03_SingleDecimal.f k a = some true
  unfold heraldlaw03_SingleDecimal.f
  rw [g1, Option.bind_some, g2, Option.bind_some, if_neg (by omega), g4, Option.bind_some]
  by_cases c : (partsV a).1 = 2
  · rw [if_pos c] at hr ⊢
    rw [g3, Option.bind_some, if_pos rfl, if_pos hr, if_pos rfl]
    rfl
  · rw [if_neg c] at hr ⊢
    rw [g3, Option.bind_some, if_pos rfl, if_pos hr, if_pos rfl]
    rfl
theorem dec_ev (a : Int) (h0 : 0 ≤ a) (h1 : a < 4294967296) : Ev (fun k => heraldlaw03_SingleDecimal.f k a) true := by
  obtain ⟨t1, t2, t3⟩ := text_ev a h0 h1
  rcases parts_cases a h0 h1 with ⟨pa, _⟩ | ⟨s, pa, _, hw⟩ | ⟨s, m, e, M, t, pa, _, fa, hm, hM, hMb, ht, hmb, he0, he1⟩
  · have key : ∀ r : Int, (if (partsV a).1 = 2 then r = r else r = a) := fun r => by rw [pa, if_pos rfl]
    have hz : (strOfNums [110, 111, 110, 101]).size ≤ 200 := by rw [nums_size]; decide
    obtain ⟨N, hN⟩ : ∃ N : Int, N = 2143289344 := ⟨_, rfl⟩
    have hp := parse_wnone
    have htx := t1 pa
    rw [← hN] at hp
    have kk := key N
    refine dec_near a h0 h1 _ hz N ?_ htx hp
    rw [← hN]
    exact kk
  · refine dec_near a h0 h1 _ ?_ (sgn s + 2139095040) ?_ (t2 s pa) (parse_winf s)
    · have := sg_len s
      rw [nums_size, List.length_append]
      show (sg s).length + 8 ≤ 200
      omega
    · rw [pa, if_neg (show ¬ (1 : Int) = 2 by omega)]; exact hw.symm
  · obtain ⟨E, hE⟩ : ∃ E : Int, (if m = 0 then (0 : Int) else e + t) = E := ⟨_, rfl⟩
    rw [hE] at pa
    have hEM : (M % 2 = 1 ∨ (M = 0 ∧ E = 0)) ∧ -149 ≤ E ∧ E ≤ 167 ∧ rung m e = rung M E := by
      by_cases c : m = 0
      · rw [if_pos c] at hE
        subst hE
        have hM0 : M = 0 := by
          rw [hm] at c
          rcases Nat.mul_eq_zero.mp c with h | h
          · have := Nat.pow_pos (n := t) (show 0 < 2 by omega); omega
          · exact h
        rw [c, hM0]
        exact ⟨.inr ⟨rfl, rfl⟩, by omega, by omega, by simp [rung]⟩
      · rw [if_neg c] at hE
        subst hE
        refine ⟨?_, by omega, by omega, ?_⟩
        · rcases hM with h | ⟨h, _⟩
          · exact .inl h
          · rw [h, Nat.mul_zero] at hm; exact absurd hm c
        · have := rung_scale M t (e + t)
          rw [Nat.mul_comm M, ← hm, show e + (t : Int) - t = e by omega] at this
          exact this
    obtain ⟨e1, e2, e3, e4⟩ := hEM
    have htx := t3 s M E pa e1 hMb (by omega) (by omega)
    by_cases c : (sg s ++ txt M E).length ≤ 200
    · refine dec_near a h0 h1 _ (by rw [nums_size]; exact c) (sgn s + (rung M E : Int)) ?_ htx (parse_fin s M E e1 hMb e2 e3 c)
      rw [pa, if_neg (show ¬ (0 : Int) = 2 by omega), fa.word, e4]
    · exact dec_far a _ (by rw [nums_size]; omega) htx
theorem SingleDecimal : heraldlaw03_SingleDecimal.Pure := fun a h => (dec_ev a (wf_u32 h).1 (by have := (wf_u32 h).2; omega)).rounds
end Go.Proofs.YteecekhfpfnepaaDoor.Pure
end
