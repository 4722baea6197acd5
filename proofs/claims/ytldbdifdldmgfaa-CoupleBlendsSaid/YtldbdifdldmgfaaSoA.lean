/- Rows while they are sorted: stretches exchanged, a row turned. -/
import Derived.Test.YtldbdifdldmgfaaSo
import Derived.Test.YtldbdifdldmgfaaMath
namespace Go.Proofs.Ytldbdifdldmgfaa.PAll
open Go.RowKit Go.Proofs.Ytldbdifdldmgfaa.Math Go.Proofs.YtldbdifdldmgfaaW.PrintWords Go.Proofs.YtldbdifdldmgfaaW.PrintLast Go.Proofs.YtldbdifdldmgfaaW.PrintMore
set_option linter.unusedVariables false
set_option linter.unusedSimpArgs false

def atN (l : List Int) (q : Nat) : Int := l.getD q 0
theorem atN_rd (l : List Int) (q : Nat) : rd l (q : Int) = atN l q := rfl
theorem atN_append (a b : List Int) (q : Nat) : atN (a ++ b) q = if q < a.length then atN a q else atN b (q - a.length) := by
  unfold atN
  by_cases h : q < a.length
  · rw [if_pos h]; simp [List.getD_eq_getElem?_getD, List.getElem?_append_left h]
  · rw [if_neg h]; simp [List.getD_eq_getElem?_getD, List.getElem?_append_right (Nat.le_of_not_lt h)]
theorem list_ext_at {a b : List Int} (hl : a.length = b.length) (h : ∀ q : Nat, q < a.length → atN a q = atN b q) : a = b :=
  list_ext_rd hl (fun x hx => h x hx)
theorem atN_swp (l : List Int) (i j q : Nat) (hi : i < l.length) (hj : j < l.length) : atN (swp l i j) q = if q = j then atN l i else if q = i then atN l j else atN l q := by
  unfold swp
  rw [atN_rd, atN_rd]
  by_cases h : q = j
  · subst h
    rw [if_pos rfl]
    simp [atN, List.getD_eq_getElem?_getD, hj]
  · rw [if_neg h]
    by_cases h2 : q = i
    · subst h2
      rw [if_pos rfl]
      simp [atN, List.getD_eq_getElem?_getD, List.getElem?_set, Ne.symm h, hi]
    · rw [if_neg h2]
      simp [atN, List.getD_eq_getElem?_getD, List.getElem?_set, Ne.symm h, Ne.symm h2]
theorem atN_swapR (a b : Nat) (l : List Int) : ∀ (m q : Nat), a + m ≤ b → b + m ≤ l.length → atN (swapR a b l m) q = if a ≤ q ∧ q < a + m then atN l (q - a + b) else if b ≤ q ∧ q < b + m then atN l (q - b + a) else atN l q
  | 0, q, _, _ => by
    rw [swapR, if_neg (by omega), if_neg (by omega)]
  | m + 1, q, h1, h2 => by
    have hl := swapR_len a b l m
    rw [swapR, atN_swp _ _ _ _ (by omega) (by omega), atN_swapR a b l m (a + m) (by omega) (by omega), atN_swapR a b l m (b + m) (by omega) (by omega), atN_swapR a b l m q (by omega) (by omega)]
    rw [if_neg (show ¬ (a ≤ a + m ∧ a + m < a + m) by omega), if_neg (show ¬ (b ≤ a + m ∧ a + m < b + m) by omega), if_neg (show ¬ (a ≤ b + m ∧ b + m < a + m) by omega), if_neg (show ¬ (b ≤ b + m ∧ b + m < b + m) by omega)]
    by_cases c1 : q = b + m
    · subst c1
      rw [if_pos rfl, if_neg (by omega), if_pos (by omega)]
      congr 1; omega
    · rw [if_neg c1]
      by_cases c2 : q = a + m
      · subst c2
        rw [if_pos rfl, if_pos (by omega)]
        congr 1; omega
      · rw [if_neg c2]
        by_cases c3 : a ≤ q ∧ q < a + m
        · rw [if_pos c3, if_pos (by omega)]
        · by_cases c4 : b ≤ q ∧ q < b + m
          · rw [if_neg c3, if_pos c4, if_neg (by omega), if_pos (by omega)]
          · rw [if_neg c3, if_neg c4, if_neg (by omega), if_neg (by omega)]
theorem swapR_cut (L A M B R : List Int) (hAB : A.length = B.length) (a b : Nat) (ha : a = L.length) (hb : b = L.length + A.length + M.length) :
    swapR a b (L ++ (A ++ (M ++ (B ++ R)))) A.length = L ++ (B ++ (M ++ (A ++ R))) := by
  subst ha hb
  apply list_ext_at
  · rw [swapR_len]; simp; omega
  · intro q hq
    rw [swapR_len] at hq
    simp only [List.length_append] at hq
    rw [atN_swapR _ _ _ _ _ (by omega) (by simp; omega)]
    simp only [atN_append]
    repeat' split
    all_goals first | (exfalso; omega) | (congr 1; omega) | rfl
set_option maxRecDepth 100000 in
set_option maxHeartbeats 3200000 in
/-- A row turned: L X Y R becomes L Y X R. -/
theorem rotate_calls (w0 W : World) (g n cap a m b : Nat) (f : Value) (L X Y R : List Int) (S : SO w0 W g (L ++ (X ++ (Y ++ R)))) (hn : L.length + X.length + Y.length + R.length = n) (ha : a = L.length) (hm : m = L.length + X.length) (hb : b = L.length + X.length + Y.length) (hX : 0 < X.length) (hY : 0 < Y.length) (hn2 : n ≤ 512) :
    Calls Try.prog 51 #[.slice (some ⟨g, 0, none⟩) n cap, .int .i64 (a : Int), .int .i64 (m : Int), .int .i64 (b : Int), f] W fun e w' => e = .returned (.tuple #[]) ∧ SO w0 w' g (L ++ (Y ++ (X ++ R))) := by
  have S0 := Aside0.mk S
  clear S
  obtain ⟨T, hT⟩ : ∃ T, T = L ++ (Y ++ (X ++ R)) := ⟨_, rfl⟩
  rw [← hT]
  have HT := Aside0.mk hT
  clear hT
  have h10 : (m : Int) - (a : Int) = (X.length : Int) := by omega
  have h11 : (b : Int) - (m : Int) = (Y.length : Int) := by omega
  have H10 := Aside0.mk h10
  have H11 := Aside0.mk h11
  have HM := Aside0.mk hm
  have HN := Aside0.mk hn
  have ham : a ≤ m ∧ m ≤ b ∧ b ≤ n ∧ m ≤ 512 := by omega
  obtain ⟨q1, q2, q3, q4⟩ := ham
  clear h10 h11 hm hn ha hb
  go_enter Try.func51, Try.ntmps51
  go_wp2
  go_loopg [10, 11] (X.length + Y.length) (fun kq v10 v11 wr => ∃ (P A B Q : List Int), v10 = .int .i64 (A.length : Int) ∧ v11 = .int .i64 (B.length : Int) ∧ 0 < A.length ∧ 0 < B.length ∧ A.length + B.length ≤ kq ∧ P.length + A.length = m ∧ m + B.length + Q.length = n ∧ Aside0 (P ++ (B ++ (A ++ Q)) = T) ∧ Aside0 (SO w0 wr g (P ++ (A ++ (B ++ Q)))))
  case atStart => exact ⟨L, X, Y, R, by rw [H10.out], by rw [H11.out], hX, hY, Nat.le_refl _, HM.out.symm, by have := HM.out; have := HN.out; omega, ⟨HT.out.symm⟩, S0⟩
  case round =>
    clear S0 HT H10 H11
    obtain ⟨P, A, B, Q, rfl, rfl, hA, hB, hk, hPm, hmQ, ET, S⟩ := hrel
    obtain ⟨i, hi⟩ : ∃ i, A.length = i := ⟨_, rfl⟩
    obtain ⟨j, hj⟩ : ∃ j, B.length = j := ⟨_, rfl⟩
    rw [hi] at hA hk hPm ⊢
    rw [hj] at hB hk hmQ ⊢
    have HI := Aside0.mk hi
    have HJ := Aside0.mk hj
    clear hi hj
    rcases Nat.lt_trichotomy i j with hij | hij | hij
    · -- A is shorter: B = B1 ++ B2, |B2| = i
      have hneb : ((i : Int) != (j : Int)) = true := bne_iff_ne.mpr (by omega)
      have hgt : ¬ ((j : Int) < (i : Int)) := by omega
      obtain ⟨k1, rfl⟩ : ∃ q, gk = q + 1 := ⟨gk - 1, by omega⟩
      obtain ⟨B1, B2, hBB, hB1, hB2⟩ : ∃ B1 B2, B = B1 ++ B2 ∧ B1.length = j - i ∧ B2.length = i := ⟨B.take (j - i), B.drop (j - i), (List.take_append_drop _ _).symm, by have := HJ.out; simp; omega, by have := HJ.out; simp; omega⟩
      have hsw := fun W (hW : SO w0 W g (P ++ (A ++ (B ++ Q)))) => swapRange_calls w0 W g n cap (m - i) (m + j - i) i f _ hW (by have := HI.out; have := HJ.out; simp; omega) (by omega) (by omega) hn2
      rw [hBB] at hsw
      have hcut := swapR_cut P A B1 B2 Q (by rw [HI.out, hB2]) (m - i) (m + j - i) (by omega) (by have := HI.out; omega)
      rw [HI.out] at hcut
      simp only [List.append_assoc] at hsw
      rw [hcut] at hsw
      have S2 : SO w0 wr g (P ++ (A ++ (B1 ++ (B2 ++ Q)))) := by have := S.out; rw [hBB, List.append_assoc] at this; exact this
      have HS := Aside0.mk (hsw _ (S2))
      have e1 : ((m - i : Nat) : Int) = (m : Int) - (i : Int) := by omega
      have e2 : ((m + j - i : Nat) : Int) = (m : Int) + (j : Int) - (i : Int) := by omega
      rw [e1, e2] at HS
      have EB := Aside0.mk hBB
      have E1 := Aside0.mk hB1
      have E2 := Aside0.mk hB2
      clear hsw hcut S2 hBB hB1 hB2 e1 e2 S
      go_wp2_with (go_at_call 52; refine HS.out.mono ?_; rintro e w' ⟨rfl, hs'⟩; have HS2 := Aside0.mk hs'; clear hs')
      go_roundg k1
      case measure => omega
      case rel => exact ⟨P, B2, B1, A ++ Q, by first | rfl | (rw [E2.out]), by first | (rw [E1.out]; congr 1; omega) | go_num, by rw [E2.out]; omega, by rw [E1.out]; omega, by rw [E1.out, E2.out]; omega, by rw [E2.out]; omega, by rw [E1.out, List.length_append, HI.out]; omega, ⟨by rw [← ET.out, EB.out]; simp only [List.append_assoc]⟩, HS2⟩
    · -- both are as long: one exchange, and all is done
      subst hij
      have hsw := swapRange_calls w0 wr g n cap (m - i) m i f _ S.out (by have := HI.out; have := HJ.out; simp; omega) (by omega) (by omega) hn2
      have hcut := swapR_cut P A [] B Q (by rw [HI.out, HJ.out]) (m - i) m (by omega) (by have := HI.out; simp; omega)
      rw [HI.out] at hcut
      simp only [List.nil_append] at hcut
      rw [hcut, ET.out] at hsw
      have HS := Aside0.mk hsw
      have e1 : ((m - i : Nat) : Int) = (m : Int) - (i : Int) := by omega
      rw [e1] at HS
      clear hsw hcut e1 S
      go_wp2_with (go_at_call 52; refine HS.out.mono ?_; rintro e w' ⟨rfl, hs'⟩; have HS2 := Aside0.mk hs'; clear hs')
      go_end0
      exact ⟨rfl, HS2.out⟩
    · -- B is shorter: A = A1 ++ A2, |A1| = j
      have hneb : ((i : Int) != (j : Int)) = true := bne_iff_ne.mpr (by omega)
      have hgt : (j : Int) < (i : Int) := by omega
      obtain ⟨k1, rfl⟩ : ∃ q, gk = q + 1 := ⟨gk - 1, by omega⟩
      obtain ⟨A1, A2, hAA, hA1, hA2⟩ : ∃ A1 A2, A = A1 ++ A2 ∧ A1.length = j ∧ A2.length = i - j := ⟨A.take j, A.drop j, (List.take_append_drop _ _).symm, by have := HI.out; simp; omega, by have := HI.out; simp; omega⟩
      have S2 : SO w0 wr g (P ++ (A1 ++ (A2 ++ (B ++ Q)))) := by have := S.out; rw [hAA, List.append_assoc] at this; exact this
      have hsw := swapRange_calls w0 wr g n cap (m - i) m j f _ S2 (by have := HJ.out; simp; omega) (by omega) (by omega) hn2
      have hcut := swapR_cut P A1 A2 B Q (by rw [hA1, HJ.out]) (m - i) m (by omega) (by omega)
      rw [hA1] at hcut
      rw [hcut] at hsw
      have HS := Aside0.mk hsw
      have e1 : ((m - i : Nat) : Int) = (m : Int) - (i : Int) := by omega
      rw [e1] at HS
      have EA := Aside0.mk hAA
      have E1 := Aside0.mk hA1
      have E2 := Aside0.mk hA2
      clear hsw hcut S2 hAA hA1 hA2 e1 S
      go_wp2_with (go_at_call 52; refine HS.out.mono ?_; rintro e w' ⟨rfl, hs'⟩; have HS2 := Aside0.mk hs'; clear hs')
      go_roundg k1
      case measure => omega
      case rel => exact ⟨P ++ B, A2, A1, Q, by first | (rw [E2.out]; congr 1; omega) | go_num, by rw [E1.out], by rw [E2.out]; omega, by rw [E1.out]; omega, by rw [E1.out, E2.out]; omega, by rw [E2.out, List.length_append, HJ.out]; omega, by rw [E1.out]; omega, ⟨by rw [← ET.out, EA.out]; simp only [List.append_assoc]⟩, ⟨by have := HS2.out; simp only [List.append_assoc]; exact this⟩⟩
end Go.Proofs.Ytldbdifdldmgfaa.PAll
