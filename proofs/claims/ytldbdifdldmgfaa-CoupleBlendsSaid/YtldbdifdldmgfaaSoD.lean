/- Plain: two sorted stretches parted into what goes ahead and what goes behind. -/
import Derived.Test.YtldbdifdldmgfaaSoC
namespace Go.Proofs.Ytldbdifdldmgfaa.PAll
open Go.RowKit Go.Proofs.Ytldbdifdldmgfaa.Math Go.Proofs.YtldbdifdldmgfaaW.PrintWords Go.Proofs.YtldbdifdldmgfaaW.PrintLast Go.Proofs.YtldbdifdldmgfaaW.PrintMore
set_option linter.unusedVariables false
set_option linter.unusedSimpArgs false

theorem atN_take (l : List Int) (i q : Nat) (h : q < i) : atN (l.take i) q = atN l q := by
  simp [atN, List.getD_eq_getElem?_getD, List.getElem?_take, h]
theorem atN_drop (l : List Int) (i q : Nat) : atN (l.drop i) q = atN l (i + q) := by
  simp [atN, List.getD_eq_getElem?_getD, List.getElem?_drop]
theorem chain_le {lv : Int → Int} {l : List Int} (h : l.Pairwise (prec lv)) (u v : Nat) (huv : u ≤ v) (hv : v < l.length) (z : Int) (hz : prec lv (atN l v) z) : prec lv (atN l u) z := by
  by_cases e : u = v
  · rw [e]; exact hz
  · exact prec_trans (pair_at h u v (by omega) hv) hz
theorem chain_ge {lv : Int → Int} {l : List Int} (h : l.Pairwise (prec lv)) (u v : Nat) (huv : u ≤ v) (hv : v < l.length) (z : Int) (hz : prec lv z (atN l u)) : prec lv z (atN l v) := by
  by_cases e : u = v
  · rw [← e]; exact hz
  · exact prec_trans hz (pair_at h u v (by omega) hv)
theorem cross {lv : Int → Int} {n : Nat} {X Y : List Int} (hT : Two lv n X Y) (i j : Nat) (hi : i ≤ X.length) (hj : j ≤ Y.length)
    (hA : 0 < i → j < Y.length → prec lv (atN X (i - 1)) (atN Y j)) (hB : 0 < j → i < X.length → prec lv (atN Y (j - 1)) (atN X i)) :
    ∀ p ∈ X.take i ++ Y.take j, ∀ q ∈ X.drop i ++ Y.drop j, prec lv p q := by
  intro p hp q hq
  rcases List.mem_append.1 hp with hp | hp <;> rcases List.mem_append.1 hq with hq | hq
  all_goals
    obtain ⟨u, hu, rfl⟩ := mem_atN _ p hp
    obtain ⟨v, hv, rfl⟩ := mem_atN _ q hq
    rw [List.length_take] at hu
    rw [List.length_drop] at hv
    rw [atN_take _ _ _ (by omega), atN_drop]
  · exact pair_at hT.px u (i + v) (by omega) (by omega)
  · exact chain_le hT.px u (i - 1) (by omega) (by omega) _ (chain_ge hT.py j (j + v) (by omega) (by omega) _ (hA (by omega) (by omega)))
  · exact chain_le hT.py u (j - 1) (by omega) (by omega) _ (chain_ge hT.px i (i + v) (by omega) (by omega) _ (hB (by omega) (by omega)))
  · exact pair_at hT.py u (j + v) (by omega) (by omega)
/-- What comes of the two parts. -/
theorem join_parts {lv : Int → Int} {X1 X2 Y1 Y2 Z1 Z2 : List Int} (h1 : Sorted lv (X1 ++ Y1) Z1) (h2 : Sorted lv (X2 ++ Y2) Z2) (hc : ∀ p ∈ X1 ++ Y1, ∀ q ∈ X2 ++ Y2, prec lv p q) : Sorted lv ((X1 ++ X2) ++ (Y1 ++ Y2)) (Z1 ++ Z2) := by
  refine ⟨?_, ?_⟩
  · refine (h1.perm.append h2.perm).trans ?_
    rw [List.append_assoc, List.append_assoc]
    refine List.Perm.append_left X1 ?_
    rw [← List.append_assoc, ← List.append_assoc]
    exact List.Perm.append_right Y2 List.perm_append_comm
  · rw [List.pairwise_append]
    exact ⟨h1.pair, h2.pair, fun p hp q hq => hc p (h1.perm.mem_iff.1 hp) q (h2.perm.mem_iff.1 hq)⟩
theorem Two.parts {lv : Int → Int} {n : Nat} {X1 X2 Y1 Y2 : List Int} (hT : Two lv n (X1 ++ X2) (Y1 ++ Y2)) : Two lv n X1 Y1 ∧ Two lv n X2 Y2 := by
  have px := List.pairwise_append.1 hT.px
  have py := List.pairwise_append.1 hT.py
  refine ⟨⟨px.1, py.1, fun x hx y hy => hT.lt x (by simp [hx]) y (by simp [hy]), fun x hx => hT.rx x (by simp [hx]), fun y hy => hT.ry y (by simp [hy])⟩,
    ⟨px.2.1, py.2.1, fun x hx y hy => hT.lt x (by simp [hx]) y (by simp [hy]), fun x hx => hT.rx x (by simp [hx]), fun y hy => hT.ry y (by simp [hy])⟩⟩
theorem Sorted.left {lv : Int → Int} {n : Nat} {X Y : List Int} (hT : Two lv n X Y) (h : Y = []) : Sorted lv (X ++ Y) (X ++ Y) := by
  subst h; exact ⟨List.Perm.refl _, by rw [List.append_nil]; exact hT.px⟩
theorem Sorted.right {lv : Int → Int} {n : Nat} {X Y : List Int} (hT : Two lv n X Y) (h : X = []) : Sorted lv (X ++ Y) (X ++ Y) := by
  subst h; exact ⟨List.Perm.refl _, hT.py⟩
end Go.Proofs.Ytldbdifdldmgfaa.PAll
