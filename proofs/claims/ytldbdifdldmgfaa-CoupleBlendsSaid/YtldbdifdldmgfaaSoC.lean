/- Rows while they are sorted: two sorted stretches become one (one of them a single element). -/
import Derived.Test.YtldbdifdldmgfaaSoB
namespace Go.Proofs.Ytldbdifdldmgfaa.PAll
open Go.RowKit Go.Proofs.Ytldbdifdldmgfaa.Math Go.Proofs.YtldbdifdldmgfaaW.PrintWords Go.Proofs.YtldbdifdldmgfaaW.PrintLast Go.Proofs.YtldbdifdldmgfaaW.PrintMore
set_option linter.unusedVariables false
set_option linter.unusedSimpArgs false

theorem at_X (L X Q : List Int) (q i : Nat) (hq : q = L.length + i) (hi : i < X.length) : atN (L ++ (X ++ Q)) q = atN X i := by
  subst hq
  rw [atN_append, if_neg (by omega), atN_append, if_pos (by omega)]
  congr 1; omega
theorem at_Y (L X Y R : List Int) (q j : Nat) (hq : q = L.length + X.length + j) (hj : j < Y.length) : atN (L ++ (X ++ (Y ++ R))) q = atN Y j := by
  subst hq
  rw [atN_append, if_neg (by omega), atN_append, if_neg (by omega), atN_append, if_pos (by omega)]
  congr 1; omega
theorem atN_mem (l : List Int) (i : Nat) (h : i < l.length) : atN l i ∈ l := by
  have : atN l i = l[i] := by simp [atN, List.getD_eq_getElem?_getD, h]
  rw [this]; exact List.getElem_mem h
theorem mem_atN (l : List Int) (x : Int) (h : x ∈ l) : ∃ i, i < l.length ∧ atN l i = x := by
  obtain ⟨i, hi, e⟩ := List.getElem_of_mem h
  exact ⟨i, hi, by rw [← e]; simp [atN, List.getD_eq_getElem?_getD, hi]⟩
theorem pair_at {r : Int → Int → Prop} {l : List Int} (h : l.Pairwise r) (i j : Nat) (hij : i < j) (hj : j < l.length) : r (atN l i) (atN l j) := by
  have h1 := List.pairwise_iff_getElem.1 h i j (by omega) hj hij
  have e1 : atN l i = l[i]'(by omega) := by simp [atN, List.getD_eq_getElem?_getD, show i < l.length by omega]
  have e2 : atN l j = l[j] := by simp [atN, List.getD_eq_getElem?_getD, hj]
  rw [e1, e2]; exact h1
/-- What is merged: two sorted stretches, the first one's elements the lesser numbers. -/
structure Two (lv : Int → Int) (n : Nat) (X Y : List Int) : Prop where
  px : X.Pairwise (prec lv)
  py : Y.Pairwise (prec lv)
  lt : ∀ x ∈ X, ∀ y ∈ Y, x < y
  rx : ∀ x ∈ X, 0 ≤ x ∧ x < n
  ry : ∀ y ∈ Y, 0 ≤ y ∧ y < n
set_option maxRecDepth 100000 in
set_option maxHeartbeats 6400000 in
theorem merge_left (w0 W : World) (g gb n cap a m b : Nat) (lv : Int → Int) (L Y R : List Int) (x : Int) (H : SO w0 W g (L ++ ([x] ++ (Y ++ R)))) (hC : Cmps w0 g gb n lv) (hlv : ∀ x, 0 ≤ lv x ∧ lv x ≤ 65536)
    (hn : L.length + 1 + Y.length + R.length = n) (ha : a = L.length) (hm : m = L.length + 1) (hb : b = L.length + 1 + Y.length) (hT : Two lv n [x] Y) (hn2 : n ≤ 512) :
    Calls Try.prog 50 #[.slice (some ⟨g, 0, none⟩) n cap, .int .i64 (a : Int), .int .i64 (m : Int), .int .i64 (b : Int), .func (.func 47) #[] #[.pointer (some ⟨gb, 0, none⟩)]] W fun e w' => e = .returned (.tuple #[]) ∧ ∃ Z, Sorted lv ([x] ++ Y) Z ∧ SO w0 w' g (L ++ (Z ++ R)) := by
  have S0 := Aside0.mk H
  have HC := Aside0.mk hC
  have HLV := Aside0.mk hlv
  have HT := Aside0.mk hT
  have HA := Aside0.mk ha
  have HM := Aside0.mk hm
  have HN := Aside0.mk hn
  have HB := Aside0.mk hb
  have hab : a + 1 = m ∧ m ≤ b ∧ b ≤ n := by omega
  obtain ⟨q0, q1, q2⟩ := hab
  have h1 : ((m : Int) - (a : Int) == 1) = true := beq_iff_eq.mpr (by omega)
  clear H hC hlv hT ha hm hb hn
  go_enter Try.func50, Try.ntmps50
  go_wp2
  go_loopg [10, 11] (b - m) (fun kq v10 v11 wr => ∃ (i j : Nat), v10 = .int .i64 (i : Int) ∧ v11 = .int .i64 (j : Int) ∧ m ≤ i ∧ i ≤ j ∧ j ≤ b ∧ j - i ≤ kq ∧ Aside0 (SO w0 wr g (L ++ ([x] ++ (Y ++ R)))) ∧ Aside0 (∀ q : Nat, q < i - m → prec lv (atN Y q) x) ∧ Aside0 (∀ q : Nat, j - m ≤ q → q < Y.length → prec lv x (atN Y q)))
  case atStart => exact ⟨m, b, rfl, rfl, Nat.le_refl _, q1, Nat.le_refl _, Nat.le_refl _, S0, ⟨fun q hq => by omega⟩, ⟨fun q hq hq2 => by have := HB.out; have := HM.out; omega⟩⟩
  case round =>
    clear S0
    obtain ⟨i, j, rfl, rfl, hmi, hij, hjb, hk, H1, HLo, HHi⟩ := hrel
    by_cases hlt : i < j
    · obtain ⟨k1, rfl⟩ : ∃ q, gk = q + 1 := ⟨gk - 1, by omega⟩
      have hltz : (i : Int) < (j : Int) := by omega
      obtain ⟨h, hh⟩ : ∃ h, h = (i + j) / 2 := ⟨_, rfl⟩
      have hu : IntKind.u64.wrap ((i : Int) + (j : Int)) = (i : Int) + (j : Int) := by show ((i : Int) + (j : Int)) % 18446744073709551616 = _; omega
      have hp : (0 : Int) ≤ (i : Int) + (j : Int) := by omega
      have hp2 : (i : Int) + (j : Int) ≤ 1024 := by omega
      have zh : ((i : Int) + (j : Int)) / 2 = (h : Int) := by omega
      have r1 : IntKind.i64.wrap (h : Int) = (h : Int) := by rw [IntKind.wrap_i64]; omega
      have hih : i ≤ h ∧ h < j := by omega
      obtain ⟨h1_, h2_⟩ := hih
      clear hh
      have hHY : h - m < Y.length := by have := HB.out; have := HM.out; omega
      obtain ⟨y, hy⟩ : ∃ y, y = atN Y (h - m) := ⟨_, rfl⟩
      have hym : y ∈ Y := by rw [hy]; exact atN_mem Y _ hHY
      have hxy := HT.out.lt x (by simp) y hym
      have hxr := HT.out.rx x (by simp)
      have hyr := HT.out.ry y hym
      have c1 := H1.out.cell h (by have := HN.out; have := HB.out; simp; omega)
      have c2 := H1.out.cell a (by have := HN.out; have := HB.out; simp; omega)
      rw [atN_rd, at_Y L [x] Y R h (h - m) (by have := HM.out; simp; omega) hHY, ← hy] at c1
      rw [atN_rd, at_X L [x] _ a 0 (by have := HA.out; omega) (by simp), show atN [x] 0 = x from rfl] at c2
      have HQ := Aside0.mk (fun q => HC.out.quiet H1.out y x hyr.1 hyr.2 hxr.1 hxr.2 q)
      have pa : (0 : Int) ≤ (h : Int) := by omega
      have ba : (h : Int) < (n : Int) := by omega
      have pb : (0 : Int) ≤ (a : Int) := by omega
      have bb : (a : Int) < (n : Int) := by omega
      have rb : IntKind.i64.wrap (a : Int) = (a : Int) := by rw [IntKind.wrap_i64]; omega
      have hlo : lv x < lv y → ∀ q : Nat, q < h + 1 - m → prec lv (atN Y q) x := by
        intro hv q hq
        by_cases e : q = h - m
        · rw [e, ← hy]; exact .inl hv
        · have := pair_at HT.out.py q (h - m) (by omega) hHY
          rw [← hy] at this
          exact prec_trans this (.inl hv)
      have hhi : ¬ lv x < lv y → ∀ q : Nat, h - m ≤ q → q < Y.length → prec lv x (atN Y q) := by
        intro hv q hq hq2
        have h0 : prec lv x y := by unfold prec; omega
        by_cases e : q = h - m
        · rw [e, ← hy]; exact h0
        · have := pair_at HT.out.py (h - m) q (by omega) hq2
          rw [← hy] at this
          exact prec_trans h0 this
      have HHL := Aside0.mk hlo
      have HHH := Aside0.mk hhi
      have HY := Aside0.mk hy
      clear hlo hhi hy hxy hxr hyr hym hHY
      by_cases hv : lv x < lv y
      · have hd1 : decide (lv x - lv y < 0) = true := decide_eq_true (by omega)
        go_wp2
        go_quiet (first | (go_at_call 47; refine Calls.quiet_of (HQ.out _)))
        have HS2 := Aside0.mk (H1.out.drewN nq)
        clear c1 c2 H1 HQ
        generalize wr.drewN nq = w2 at HS2 ⊢
        go_wp2
        go_roundg k1
        case measure => omega
        case rel => exact ⟨h + 1, j, by first | rfl | go_num, rfl, by omega, by omega, by omega, by omega, HS2, ⟨HHL.out hv⟩, HHi⟩
      · have hd1 : decide (lv x - lv y < 0) = false := decide_eq_false (by omega)
        go_wp2
        go_quiet (first | (go_at_call 47; refine Calls.quiet_of (HQ.out _)))
        have HS2 := Aside0.mk (H1.out.drewN nq)
        clear c1 c2 H1 HQ
        generalize wr.drewN nq = w2 at HS2 ⊢
        go_wp2
        go_roundg k1
        case measure => omega
        case rel => exact ⟨i, h, rfl, by first | rfl | go_num, by omega, by omega, by omega, by omega, HS2, HLo, ⟨HHH.out hv⟩⟩
    · obtain rfl : i = j := by omega
      go_wp2
      go_loopg [13] (i - 1 - a) (fun kq v13 wq => ∃ k : Nat, v13 = .int .i64 (k : Int) ∧ a ≤ k ∧ k ≤ i - 1 ∧ i - 1 - k ≤ kq ∧ Aside0 (SO w0 wq g (L ++ (Y.take (k - a) ++ (x :: (Y.drop (k - a) ++ R))))))
      case atStart => exact ⟨a, rfl, Nat.le_refl _, by omega, Nat.le_refl _, ⟨by have := H1.out; simpa using this⟩⟩
      case round =>
        clear H1
        obtain ⟨k, rfl, hak, hki, hk2, HK⟩ := hrel
        by_cases hlt2 : k < i - 1
        · obtain ⟨k1, rfl⟩ : ∃ q, gk = q + 1 := ⟨gk - 1, by omega⟩
          have hltz : (k : Int) < (i : Int) - 1 := by omega
          obtain ⟨q, hq⟩ : ∃ q, q = k - a := ⟨_, rfl⟩
          have hqY : q < Y.length := by have := HB.out; have := HM.out; have := HA.out; omega
          obtain ⟨y, r2, hY2⟩ : ∃ y r2, Y.drop q = y :: r2 := by
            cases h : Y.drop q with
            | nil => have := congrArg List.length h; simp at this; omega
            | cons y r2 => exact ⟨y, r2, rfl⟩
          have hY3 : Y.drop (q + 1) = r2 := by rw [← List.drop_drop, hY2]; rfl
          have hY4 : Y.take (q + 1) = Y.take q ++ [y] := by
            rw [List.take_add, hY2]; rfl
          obtain ⟨P, hP⟩ : ∃ P, P = L ++ Y.take q := ⟨_, rfl⟩
          have hPl : P.length = k := by rw [hP]; have := HA.out; simp; omega
          have HK1 : SO w0 wr g (P ++ (x :: y :: (r2 ++ R))) := by
            have := HK.out
            rw [← hq, hY2] at this
            rw [hP]
            simpa using this
          have hlD : (P ++ (x :: y :: (r2 ++ R))).length = n := by
            have e1 := HN.out
            have e2 := congrArg List.length hY2
            have := HA.out
            simp at e2 ⊢
            omega
          obtain ⟨iN, hiN⟩ : ∃ z, z = k := ⟨_, rfl⟩
          obtain ⟨jN, hjN⟩ : ∃ z, z = k + 1 := ⟨_, rfl⟩
          have pa : (0 : Int) ≤ (k : Int) := by omega
          have ba : (k : Int) < (n : Int) := by omega
          have ea : ((k : Int)).toNat = iN := by omega
          have ra : IntKind.i64.wrap (k : Int) = (k : Int) := by rw [IntKind.wrap_i64]; omega
          have eb : ((k : Int) + 1).toNat = jN := by omega
          have pb : (0 : Int) ≤ (k : Int) + 1 := by omega
          have bb : (k : Int) + 1 < (n : Int) := by have : (P ++ (x :: y :: (r2 ++ R))).length = n := hlD; simp at this; omega
          have rb : IntKind.i64.wrap ((k : Int) + 1) = (k : Int) + 1 := by rw [IntKind.wrap_i64]; omega
          have v1 : rd (P ++ (x :: y :: (r2 ++ R))) (iN : Int) = x := by rw [atN_rd, hiN, ← hPl]; simp [atN]
          have v2 : rd (P ++ (x :: y :: (r2 ++ R))) (jN : Int) = y := by rw [atN_rd, hjN, ← hPl]; simp [atN, List.getD_eq_getElem?_getD]
          have f1 := HK1.fz iN
          have f2 := HK1.fz jN
          have c1 := HK1.cell iN (by omega)
          have c2 := HK1.cell jN (by omega)
          obtain ⟨u, c3⟩ := HK1.c2 iN jN (by omega) y
          have hsw := HK1.swap iN jN
          rw [v1] at c1 hsw
          rw [v2] at c2 hsw
          rw [swp_up_at P (r2 ++ R) y x iN jN (by omega) (by omega)] at hsw
          have HS3 := Aside0.mk hsw
          have HQ := Aside0.mk hq
          have HY3 := Aside0.mk hY3
          have HY4 := Aside0.mk hY4
          have HP := Aside0.mk hP
          clear hsw HK1 HK hlD v1 v2 hq hY2 hY3 hY4 hP hPl hiN hjN hqY
          go_wp2
          go_big_region
          clear c1 c2 c3 f1 f2
          generalize ((wr.setCell ⟨g, iN, none⟩ (.int .i64 y)).setCell ⟨g, jN, none⟩ (.int .i64 x)).drew = w3 at HS3 ⊢
          clear ea eb
          go_wp2
          go_roundg k1
          case measure => omega
          case rel => exact ⟨k + 1, by first | rfl | go_num, by omega, by omega, by omega, ⟨by have := HS3.out; rw [show k + 1 - a = q + 1 by have := HQ.out; omega, HY3.out, HY4.out]; rw [HP.out] at this; simpa using this⟩⟩
        · have hltz : ¬ ((k : Int) < (i : Int) - 1) := by omega
          obtain rfl : k = i - 1 := by omega
          go_wp2
          (try simp only [Exit.inBlock, Exit.then])
          refine bodyPost_ret (results_none rfl _ _ _) rfl ?_
          have e : i - 1 - a = i - m := by omega
          refine ⟨rfl, Y.take (i - m) ++ (x :: Y.drop (i - m)), ⟨?_, ?_⟩, by have := HK.out; rw [e] at this; simpa using this⟩
          · refine List.perm_middle.trans ?_
            rw [List.take_append_drop]
          · have hpy := HT.out.py
            rw [← List.take_append_drop (i - m) Y, List.pairwise_append] at hpy
            have hlo : ∀ p ∈ Y.take (i - m), prec lv p x := by
              intro p hp
              obtain ⟨q, hq, rfl⟩ := mem_atN _ p hp
              simp only [List.length_take] at hq
              have e2 : atN (Y.take (i - m)) q = atN Y q := by simp [atN, List.getD_eq_getElem?_getD, List.getElem?_take, show q < i - m by omega]
              rw [e2]
              exact HLo.out q (by omega)
            have hhi : ∀ p ∈ Y.drop (i - m), prec lv x p := by
              intro p hp
              obtain ⟨q, hq, rfl⟩ := mem_atN _ p hp
              simp only [List.length_drop] at hq
              have e2 : atN (Y.drop (i - m)) q = atN Y (i - m + q) := by simp [atN, List.getD_eq_getElem?_getD, List.getElem?_drop]
              rw [e2]
              exact HHi.out _ (by omega) (by omega)
            rw [List.pairwise_append]
            refine ⟨hpy.1, List.pairwise_cons.2 ⟨hhi, hpy.2.1⟩, ?_⟩
            intro p hp q hq
            rcases List.mem_cons.1 hq with rfl | hq
            · exact hlo p hp
            · exact hpy.2.2 p hp q hq
set_option maxRecDepth 100000 in
set_option maxHeartbeats 6400000 in
theorem merge_right (w0 W : World) (g gb n cap a m b : Nat) (lv : Int → Int) (L X R : List Int) (y : Int) (H : SO w0 W g (L ++ (X ++ ([y] ++ R)))) (hC : Cmps w0 g gb n lv) (hlv : ∀ x, 0 ≤ lv x ∧ lv x ≤ 65536)
    (hn : L.length + X.length + 1 + R.length = n) (ha : a = L.length) (hm : m = L.length + X.length) (hb : b = L.length + X.length + 1) (hX : 1 < X.length) (hT : Two lv n X [y]) (hn2 : n ≤ 512) :
    Calls Try.prog 50 #[.slice (some ⟨g, 0, none⟩) n cap, .int .i64 (a : Int), .int .i64 (m : Int), .int .i64 (b : Int), .func (.func 47) #[] #[.pointer (some ⟨gb, 0, none⟩)]] W fun e w' => e = .returned (.tuple #[]) ∧ ∃ Z, Sorted lv (X ++ [y]) Z ∧ SO w0 w' g (L ++ (Z ++ R)) := by
  have S0 := Aside0.mk H
  have HC := Aside0.mk hC
  have HLV := Aside0.mk hlv
  have HT := Aside0.mk hT
  have HA := Aside0.mk ha
  have HM := Aside0.mk hm
  have HN := Aside0.mk hn
  have HB := Aside0.mk hb
  have hab : a ≤ m ∧ m + 1 = b ∧ b ≤ n := by omega
  obtain ⟨q0, q1, q2⟩ := hab
  have h1 : ((m : Int) - (a : Int) == 1) = false := beq_eq_false_iff_ne.mpr (by omega)
  have h2 : ((b : Int) - (m : Int) == 1) = true := beq_iff_eq.mpr (by omega)
  clear H hC hlv hT ha hm hb hn hX
  go_enter Try.func50, Try.ntmps50
  go_wp2
  go_loopg [14, 15] (m - a) (fun kq v14 v15 wr => ∃ (i j : Nat), v14 = .int .i64 (i : Int) ∧ v15 = .int .i64 (j : Int) ∧ a ≤ i ∧ i ≤ j ∧ j ≤ m ∧ j - i ≤ kq ∧ Aside0 (SO w0 wr g (L ++ (X ++ ([y] ++ R)))) ∧ Aside0 (∀ q : Nat, q < i - a → prec lv (atN X q) y) ∧ Aside0 (∀ q : Nat, j - a ≤ q → q < X.length → prec lv y (atN X q)))
  case atStart => exact ⟨a, m, rfl, rfl, Nat.le_refl _, q0, Nat.le_refl _, Nat.le_refl _, S0, ⟨fun q hq => by omega⟩, ⟨fun q hq hq2 => by have := HA.out; have := HM.out; omega⟩⟩
  case round =>
    clear S0
    obtain ⟨i, j, rfl, rfl, hmi, hij, hjb, hk, H1, HLo, HHi⟩ := hrel
    by_cases hlt : i < j
    · obtain ⟨k1, rfl⟩ : ∃ q, gk = q + 1 := ⟨gk - 1, by omega⟩
      have hltz : (i : Int) < (j : Int) := by omega
      obtain ⟨h, hh⟩ : ∃ h, h = (i + j) / 2 := ⟨_, rfl⟩
      have hu : IntKind.u64.wrap ((i : Int) + (j : Int)) = (i : Int) + (j : Int) := by show ((i : Int) + (j : Int)) % 18446744073709551616 = _; omega
      have hp : (0 : Int) ≤ (i : Int) + (j : Int) := by omega
      have hp2 : (i : Int) + (j : Int) ≤ 1024 := by omega
      have zh : ((i : Int) + (j : Int)) / 2 = (h : Int) := by omega
      have r1 : IntKind.i64.wrap (h : Int) = (h : Int) := by rw [IntKind.wrap_i64]; omega
      have hih : i ≤ h ∧ h < j := by omega
      obtain ⟨h1_, h2_⟩ := hih
      clear hh
      have hHX : h - a < X.length := by have := HA.out; have := HM.out; omega
      obtain ⟨x, hx⟩ : ∃ x, x = atN X (h - a) := ⟨_, rfl⟩
      have hxm : x ∈ X := by rw [hx]; exact atN_mem X _ hHX
      have hxy := HT.out.lt x hxm y (by simp)
      have hxr := HT.out.rx x hxm
      have hyr := HT.out.ry y (by simp)
      have c1 := H1.out.cell h (by have := HN.out; have := HB.out; simp; omega)
      have c2 := H1.out.cell m (by have := HN.out; have := HB.out; simp; omega)
      rw [atN_rd, at_X L X _ h (h - a) (by have := HA.out; omega) hHX, ← hx] at c1
      rw [atN_rd, at_Y L X [y] R m 0 (by have := HM.out; omega) (by simp), show atN [y] 0 = y from rfl] at c2
      have HQ := Aside0.mk (fun q => HC.out.quiet H1.out y x hyr.1 hyr.2 hxr.1 hxr.2 q)
      have pa : (0 : Int) ≤ (h : Int) := by omega
      have ba : (h : Int) < (n : Int) := by omega
      have pb : (0 : Int) ≤ (m : Int) := by omega
      have bb : (m : Int) < (n : Int) := by omega
      have rb : IntKind.i64.wrap (m : Int) = (m : Int) := by rw [IntKind.wrap_i64]; omega
      have hlo : ¬ lv x < lv y → ∀ q : Nat, q < h + 1 - a → prec lv (atN X q) y := by
        intro hv q hq
        have h0 : prec lv x y := by unfold prec; omega
        by_cases e : q = h - a
        · rw [e, ← hx]; exact h0
        · have := pair_at HT.out.px q (h - a) (by omega) hHX
          rw [← hx] at this
          exact prec_trans this h0
      have hhi : lv x < lv y → ∀ q : Nat, h - a ≤ q → q < X.length → prec lv y (atN X q) := by
        intro hv q hq hq2
        by_cases e : q = h - a
        · rw [e, ← hx]; exact .inl hv
        · have := pair_at HT.out.px (h - a) q (by omega) hq2
          rw [← hx] at this
          exact prec_trans (.inl hv) this
      have HHL := Aside0.mk hlo
      have HHH := Aside0.mk hhi
      have HX := Aside0.mk hx
      clear hlo hhi hx hxy hxr hyr hxm hHX
      by_cases hv : lv x < lv y
      · have hd1 : decide (lv x - lv y < 0) = true := decide_eq_true (by omega)
        go_wp2
        go_quiet (first | (go_at_call 47; refine Calls.quiet_of (HQ.out _)))
        have HS2 := Aside0.mk (H1.out.drewN nq)
        clear c1 c2 H1 HQ
        generalize wr.drewN nq = w2 at HS2 ⊢
        go_wp2
        go_roundg k1
        case measure => omega
        case rel => exact ⟨i, h, rfl, by first | rfl | go_num, by omega, by omega, by omega, by omega, HS2, HLo, ⟨HHH.out hv⟩⟩
      · have hd1 : decide (lv x - lv y < 0) = false := decide_eq_false (by omega)
        go_wp2
        go_quiet (first | (go_at_call 47; refine Calls.quiet_of (HQ.out _)))
        have HS2 := Aside0.mk (H1.out.drewN nq)
        clear c1 c2 H1 HQ
        generalize wr.drewN nq = w2 at HS2 ⊢
        go_wp2
        go_roundg k1
        case measure => omega
        case rel => exact ⟨h + 1, j, by first | rfl | go_num, rfl, by omega, by omega, by omega, by omega, HS2, ⟨HHL.out hv⟩, HHi⟩
    · obtain rfl : i = j := by omega
      go_wp2
      go_loopg [17] (m - i) (fun kq v17 wq => ∃ k : Nat, v17 = .int .i64 (k : Int) ∧ i ≤ k ∧ k ≤ m ∧ k - i ≤ kq ∧ Aside0 (SO w0 wq g (L ++ (X.take (k - a) ++ (y :: (X.drop (k - a) ++ R))))))
      case atStart => exact ⟨m, rfl, by omega, Nat.le_refl _, Nat.le_refl _, ⟨by have := H1.out; rw [List.take_of_length_le (by have := HA.out; have := HM.out; omega), List.drop_of_length_le (by have := HA.out; have := HM.out; omega)]; simpa using this⟩⟩
      case round =>
        clear H1
        obtain ⟨k, rfl, hik, hkm, hk2, HK⟩ := hrel
        by_cases hlt2 : i < k
        · obtain ⟨k1, rfl⟩ : ∃ q, gk = q + 1 := ⟨gk - 1, by omega⟩
          obtain ⟨kp, hkp⟩ : ∃ q, q + 1 = k := ⟨k - 1, by omega⟩
          have zkp : (k : Int) = (kp : Int) + 1 := by omega
          have hltz : (i : Int) < (kp : Int) + 1 := by omega
          have hltn : i < kp + 1 := by omega
          obtain ⟨q, hq⟩ : ∃ q, q = kp - a := ⟨_, rfl⟩
          have hqX : q < X.length := by have := HA.out; have := HM.out; omega
          obtain ⟨x, r2, hX2⟩ : ∃ x r2, X.drop q = x :: r2 := by
            cases h : X.drop q with
            | nil => have := congrArg List.length h; simp at this; omega
            | cons x r2 => exact ⟨x, r2, rfl⟩
          have hX3 : X.drop (q + 1) = r2 := by rw [← List.drop_drop, hX2]; rfl
          have hX4 : X.take (q + 1) = X.take q ++ [x] := by rw [List.take_add, hX2]; rfl
          obtain ⟨P, hP⟩ : ∃ P, P = L ++ X.take q := ⟨_, rfl⟩
          have hPl : P.length = kp := by rw [hP]; have := HA.out; simp; omega
          have hka : k - a = q + 1 := by have := HA.out; omega
          have HK1 : SO w0 wr g (P ++ (x :: y :: (r2 ++ R))) := by
            have := HK.out
            rw [hka, hX3, hX4] at this
            rw [hP]
            simpa using this
          have hlD : (P ++ (x :: y :: (r2 ++ R))).length = n := by
            have e1 := HN.out
            have e2 := congrArg List.length hX2
            have := HA.out
            simp at e2 ⊢
            omega
          obtain ⟨iN, hiN⟩ : ∃ z, z = kp + 1 := ⟨_, rfl⟩
          obtain ⟨jN, hjN⟩ : ∃ z, z = kp := ⟨_, rfl⟩
          have pa : (0 : Int) ≤ (kp : Int) := by omega
          have ba : (kp : Int) < (n : Int) := by omega
          have ea : ((kp : Int)).toNat = jN := by omega
          have ra : IntKind.i64.wrap (kp : Int) = (kp : Int) := by rw [IntKind.wrap_i64]; omega
          have eb : ((kp : Int) + 1).toNat = iN := by omega
          have pb : (0 : Int) ≤ (kp : Int) + 1 := by omega
          have bb : (kp : Int) + 1 < (n : Int) := by omega
          have rb : IntKind.i64.wrap ((kp : Int) + 1) = (kp : Int) + 1 := by rw [IntKind.wrap_i64]; omega
          have v1 : rd (P ++ (x :: y :: (r2 ++ R))) (jN : Int) = x := by rw [atN_rd, hjN, ← hPl]; simp [atN]
          have v2 : rd (P ++ (x :: y :: (r2 ++ R))) (iN : Int) = y := by rw [atN_rd, hiN, ← hPl]; simp [atN, List.getD_eq_getElem?_getD]
          have f1 := HK1.fz iN
          have f2 := HK1.fz jN
          have c1 := HK1.cell iN (by omega)
          have c2 := HK1.cell jN (by omega)
          obtain ⟨u, c3⟩ := HK1.c2 iN jN (by omega) x
          have hsw := HK1.swap iN jN
          rw [v1] at c2 hsw
          rw [v2] at c1 hsw
          rw [swp_down_at P (r2 ++ R) y x iN jN (by omega) (by omega)] at hsw
          have HS3 := Aside0.mk hsw
          have HQ := Aside0.mk (And.intro hq hkp)
          have HX2 := Aside0.mk hX2
          have HP := Aside0.mk hP
          clear hsw HK1 HK hlD v1 v2 hq hX2 hX3 hX4 hP hPl hiN hjN hqX hkp hka
          go_wp2
          go_big_region
          clear c1 c2 c3 f1 f2
          generalize ((wr.setCell ⟨g, iN, none⟩ (.int .i64 x)).setCell ⟨g, jN, none⟩ (.int .i64 y)).drew = w3 at HS3 ⊢
          clear ea eb
          go_wp2
          go_roundg k1
          case measure => omega
          case rel => exact ⟨kp, by first | rfl | go_num, by omega, by omega, by omega, ⟨by have := HS3.out; rw [← HQ.out.1, HX2.out]; rw [HP.out] at this; simpa using this⟩⟩
        · have hltz : ¬ ((i : Int) < (k : Int)) := by omega
          obtain rfl : i = k := by omega
          go_wp2
          (try simp only [Exit.inBlock, Exit.then])
          refine bodyPost_ret (results_none rfl _ _ _) rfl ?_
          refine ⟨rfl, X.take (i - a) ++ (y :: X.drop (i - a)), ⟨?_, ?_⟩, by have := HK.out; simpa using this⟩
          · refine List.perm_middle.trans ?_
            rw [List.take_append_drop]
            exact (List.perm_append_singleton y X).symm
          · have hpx := HT.out.px
            rw [← List.take_append_drop (i - a) X, List.pairwise_append] at hpx
            have hlo : ∀ p ∈ X.take (i - a), prec lv p y := by
              intro p hp
              obtain ⟨q, hq, rfl⟩ := mem_atN _ p hp
              simp only [List.length_take] at hq
              have e2 : atN (X.take (i - a)) q = atN X q := by simp [atN, List.getD_eq_getElem?_getD, List.getElem?_take, show q < i - a by omega]
              rw [e2]
              exact HLo.out q (by omega)
            have hhi : ∀ p ∈ X.drop (i - a), prec lv y p := by
              intro p hp
              obtain ⟨q, hq, rfl⟩ := mem_atN _ p hp
              simp only [List.length_drop] at hq
              have e2 : atN (X.drop (i - a)) q = atN X (i - a + q) := by simp [atN, List.getD_eq_getElem?_getD, List.getElem?_drop]
              rw [e2]
              exact HHi.out _ (by omega) (by omega)
            rw [List.pairwise_append]
            refine ⟨hpx.1, List.pairwise_cons.2 ⟨hhi, hpx.2.1⟩, ?_⟩
            intro p hp q hq
            rcases List.mem_cons.1 hq with rfl | hq
            · exact hlo p hp
            · exact hpx.2.2 p hp q hq
end Go.Proofs.Ytldbdifdldmgfaa.PAll
