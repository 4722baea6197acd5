/- Rows while they are sorted: a stretch sorted by insertion. -/
import Derived.Test.YtldbdifdldmgfaaSoA
namespace Go.Proofs.Ytldbdifdldmgfaa.PAll
open Go.RowKit Go.Proofs.Ytldbdifdldmgfaa.Math Go.Proofs.YtldbdifdldmgfaaW.PrintWords Go.Proofs.YtldbdifdldmgfaaW.PrintLast Go.Proofs.YtldbdifdldmgfaaW.PrintMore
set_option linter.unusedVariables false
set_option linter.unusedSimpArgs false

/-- What the comparison tells, whatever the row holds. -/
structure Cmps (w0 : World) (g gb N : Nat) (lv : Int → Int) : Prop where
  out : ∀ (W : World) (l : List Int), SO w0 W g l → ∀ a b : Int, 0 ≤ a → a < N → 0 ≤ b → b < N →
    Calls Try.prog 47 #[.int .i64 a, .int .i64 b, .pointer (some ⟨gb, 0, none⟩)] W fun e w' => e = .returned (.int .i64 (lv b - lv a)) ∧ Drawn0 W w'
theorem Cmps.quiet {w0 W : World} {g gb N : Nat} {lv : Int → Int} {l : List Int} (h : Cmps w0 g gb N lv) (S : SO w0 W g l) (a b : Int) (a0 : 0 ≤ a) (a1 : a < N) (b0 : 0 ≤ b) (b1 : b < N) (n : Nat) :
    Calls Try.prog 47 #[.int .i64 a, .int .i64 b, .pointer (some ⟨gb, 0, none⟩)] (W.drewN n) fun e w' => e = .returned (.int .i64 (lv b - lv a)) ∧ ∃ m, w' = (W.drewN n).drewN m := by
  refine (h.out _ l (S.drewN n) a b a0 a1 b0 b1).mono ?_
  rintro e w' ⟨rfl, ⟨⟨m, rfl⟩⟩⟩
  exact ⟨rfl, m, rfl⟩
/-- Ahead of: the greater rest first, of equal ones the one ahead. -/
def prec (lv : Int → Int) (x y : Int) : Prop := lv y < lv x ∨ (lv x = lv y ∧ x < y)
theorem prec_trans {lv : Int → Int} {x y z : Int} (h : prec lv x y) (k : prec lv y z) : prec lv x z := by unfold prec at *; omega
theorem swp_up (P Q : List Int) (x y : Int) : swp (P ++ (y :: x :: Q)) P.length (P.length + 1) = P ++ (x :: y :: Q) := by
  apply list_ext_at
  · rw [swp_len]; simp
  · intro q hq
    rw [swp_len] at hq
    simp only [List.length_append, List.length_cons] at hq
    rw [atN_swp _ _ _ _ (by simp) (by simp)]
    have e1 : atN (P ++ (y :: x :: Q)) P.length = y := by simp [atN]
    have e2 : atN (P ++ (y :: x :: Q)) (P.length + 1) = x := by simp [atN, List.getD_eq_getElem?_getD]
    rw [e1, e2]
    by_cases c1 : q = P.length + 1
    · subst c1
      rw [if_pos rfl]
      simp [atN, List.getD_eq_getElem?_getD]
    · rw [if_neg c1]
      by_cases c2 : q = P.length
      · subst c2
        rw [if_pos rfl]
        simp [atN]
      · rw [if_neg c2, atN_append, atN_append]
        by_cases c3 : q < P.length
        · rw [if_pos c3, if_pos c3]
        · rw [if_neg c3, if_neg c3]
          obtain ⟨r, hr⟩ : ∃ r, q - P.length = r + 2 := ⟨q - P.length - 2, by omega⟩
          rw [hr]
          rfl
theorem swp_comm (l : List Int) (i j : Nat) (hi : i < l.length) (hj : j < l.length) : swp l i j = swp l j i := by
  apply list_ext_at
  · rw [swp_len, swp_len]
  · intro q hq
    rw [atN_swp _ _ _ _ hi hj, atN_swp _ _ _ _ hj hi]
    by_cases c1 : q = j <;> by_cases c2 : q = i <;> simp_all
theorem swp_down (P Q : List Int) (x y : Int) : swp (P ++ (y :: x :: Q)) (P.length + 1) P.length = P ++ (x :: y :: Q) := by
  rw [swp_comm _ _ _ (by simp) (by simp), swp_up]
theorem swp_down_at (P Q : List Int) (x y : Int) (i j : Nat) (hi : i = P.length + 1) (hj : j = P.length) : swp (P ++ (y :: x :: Q)) i j = P ++ (x :: y :: Q) := by
  subst hi hj; exact swp_down P Q x y
theorem swp_up_at (P Q : List Int) (x y : Int) (i j : Nat) (hi : i = P.length) (hj : j = P.length + 1) : swp (P ++ (y :: x :: Q)) i j = P ++ (x :: y :: Q) := by
  subst hi hj; exact swp_up P Q x y
theorem snoc_form : ∀ l : List Int, l ≠ [] → ∃ l' x, l = l' ++ [x]
  | [], h => absurd rfl h
  | l, h => ⟨l.dropLast, l.getLast h, (List.dropLast_concat_getLast h).symm⟩
structure Sorted (lv : Int → Int) (S Z : List Int) : Prop where
  perm : Z.Perm S
  pair : Z.Pairwise (prec lv)
set_option maxRecDepth 100000 in
set_option maxHeartbeats 6400000 in
theorem insertion_calls (w0 W : World) (g gb n cap a b : Nat) (lv : Int → Int) (L S R : List Int) (H : SO w0 W g (L ++ (S ++ R))) (hC : Cmps w0 g gb n lv) (hlv : ∀ x, 0 ≤ lv x ∧ lv x ≤ 65536)
    (hn : L.length + S.length + R.length = n) (ha : a = L.length) (hb : b = L.length + S.length) (hin : ∀ x ∈ S, 0 ≤ x ∧ x < n) (hup : S.Pairwise (· < ·)) (hn2 : n ≤ 512) :
    Calls Try.prog 49 #[.slice (some ⟨g, 0, none⟩) n cap, .int .i64 (a : Int), .int .i64 (b : Int), .func (.func 47) #[] #[.pointer (some ⟨gb, 0, none⟩)]] W fun e w' => e = .returned (.tuple #[]) ∧ ∃ Z, Sorted lv S Z ∧ SO w0 w' g (L ++ (Z ++ R)) := by
  have S0 := Aside0.mk H
  have HC := Aside0.mk hC
  have HLV := Aside0.mk hlv
  have HIN := Aside0.mk hin
  have HUP := Aside0.mk hup
  have HA := Aside0.mk ha
  have HN := Aside0.mk hn
  have HB := Aside0.mk hb
  have hab : a ≤ b ∧ b ≤ n := by omega
  obtain ⟨q1, q2⟩ := hab
  clear H hC hlv hin hup ha hb hn
  go_enter Try.func49, Try.ntmps49
  go_wp2
  go_loopg [8] (b + 1 - a) (fun kq v8 wr => ∃ (i : Nat) (S1 S2 Z : List Int), v8 = .int .i64 (i : Int) ∧ a < i ∧ i ≤ b + 1 ∧ b + 1 ≤ i + kq ∧ Aside0 (S = S1 ++ S2 ∧ (L.length + S1.length = i ∨ (b < i ∧ S2 = []))) ∧ Aside0 (Sorted lv S1 Z) ∧ Aside0 (SO w0 wr g (L ++ (Z ++ (S2 ++ R)))))
  case atStart =>
    refine ⟨a + 1, S.take 1, S.drop 1, S.take 1, by first | rfl | go_num, by omega, by omega, by omega, ⟨(List.take_append_drop 1 S).symm, ?_⟩, ⟨List.Perm.refl _, ?_⟩, ⟨?_⟩⟩
    · have := HA.out
      have := HB.out
      cases S with
      | nil => exact .inr ⟨by simp at this; omega, rfl⟩
      | cons x r => exact .inl (by simp; omega)
    · cases S with
      | nil => exact List.Pairwise.nil
      | cons x r => simp
    · rw [← List.append_assoc (S.take 1), List.take_append_drop]
      exact S0.out
  case round =>
    clear S0
    obtain ⟨i, S1, S2, Z, rfl, hai, hib, hk, HS, HZ, H1⟩ := hrel
    by_cases hlt : i < b
    · obtain ⟨k1, rfl⟩ : ∃ q, gk = q + 1 := ⟨gk - 1, by omega⟩
      obtain ⟨x, r2, hS2, hLS⟩ : ∃ x r2, S2 = x :: r2 ∧ L.length + S1.length = i := by
        obtain ⟨e1, e2⟩ := HS.out
        have e3 := HB.out
        have e4 : L.length + S1.length = i := by rcases e2 with e2 | ⟨e2, _⟩ <;> omega
        cases S2 with
        | nil => rw [e1] at e3; simp at e3; omega
        | cons x r => exact ⟨x, r, rfl, e4⟩
      subst hS2
      have hZ1 : Z.length = S1.length := HZ.out.perm.length_eq
      have hx1 : 0 ≤ x ∧ x < n := HIN.out x (by rw [HS.out.1]; simp)
      have hlo : ∀ y ∈ Z, y < x ∧ 0 ≤ y := by
        intro y hy
        have hy1 : y ∈ S1 := HZ.out.perm.mem_iff.1 hy
        have hp := HUP.out
        rw [HS.out.1, List.pairwise_append] at hp
        exact ⟨hp.2.2 y hy1 x (by simp), (HIN.out y (by rw [HS.out.1]; simp [hy1])).1⟩
      have HLO := Aside0.mk hlo
      have hltz : (i : Int) < (b : Int) := by omega
      obtain ⟨x0, x1⟩ := hx1
      have hlen : L.length + Z.length + 1 + r2.length + R.length = n := by
        have e1 := HN.out
        rw [HS.out.1] at e1
        simp at e1
        omega
      have HLEN := Aside0.mk hlen
      clear hlo hlen
      go_wp2
      go_loopg [9] (i) (fun kq v9 wq => ∃ (j : Nat) (Zp Zq : List Int), v9 = .int .i64 (j : Int) ∧ L.length + Zp.length = j ∧ j ≤ i ∧ j ≤ kq ∧ Aside0 (Z = Zp ++ Zq ∧ ∀ q ∈ Zq, prec lv x q) ∧ Aside0 (SO w0 wq g (L ++ (Zp ++ (x :: (Zq ++ (r2 ++ R)))))))
      case atStart => exact ⟨i, Z, [], by first | rfl | go_num, by omega, Nat.le_refl _, Nat.le_refl _, ⟨by simp, by simp⟩, ⟨by have := H1.out; simpa using this⟩⟩
      case round =>
        clear H1
        obtain ⟨j, Zp, Zq, rfl, hj, hji, hkj, HZZ, HJ⟩ := hrel
        have out : (Zp = [] ∨ ∃ Zp' y, Zp = Zp' ++ [y] ∧ prec lv y x) → Aside0 (S = (S1 ++ [x]) ++ r2 ∧ (L.length + (S1 ++ [x]).length = i + 1 ∨ (b < i + 1 ∧ r2 = []))) ∧ Aside0 (Sorted lv (S1 ++ [x]) (Zp ++ (x :: Zq))) := by
          intro hz
          refine ⟨⟨by rw [HS.out.1]; simp, .inl (by simp; omega)⟩, ⟨?_, ?_⟩⟩
          · have hp := HZ.out.perm
            rw [HZZ.out.1] at hp
            exact (List.perm_middle.trans (hp.cons x)).trans (List.perm_append_singleton x S1).symm
          · have hp := HZ.out.pair
            rw [HZZ.out.1, List.pairwise_append] at hp
            rw [List.pairwise_append]
            refine ⟨hp.1, List.pairwise_cons.2 ⟨HZZ.out.2, hp.2.1⟩, ?_⟩
            intro p hpm q hq
            have hpx : prec lv p x := by
              rcases hz with rfl | ⟨Zp', y, rfl, hy⟩
              · exact absurd hpm (by simp)
              · rcases List.mem_append.1 hpm with h1 | h1
                · have h2 := hp.1
                  rw [List.pairwise_append] at h2
                  exact prec_trans (h2.2.2 p h1 y (by simp)) hy
                · obtain rfl : p = y := by simpa using h1
                  exact hy
            rcases List.mem_cons.1 hq with rfl | h1
            · exact hpx
            · exact hp.2.2 p hpm q h1
        have OUT := Aside0.mk out
        clear out
        rcases List.eq_nil_or_concat Zp with hz | ⟨Zp', y, hz⟩
        · have hja : ¬ ((a : Int) < (j : Int)) := by have := HA.out; rw [hz] at hj; simp at hj; omega
          have hjad : decide ((j : Int) > (a : Int)) = false := decide_eq_false hja
          have HZ0 := Aside0.mk hz
          have hjn : decide (a < j) = false := decide_eq_false (by omega)
          have hjn2 : ¬ a < j := by omega
          have HJJ := Aside0.mk hj
          have HLS := Aside0.mk hLS
          have HZ1 := Aside0.mk hZ1
          clear hz hj hLS hZ1
          go_wp2_with fail
          go_big_region
          have HJ2 := Aside0.mk (HJ.out.drew)
          clear HJ
          generalize wr.drew = w2 at HJ2 ⊢
          go_wp2
          go_roundg k1
          case measure => omega
          case rel => exact ⟨i + 1, S1 ++ [x], r2, Zp ++ (x :: Zq), by first | rfl | go_num, by omega, by omega, by omega, (OUT.out (.inl HZ0.out)).1, (OUT.out (.inl HZ0.out)).2, ⟨by have := HJ2.out; simpa using this⟩⟩
        · rw [List.concat_eq_append] at hz
          obtain ⟨P, hP⟩ : ∃ P, P = L ++ Zp' := ⟨_, rfl⟩
          obtain ⟨Q, hQ⟩ : ∃ Q, Q = Zq ++ (r2 ++ R) := ⟨_, rfl⟩
          have HJ1 : SO w0 wr g (P ++ (y :: x :: Q)) := by
            have := HJ.out
            rw [hz, ← hQ] at this
            rw [hP]
            simpa using this
          have hPl : L.length + Zp'.length = P.length := by rw [hP]; simp
          have hjl : P.length + 1 = j := by rw [hz] at hj; simp at hj; omega
          obtain ⟨jp, hjp⟩ : ∃ q, q = P.length := ⟨_, rfl⟩
          have hlD : (P ++ (y :: x :: Q)).length = n := by
            have e1 := HLEN.out
            have e2 := HZZ.out.1
            have e3 := congrArg List.length e2
            rw [hz] at e3
            rw [hP, hQ]
            simp at e3 ⊢
            omega
          have hyz : y ∈ Z := by rw [HZZ.out.1, hz]; simp
          obtain ⟨hyx, y0⟩ := HLO.out y hyz
          have zjp : (j : Int) = (jp : Int) + 1 := by omega
          have hja : a < jp + 1 := by have := HA.out; omega
          have hjaz : (a : Int) < (jp : Int) + 1 := by omega
          have hjad : decide ((jp : Int) + 1 > (a : Int)) = true := decide_eq_true (by omega)
          have hPQ : jp + 1 < n := by rw [← hlD, hjp]; simp
          obtain ⟨iN, hiN⟩ : ∃ q, q = jp + 1 := ⟨_, rfl⟩
          obtain ⟨jN, hjN⟩ : ∃ q, q = jp := ⟨_, rfl⟩
          have ea : ((jp : Int) + 1).toNat = iN := by omega
          have pa : (0 : Int) ≤ (jp : Int) + 1 := by omega
          have ba : (jp : Int) + 1 < (n : Int) := by omega
          have ra : IntKind.i64.wrap ((jp : Int) + 1) = (jp : Int) + 1 := by rw [IntKind.wrap_i64]; omega
          have ec : ((jp : Int)).toNat = jN := by omega
          have pc : (0 : Int) ≤ (jp : Int) := by omega
          have bc : (jp : Int) < (n : Int) := by omega
          have rc : IntKind.i64.wrap ((jp : Int)) = (jp : Int) := by rw [IntKind.wrap_i64]; omega
          have v1 : rd (P ++ (y :: x :: Q)) (iN : Int) = x := by rw [atN_rd, hiN, hjp]; simp [atN, List.getD_eq_getElem?_getD]
          have v2 : rd (P ++ (y :: x :: Q)) (jN : Int) = y := by rw [atN_rd, hjN, hjp]; simp [atN]
          have c1 := HJ1.cell iN (by omega)
          have c2 := HJ1.cell jN (by omega)
          rw [v1] at c1
          rw [v2] at c2
          have HQ := Aside0.mk (fun m => HC.out.quiet HJ1 x y x0 x1 y0 (by omega) m)
          have HS1 := Aside0.mk HJ1
          have VV := Aside0.mk (And.intro v1 v2)
          have HP := Aside0.mk hP
          have HQQ := Aside0.mk hQ
          have HJL := Aside0.mk hjl
          have HJP := Aside0.mk hjp
          have HLD := Aside0.mk hlD
          have HZE := Aside0.mk hz
          have HIJ := Aside0.mk (And.intro hiN hjN)
          have HLSS := Aside0.mk (And.intro hj (And.intro hLS hZ1))
          have HPL := Aside0.mk hPl
          clear v1 v2 hP hQ hjl hjp hlD hz hiN hjN HJ1 HJ hj hLS hZ1 hyz hPl
          by_cases hv : lv y < lv x
          · have hd1 : decide (lv y - lv x < 0) = true := decide_eq_true (by omega)
            go_wp2_with fail
            go_quiet (first | (go_at_call 47; refine Calls.quiet_of (HQ.out _)))
            have HS2 := Aside0.mk (HS1.out.drewN nq)
            clear c1 c2 HS1 HQ
            generalize wr.drewN nq = w2 at HS2 ⊢
            go_wp2_with fail
            have f1 := HS2.out.fz iN
            have f2 := HS2.out.fz jN
            have c1 := HS2.out.cell iN (by have := HIJ.out; have := HLD.out; omega)
            have c2 := HS2.out.cell jN (by have := HIJ.out; have := HLD.out; omega)
            obtain ⟨u, c3⟩ := HS2.out.c2 iN jN (by have := HIJ.out; have := HLD.out; omega) y
            have hsw := HS2.out.swap iN jN
            rw [VV.out.1] at c1 hsw
            rw [VV.out.2] at c2 hsw
            rw [swp_down_at P Q x y iN jN (by rw [HIJ.out.1, HJP.out]) (by rw [HIJ.out.2, HJP.out])] at hsw
            have HS3 := Aside0.mk hsw
            clear hsw HS2
            go_wp2_with fail
            go_big_region
            clear c1 c2 c3 f1 f2
            generalize ((w2.setCell ⟨g, iN, none⟩ (.int .i64 y)).setCell ⟨g, jN, none⟩ (.int .i64 x)).drew = w3 at HS3 ⊢
            clear ea ec
            go_wp2
            go_roundg jp
            case measure => omega
            case rel => exact ⟨jp, Zp', y :: Zq, by first | rfl | go_num, by rw [HPL.out, HJP.out], by omega, by omega, ⟨by rw [HZZ.out.1, HZE.out]; simp, by intro q hq; rcases List.mem_cons.1 hq with rfl | h1; exact .inl hv; exact HZZ.out.2 q h1⟩, ⟨by have := HS3.out; rw [HP.out, HQQ.out] at this; simpa using this⟩⟩
          · have hd1 : decide (lv y - lv x < 0) = false := decide_eq_false (by omega)
            go_wp2_with fail
            go_quiet (first | (go_at_call 47; refine Calls.quiet_of (HQ.out _)))
            have HS2 := Aside0.mk (HS1.out.drewN nq)
            clear c1 c2 HS1 HQ
            generalize wr.drewN nq = w2 at HS2 ⊢
            clear ea ec
            go_wp2
            go_roundg k1
            case measure => omega
            case rel => exact ⟨i + 1, S1 ++ [x], r2, Zp ++ (x :: Zq), by first | rfl | go_num, by omega, by omega, by omega, (OUT.out (.inr ⟨Zp', y, HZE.out, by unfold prec; omega⟩)).1, (OUT.out (.inr ⟨Zp', y, HZE.out, by unfold prec; omega⟩)).2, ⟨by have := HS2.out; rw [HP.out, HQQ.out] at this; rw [HZE.out]; simpa using this⟩⟩
    · go_wp2
      go_end0
      have e4 : S2 = [] := by
        obtain ⟨e1, e2⟩ := HS.out
        have e3 := HB.out
        rcases e2 with e2 | ⟨_, e2⟩
        · cases S2 with
          | nil => rfl
          | cons y r => rw [e1] at e3; simp at e3; omega
        · exact e2
      refine ⟨rfl, Z, ?_, ?_⟩
      · rw [HS.out.1, e4, List.append_nil]
        exact HZ.out
      · have := H1.out
        rw [e4] at this
        exact this
end Go.Proofs.Ytldbdifdldmgfaa.PAll
