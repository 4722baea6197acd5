/- Rows while they are sorted: two sorted stretches become one. -/
import Derived.Test.YtldbdifdldmgfaaSoD
namespace Go.Proofs.Ytldbdifdldmgfaa.PAll
open Go.RowKit Go.Proofs.Ytldbdifdldmgfaa.Math Go.Proofs.YtldbdifdldmgfaaW.PrintWords Go.Proofs.YtldbdifdldmgfaaW.PrintLast Go.Proofs.YtldbdifdldmgfaaW.PrintMore
set_option linter.unusedVariables false
set_option linter.unusedSimpArgs false

/-- What a merge of fewer than M elements does. -/
def Merges (w0 : World) (g gb n cap : Nat) (lv : Int → Int) (M : Nat) : Prop :=
  ∀ (L X Y R : List Int) (W : World) (a m b : Nat), X.length + Y.length < M → 0 < X.length → 0 < Y.length → SO w0 W g (L ++ (X ++ (Y ++ R))) → L.length + X.length + Y.length + R.length = n → a = L.length → m = L.length + X.length → b = L.length + X.length + Y.length → Two lv n X Y →
    Calls Try.prog 50 #[.slice (some ⟨g, 0, none⟩) n cap, .int .i64 (a : Int), .int .i64 (m : Int), .int .i64 (b : Int), .func (.func 47) #[] #[.pointer (some ⟨gb, 0, none⟩)]] W fun e w' => e = .returned (.tuple #[]) ∧ ∃ Z, Sorted lv (X ++ Y) Z ∧ SO w0 w' g (L ++ (Z ++ R))
theorem empty_of {l : List Int} (h : ¬ 0 < l.length) : l = [] := by cases l with | nil => rfl | cons x r => simp at h
set_option maxRecDepth 100000 in
set_option maxHeartbeats 16000000 in
theorem merge_main (w0 W : World) (g gb n cap a m b : Nat) (lv : Int → Int) (L X Y R : List Int) (H : SO w0 W g (L ++ (X ++ (Y ++ R)))) (hC : Cmps w0 g gb n lv) (hlv : ∀ x, 0 ≤ lv x ∧ lv x ≤ 65536)
    (hn : L.length + X.length + Y.length + R.length = n) (ha : a = L.length) (hm : m = L.length + X.length) (hb : b = L.length + X.length + Y.length) (hX : 1 < X.length) (hY : 1 < Y.length) (hT : Two lv n X Y) (hn2 : n ≤ 512)
    (hrec : Merges w0 g gb n cap lv (X.length + Y.length)) :
    Calls Try.prog 50 #[.slice (some ⟨g, 0, none⟩) n cap, .int .i64 (a : Int), .int .i64 (m : Int), .int .i64 (b : Int), .func (.func 47) #[] #[.pointer (some ⟨gb, 0, none⟩)]] W fun e w' => e = .returned (.tuple #[]) ∧ ∃ Z, Sorted lv (X ++ Y) Z ∧ SO w0 w' g (L ++ (Z ++ R)) := by
  have S0 := Aside0.mk H
  have HC := Aside0.mk hC
  have HLV := Aside0.mk hlv
  have HT := Aside0.mk hT
  have HA := Aside0.mk ha
  have HM := Aside0.mk hm
  have HN := Aside0.mk hn
  have HB := Aside0.mk hb
  have HREC := Aside0.mk hrec
  obtain ⟨mid, hmid⟩ : ∃ q, q = (a + b) / 2 := ⟨_, rfl⟩
  have hab : a + 2 ≤ m ∧ m + 2 ≤ b ∧ b ≤ n ∧ a < mid ∧ mid < b ∧ 2 * mid ≤ a + b ∧ a + b ≤ 2 * mid + 1 := by omega
  obtain ⟨q0, q1, q2, q3, q4, q5, q6⟩ := hab
  have h1 : ((m : Int) - (a : Int) == 1) = false := beq_eq_false_iff_ne.mpr (by omega)
  have h2 : ((b : Int) - (m : Int) == 1) = false := beq_eq_false_iff_ne.mpr (by omega)
  have hu : IntKind.u64.wrap ((a : Int) + (b : Int)) = (a : Int) + (b : Int) := by show ((a : Int) + (b : Int)) % 18446744073709551616 = _; omega
  have zmid : ((a : Int) + (b : Int)) / 2 = (mid : Int) := by omega
  have rmid : IntKind.i64.wrap (mid : Int) = (mid : Int) := by rw [IntKind.wrap_i64]; omega
  obtain ⟨lo, hi, hlh⟩ : ∃ lo hi : Nat, (mid < m ∧ lo + b = mid + m ∧ hi = mid) ∨ (¬ mid < m ∧ lo = a ∧ hi = m) := by
    by_cases c : mid < m
    · exact ⟨mid + m - b, mid, .inl ⟨c, by omega, rfl⟩⟩
    · exact ⟨a, m, .inr ⟨c, rfl, rfl⟩⟩
  have l1 : a ≤ lo ∧ lo ≤ hi ∧ hi ≤ m ∧ hi ≤ mid ∧ mid + m ≤ b + lo ∧ (lo = a ∨ lo + b = mid + m) ∧ (hi = m ∨ hi = mid) := by omega
  obtain ⟨l2, l3, l4, l5, l6, l7, l8⟩ := l1
  have L7 := Aside0.mk l7
  have L8 := Aside0.mk l8
  clear H hC hlv hT ha hm hb hn hX hY hrec hmid l7 l8
  obtain ⟨nn, hnn⟩ : ∃ q, q = mid + m := ⟨_, rfl⟩
  obtain ⟨p, hp1⟩ : ∃ q, q + 1 = mid + m := ⟨mid + m - 1, by omega⟩
  have znn : (mid : Int) + (m : Int) = (nn : Int) := by omega
  have zp : (nn : Int) - 1 = (p : Int) := by omega
  have HP1 := Aside0.mk hp1
  have HNN := Aside0.mk hnn
  clear hp1 hnn
  by_cases hmm : mid < m
  all_goals
    have zs : (if mid < m then (nn : Int) - (b : Int) = (lo : Int) else a = lo) := by
      first
      | rw [if_pos hmm]; omega
      | rw [if_neg hmm]; omega
    have zr : (if mid < m then mid = hi else m = hi) := by
      first
      | rw [if_pos hmm]; omega
      | rw [if_neg hmm]; omega
    first
    | rw [if_pos hmm] at zs zr
    | rw [if_neg hmm] at zs zr
    have ZR := Aside0.mk zr
    have ZS := Aside0.mk zs
    clear hlh zr
    first
    | (have zs_ : a = lo := zs; clear zs zs_)
    | skip
    go_enter Try.func50, Try.ntmps50
    go_wp2
    go_loopg [20, 21] (hi - lo) (fun kq v20 v21 wr => ∃ (s r : Nat), v20 = .int .i64 (s : Int) ∧ v21 = .int .i64 (r : Int) ∧ lo ≤ s ∧ s ≤ r ∧ r ≤ hi ∧ r - s ≤ kq ∧ Aside0 (SO w0 wr g (L ++ (X ++ (Y ++ R)))) ∧
      Aside0 (lo < s → prec lv (atN X (s - 1 - a)) (atN Y (mid + m - s - m))) ∧ Aside0 (r < hi → prec lv (atN Y (mid + m - 1 - r - m)) (atN X (r - a))))
    case atStart => exact ⟨lo, hi, by first | rfl | (rw [ZS.out]), by first | rfl | (rw [ZR.out]), Nat.le_refl _, l3, Nat.le_refl _, Nat.le_refl _, S0, ⟨fun h => absurd h (Nat.lt_irrefl _)⟩, ⟨fun h => absurd h (Nat.lt_irrefl _)⟩⟩
    case round =>
      clear S0 h1 h2 hu zmid rmid hmm ZS ZR zp znn
      (try clear zs)
      obtain ⟨s, r, rfl, rfl, hls, hsr, hrh, hk, H1, HA1, HB1⟩ := hrel
      have hp1 := HP1.out
      have hnn := HNN.out
      by_cases hlt : s < r
      · obtain ⟨k1, rfl⟩ : ∃ q, gk = q + 1 := ⟨gk - 1, by omega⟩
        have hltz : (s : Int) < (r : Int) := by omega
        obtain ⟨c, hh⟩ : ∃ c, c = (s + r) / 2 := ⟨_, rfl⟩
        have hu : IntKind.u64.wrap ((s : Int) + (r : Int)) = (s : Int) + (r : Int) := by show ((s : Int) + (r : Int)) % 18446744073709551616 = _; omega
        have hp : (0 : Int) ≤ (s : Int) + (r : Int) := by omega
        have hp2 : (s : Int) + (r : Int) ≤ 1024 := by omega
        have zh : ((s : Int) + (r : Int)) / 2 = (c : Int) := by omega
        have r1 : IntKind.i64.wrap (c : Int) = (c : Int) := by rw [IntKind.wrap_i64]; omega
        have hih : s ≤ c ∧ c < r := by omega
        obtain ⟨h1_, h2_⟩ := hih
        clear hh
        obtain ⟨z, hz⟩ : ∃ z, z + c = p := ⟨p - c, by omega⟩
        have zz : (p : Int) - (c : Int) = (z : Int) := by omega
        have rz : IntKind.i64.wrap (z : Int) = (z : Int) := by rw [IntKind.wrap_i64]; omega
        have hzm : m ≤ z ∧ z < b := by omega
        have hcX : c - a < X.length := by have := HA.out; have := HM.out; omega
        have hzY : z - m < Y.length := by have := HB.out; have := HM.out; omega
        obtain ⟨x, hx⟩ : ∃ x, x = atN X (c - a) := ⟨_, rfl⟩
        obtain ⟨y, hy⟩ : ∃ y, y = atN Y (z - m) := ⟨_, rfl⟩
        have hxm : x ∈ X := by rw [hx]; exact atN_mem X _ hcX
        have hym : y ∈ Y := by rw [hy]; exact atN_mem Y _ hzY
        have hxy := HT.out.lt x hxm y hym
        have hxr := HT.out.rx x hxm
        have hyr := HT.out.ry y hym
        have c1 := H1.out.cell c (by have := HN.out; have := HB.out; simp; omega)
        have c2 := H1.out.cell z (by have := HN.out; have := HB.out; simp; omega)
        rw [atN_rd, at_X L X _ c (c - a) (by have := HA.out; omega) hcX, ← hx] at c1
        rw [atN_rd, at_Y L X Y R z (z - m) (by have := HM.out; omega) hzY, ← hy] at c2
        have HQ := Aside0.mk (fun q => HC.out.quiet H1.out y x hyr.1 hyr.2 hxr.1 hxr.2 q)
        have pa : (0 : Int) ≤ (c : Int) := by omega
        have ba : (c : Int) < (n : Int) := by omega
        have pb : (0 : Int) ≤ (z : Int) := by omega
        have bb : (z : Int) < (n : Int) := by omega
        have hlo : ¬ lv x < lv y → prec lv (atN X (c + 1 - 1 - a)) (atN Y (mid + m - (c + 1) - m)) := by
          intro hv
          rw [show c + 1 - 1 - a = c - a by omega, show mid + m - (c + 1) - m = z - m by omega, ← hx, ← hy]
          unfold prec; omega
        have hhi : lv x < lv y → prec lv (atN Y (mid + m - 1 - c - m)) (atN X (c - a)) := by
          intro hv
          rw [show mid + m - 1 - c - m = z - m by omega, ← hx, ← hy]
          exact .inl hv
        have HHL := Aside0.mk hlo
        have HHH := Aside0.mk hhi
        have HXY := Aside0.mk (And.intro hx hy)
        clear hlo hhi hx hy hxy hxr hyr hxm hym hcX hzY
        have HZ := Aside0.mk hz
        clear hz hp1 hnn
        by_cases hv : lv x < lv y
        · have hd1 : decide (lv x - lv y < 0) = true := decide_eq_true (by omega)
          go_wp2
          go_quiet (first | (go_at_call 47; refine Calls.quiet_of (HQ.out _)))
          have HS2 := Aside0.mk (H1.out.drewN nq)
          clear c1 c2 H1 HQ
          generalize wr.drewN nq = w2 at HS2 ⊢
          go_wp2
          go_roundg k1
          case measure => omega
          case rel => exact ⟨s, c, rfl, by first | rfl | go_num, by omega, by omega, by omega, by omega, HS2, HA1, ⟨fun _ => HHH.out hv⟩⟩
        · have hd1 : decide (lv x - lv y < 0) = false := decide_eq_false (by omega)
          go_wp2
          go_quiet (first | (go_at_call 47; refine Calls.quiet_of (HQ.out _)))
          have HS2 := Aside0.mk (H1.out.drewN nq)
          clear c1 c2 H1 HQ
          generalize wr.drewN nq = w2 at HS2 ⊢
          go_wp2
          go_roundg k1
          case measure => omega
          case rel => exact ⟨c + 1, r, by first | rfl | go_num, rfl, by omega, by omega, by omega, by omega, HS2, ⟨fun _ => HHL.out hv⟩, HB1⟩
      · obtain rfl : s = r := by omega
        obtain ⟨e, he⟩ : ∃ e, e + s = mid + m := ⟨mid + m - s, by omega⟩
        have zz : (nn : Int) - (s : Int) = (e : Int) := by omega
        obtain ⟨X1, hX1⟩ : ∃ Q, Q = X.take (s - a) := ⟨_, rfl⟩
        obtain ⟨X2, hX2⟩ : ∃ Q, Q = X.drop (s - a) := ⟨_, rfl⟩
        obtain ⟨Y1, hY1⟩ : ∃ Q, Q = Y.take (e - m) := ⟨_, rfl⟩
        obtain ⟨Y2, hY2⟩ : ∃ Q, Q = Y.drop (e - m) := ⟨_, rfl⟩
        have hXX : X = X1 ++ X2 := by rw [hX1, hX2, List.take_append_drop]
        have hYY : Y = Y1 ++ Y2 := by rw [hY1, hY2, List.take_append_drop]
        have hem : m ≤ e ∧ e ≤ b := by omega
        obtain ⟨em1, em2⟩ := hem
        have n1 : X1.length = s - a := by rw [hX1]; have := HA.out; have := HM.out; simp; omega
        have n2 : X2.length = m - s := by rw [hX2]; have := HA.out; have := HM.out; simp; omega
        have n3 : Y1.length = e - m := by rw [hY1]; have := HB.out; have := HM.out; simp; omega
        have n4 : Y2.length = b - e := by rw [hY2]; have := HB.out; have := HM.out; simp; omega
        have hcross : ∀ p ∈ X1 ++ Y1, ∀ q ∈ X2 ++ Y2, prec lv p q := by
          rw [hX1, hX2, hY1, hY2]
          refine cross HT.out (s - a) (e - m) (by have := HA.out; have := HM.out; omega) (by have := HB.out; have := HM.out; omega) ?_ ?_
          · intro h3 h4
            have := HA1.out (by have := L7.out; have := HB.out; have := HM.out; omega)
            rw [show s - 1 - a = s - a - 1 by omega, show mid + m - s - m = e - m by omega] at this
            exact this
          · intro h3 h4
            have := HB1.out (by have := L8.out; have := HA.out; have := HM.out; omega)
            rw [show mid + m - 1 - s - m = e - m - 1 by omega] at this
            exact this
        have HCR := Aside0.mk hcross
        have hT2 := HT.out
        rw [hXX, hYY] at hT2
        have HT1 := Aside0.mk hT2.parts.1
        have HT2 := Aside0.mk hT2.parts.2
        have hsum : L.length + X1.length + X2.length + Y1.length + Y2.length + R.length = n := by
          have := HN.out; rw [hXX, hYY] at this; simp at this; omega
        have hM : X.length + Y.length = X1.length + X2.length + Y1.length + Y2.length := by rw [hXX, hYY]; simp; omega
        have row0 : SO w0 wr g ((L ++ X1) ++ (X2 ++ (Y1 ++ (Y2 ++ R)))) := by
          have := H1.out; rw [hXX, hYY] at this; simpa using this
        have HR0 := Aside0.mk row0
        have hrot : ∀ W, SO w0 W g ((L ++ X1) ++ (X2 ++ (Y1 ++ (Y2 ++ R)))) → 0 < X2.length → 0 < Y1.length → Calls Try.prog 51 #[.slice (some ⟨g, 0, none⟩) n cap, .int .i64 (s : Int), .int .i64 (m : Int), .int .i64 (e : Int), .func (.func 47) #[] #[.pointer (some ⟨gb, 0, none⟩)]] W fun e_ w' => e_ = .returned (.tuple #[]) ∧ SO w0 w' g (L ++ (X1 ++ (Y1 ++ (X2 ++ (Y2 ++ R))))) := by
          intro W hW p1 p2
          refine (rotate_calls w0 W g n cap s m e _ (L ++ X1) X2 Y1 (Y2 ++ R) hW (by simp; omega) (by have := HA.out; simp; omega) (by have := HA.out; simp; omega) (by have := HA.out; simp; omega) p1 p2 hn2).mono ?_
          rintro e_ w' ⟨rfl, hs⟩
          exact ⟨rfl, by simpa using hs⟩
        have HROT := Aside0.mk hrot
        have hrec1 : ∀ W, SO w0 W g (L ++ (X1 ++ (Y1 ++ (X2 ++ (Y2 ++ R))))) → 0 < X1.length → 0 < Y1.length → Calls Try.prog 50 #[.slice (some ⟨g, 0, none⟩) n cap, .int .i64 (a : Int), .int .i64 (s : Int), .int .i64 (mid : Int), .func (.func 47) #[] #[.pointer (some ⟨gb, 0, none⟩)]] W fun e_ w' => e_ = .returned (.tuple #[]) ∧ ∃ Z, Sorted lv (X1 ++ Y1) Z ∧ SO w0 w' g (L ++ (Z ++ (X2 ++ (Y2 ++ R)))) := by
          intro W hW p1 p2
          exact HREC.out L X1 Y1 (X2 ++ (Y2 ++ R)) W a s mid (by omega) p1 p2 hW (by simp; omega) HA.out (by have := HA.out; omega) (by have := HA.out; omega) HT1.out
        have hrec2 : ∀ (Z : List Int) W, Sorted lv (X1 ++ Y1) Z → SO w0 W g (L ++ (Z ++ (X2 ++ (Y2 ++ R)))) → 0 < X2.length → 0 < Y2.length → Calls Try.prog 50 #[.slice (some ⟨g, 0, none⟩) n cap, .int .i64 (mid : Int), .int .i64 (e : Int), .int .i64 (b : Int), .func (.func 47) #[] #[.pointer (some ⟨gb, 0, none⟩)]] W fun e_ w' => e_ = .returned (.tuple #[]) ∧ ∃ Z2, Sorted lv (X2 ++ Y2) Z2 ∧ SO w0 w' g (L ++ ((Z ++ Z2) ++ R)) := by
          intro Z W hZ hW p1 p2
          have hl : Z.length = X1.length + Y1.length := by have := hZ.perm.length_eq; simpa using this
          refine (HREC.out (L ++ Z) X2 Y2 R W mid e b (by omega) p1 p2 (by simpa using hW) (by simp; omega) (by have := HA.out; simp; omega) (by have := HA.out; simp; omega) (by have := HA.out; simp; omega) HT2.out).mono ?_
          rintro e_ w' ⟨rfl, Z2, h3, h4⟩
          exact ⟨rfl, Z2, h3, by simpa using h4⟩
        have HREC1 := Aside0.mk hrec1
        have HREC2 := Aside0.mk hrec2
        have HXX := Aside0.mk hXX
        have HYY := Aside0.mk hYY
        have HNS := Aside0.mk (And.intro n1 (And.intro n2 (And.intro n3 n4)))
        have HE := Aside0.mk he
        clear hX1 hX2 hY1 hY2 hXX hYY n1 n2 n3 n4 hcross hT2 hsum hM row0 hrot hrec1 hrec2 H1 HA1 HB1 HC HREC hp1 hnn he
        by_cases t1 : a < s
        · skip
          by_cases t2 : s < m
          · skip
            by_cases t3 : m < e
            · skip
              by_cases t4 : e < b
              · skip
                have k1 : decide (s < m) = true := by have := HE.out; simp; omega
                have k2 : decide (m < e) = true := by have := HE.out; simp; omega
                have k3 : decide (a < s) = true := by have := HE.out; simp; omega
                have k4 : decide (s < mid) = true := by have := HE.out; simp; omega
                have k5 : decide (mid < e) = true := by have := HE.out; simp; omega
                have k6 : decide (e < b) = true := by have := HE.out; simp; omega
                have PX1 : Aside0 (0 < X1.length) := ⟨by have := HNS.out; have := HE.out; omega⟩
                have PX2 : Aside0 (0 < X2.length) := ⟨by have := HNS.out; have := HE.out; omega⟩
                have PY1 : Aside0 (0 < Y1.length) := ⟨by have := HNS.out; have := HE.out; omega⟩
                have PY2 : Aside0 (0 < Y2.length) := ⟨by have := HNS.out; have := HE.out; omega⟩
                go_wp2_with (first | (go_at_call 51; refine (HROT.out _ HR0.out PX2.out PY1.out).mono ?_; rintro e_ w1 ⟨rfl, hs1⟩; have HR1 := Aside0.mk hs1; clear hs1 HROT) | (go_at_call 50; refine (HREC1.out _ HR1.out PX1.out PY1.out).mono ?_; rintro e_ w2 ⟨rfl, Z1, hz1, hs2⟩; have HZ1 := Aside0.mk hz1; have HR2 := Aside0.mk hs2; clear hz1 hs2 HREC1) | (go_at_call 50; refine (HREC2.out _ _ HZ1.out HR2.out PX2.out PY2.out).mono ?_; rintro e_ w3 ⟨rfl, Z2, hz2, hs3⟩; have HZ2 := Aside0.mk hz2; have HR3 := Aside0.mk hs3; clear hz2 hs3))
                go_end0
                exact ⟨rfl, Z1 ++ Z2, by rw [HXX.out, HYY.out]; exact join_parts HZ1.out HZ2.out HCR.out, HR3.out⟩
              · skip
                have k1 : decide (s < m) = true := by have := HE.out; simp; omega
                have k2 : decide (m < e) = true := by have := HE.out; simp; omega
                have k3 : decide (a < s) = true := by have := HE.out; simp; omega
                have k4 : decide (s < mid) = true := by have := HE.out; simp; omega
                have k5 : decide (mid < e) = true := by have := HE.out; simp; omega
                have k6 : decide (e < b) = false := by have := HE.out; simp; omega
                have PX1 : Aside0 (0 < X1.length) := ⟨by have := HNS.out; have := HE.out; omega⟩
                have PX2 : Aside0 (0 < X2.length) := ⟨by have := HNS.out; have := HE.out; omega⟩
                have PY1 : Aside0 (0 < Y1.length) := ⟨by have := HNS.out; have := HE.out; omega⟩
                have PY2 : Aside0 (Y2 = []) := ⟨empty_of (by have := HNS.out; have := HE.out; omega)⟩
                go_wp2_with (first | (go_at_call 51; refine (HROT.out _ HR0.out PX2.out PY1.out).mono ?_; rintro e_ w1 ⟨rfl, hs1⟩; have HR1 := Aside0.mk hs1; clear hs1 HROT) | (go_at_call 50; refine (HREC1.out _ HR1.out PX1.out PY1.out).mono ?_; rintro e_ w2 ⟨rfl, Z1, hz1, hs2⟩; have HZ1 := Aside0.mk hz1; have HR2 := Aside0.mk hs2; clear hz1 hs2 HREC1))
                go_end0
                exact ⟨rfl, Z1 ++ (X2 ++ Y2), by rw [HXX.out, HYY.out]; exact join_parts HZ1.out (Sorted.left HT2.out PY2.out) HCR.out, by have h5 := HR2.out; simpa using h5⟩
            · skip
              by_cases t4 : e < b
              · skip
                have k1 : decide (s < m) = true := by have := HE.out; simp; omega
                have k2 : decide (m < e) = false := by have := HE.out; simp; omega
                have k3 : decide (a < s) = true := by have := HE.out; simp; omega
                have k4 : decide (s < mid) = false := by have := HE.out; simp; omega
                have k5 : decide (mid < e) = true := by have := HE.out; simp; omega
                have k6 : decide (e < b) = true := by have := HE.out; simp; omega
                have PX1 : Aside0 (0 < X1.length) := ⟨by have := HNS.out; have := HE.out; omega⟩
                have PX2 : Aside0 (0 < X2.length) := ⟨by have := HNS.out; have := HE.out; omega⟩
                have PY1 : Aside0 (Y1 = []) := ⟨empty_of (by have := HNS.out; have := HE.out; omega)⟩
                have PY2 : Aside0 (0 < Y2.length) := ⟨by have := HNS.out; have := HE.out; omega⟩
                have HR1 : Aside0 (SO w0 wr g (L ++ (X1 ++ (Y1 ++ (X2 ++ (Y2 ++ R)))))) := ⟨by have h3 := HR0.out; have h4 := PY1.out; subst h4; simpa using h3⟩
                have HZ1 : Aside0 (Sorted lv (X1 ++ Y1) (X1 ++ Y1)) := ⟨Sorted.left HT1.out PY1.out⟩
                have HR2 : Aside0 (SO w0 wr g (L ++ ((X1 ++ Y1) ++ (X2 ++ (Y2 ++ R))))) := ⟨by have h3 := HR1.out; simpa using h3⟩
                go_wp2_with (first | (go_at_call 50; refine (HREC2.out _ _ HZ1.out HR2.out PX2.out PY2.out).mono ?_; rintro e_ w3 ⟨rfl, Z2, hz2, hs3⟩; have HZ2 := Aside0.mk hz2; have HR3 := Aside0.mk hs3; clear hz2 hs3))
                go_end0
                exact ⟨rfl, (X1 ++ Y1) ++ Z2, by rw [HXX.out, HYY.out]; exact join_parts HZ1.out HZ2.out HCR.out, HR3.out⟩
              · skip
                exfalso; have := HE.out; omega
          · skip
            by_cases t3 : m < e
            · skip
              by_cases t4 : e < b
              · skip
                have k1 : decide (s < m) = false := by have := HE.out; simp; omega
                have k2 : decide (m < e) = true := by have := HE.out; simp; omega
                have k3 : decide (a < s) = true := by have := HE.out; simp; omega
                have k4 : decide (s < mid) = true := by have := HE.out; simp; omega
                have k5 : decide (mid < e) = false := by have := HE.out; simp; omega
                have k6 : decide (e < b) = true := by have := HE.out; simp; omega
                have PX1 : Aside0 (0 < X1.length) := ⟨by have := HNS.out; have := HE.out; omega⟩
                have PX2 : Aside0 (X2 = []) := ⟨empty_of (by have := HNS.out; have := HE.out; omega)⟩
                have PY1 : Aside0 (0 < Y1.length) := ⟨by have := HNS.out; have := HE.out; omega⟩
                have PY2 : Aside0 (0 < Y2.length) := ⟨by have := HNS.out; have := HE.out; omega⟩
                have HR1 : Aside0 (SO w0 wr g (L ++ (X1 ++ (Y1 ++ (X2 ++ (Y2 ++ R)))))) := ⟨by have h3 := HR0.out; have h4 := PX2.out; subst h4; simpa using h3⟩
                go_wp2_with (first | (go_at_call 50; refine (HREC1.out _ HR1.out PX1.out PY1.out).mono ?_; rintro e_ w2 ⟨rfl, Z1, hz1, hs2⟩; have HZ1 := Aside0.mk hz1; have HR2 := Aside0.mk hs2; clear hz1 hs2 HREC1))
                go_end0
                exact ⟨rfl, Z1 ++ (X2 ++ Y2), by rw [HXX.out, HYY.out]; exact join_parts HZ1.out (Sorted.right HT2.out PX2.out) HCR.out, by have h5 := HR2.out; simpa using h5⟩
              · skip
                have k1 : decide (s < m) = false := by have := HE.out; simp; omega
                have k2 : decide (m < e) = true := by have := HE.out; simp; omega
                have k3 : decide (a < s) = true := by have := HE.out; simp; omega
                have k4 : decide (s < mid) = true := by have := HE.out; simp; omega
                have k5 : decide (mid < e) = false := by have := HE.out; simp; omega
                have k6 : decide (e < b) = false := by have := HE.out; simp; omega
                have PX1 : Aside0 (0 < X1.length) := ⟨by have := HNS.out; have := HE.out; omega⟩
                have PX2 : Aside0 (X2 = []) := ⟨empty_of (by have := HNS.out; have := HE.out; omega)⟩
                have PY1 : Aside0 (0 < Y1.length) := ⟨by have := HNS.out; have := HE.out; omega⟩
                have PY2 : Aside0 (Y2 = []) := ⟨empty_of (by have := HNS.out; have := HE.out; omega)⟩
                have HR1 : Aside0 (SO w0 wr g (L ++ (X1 ++ (Y1 ++ (X2 ++ (Y2 ++ R)))))) := ⟨by have h3 := HR0.out; have h4 := PX2.out; subst h4; simpa using h3⟩
                go_wp2_with (first | (go_at_call 50; refine (HREC1.out _ HR1.out PX1.out PY1.out).mono ?_; rintro e_ w2 ⟨rfl, Z1, hz1, hs2⟩; have HZ1 := Aside0.mk hz1; have HR2 := Aside0.mk hs2; clear hz1 hs2 HREC1))
                go_end0
                exact ⟨rfl, Z1 ++ (X2 ++ Y2), by rw [HXX.out, HYY.out]; exact join_parts HZ1.out (Sorted.right HT2.out PX2.out) HCR.out, by have h5 := HR2.out; simpa using h5⟩
            · skip
              by_cases t4 : e < b
              · skip
                have k1 : decide (s < m) = false := by have := HE.out; simp; omega
                have k2 : decide (m < e) = false := by have := HE.out; simp; omega
                have k3 : decide (a < s) = true := by have := HE.out; simp; omega
                have k4 : decide (s < mid) = false := by have := HE.out; simp; omega
                have k5 : decide (mid < e) = false := by have := HE.out; simp; omega
                have k6 : decide (e < b) = true := by have := HE.out; simp; omega
                have PX1 : Aside0 (0 < X1.length) := ⟨by have := HNS.out; have := HE.out; omega⟩
                have PX2 : Aside0 (X2 = []) := ⟨empty_of (by have := HNS.out; have := HE.out; omega)⟩
                have PY1 : Aside0 (Y1 = []) := ⟨empty_of (by have := HNS.out; have := HE.out; omega)⟩
                have PY2 : Aside0 (0 < Y2.length) := ⟨by have := HNS.out; have := HE.out; omega⟩
                have HR1 : Aside0 (SO w0 wr g (L ++ (X1 ++ (Y1 ++ (X2 ++ (Y2 ++ R)))))) := ⟨by have h3 := HR0.out; have h4 := PX2.out; subst h4; simpa using h3⟩
                have HZ1 : Aside0 (Sorted lv (X1 ++ Y1) (X1 ++ Y1)) := ⟨Sorted.left HT1.out PY1.out⟩
                have HR2 : Aside0 (SO w0 wr g (L ++ ((X1 ++ Y1) ++ (X2 ++ (Y2 ++ R))))) := ⟨by have h3 := HR1.out; simpa using h3⟩
                go_wp2
                go_end0
                exact ⟨rfl, (X1 ++ Y1) ++ (X2 ++ Y2), by rw [HXX.out, HYY.out]; exact join_parts HZ1.out (Sorted.right HT2.out PX2.out) HCR.out, by have h5 := HR2.out; simpa using h5⟩
              · skip
                exfalso; have := HE.out; omega
        · skip
          by_cases t2 : s < m
          · skip
            by_cases t3 : m < e
            · skip
              by_cases t4 : e < b
              · skip
                have k1 : decide (s < m) = true := by have := HE.out; simp; omega
                have k2 : decide (m < e) = true := by have := HE.out; simp; omega
                have k3 : decide (a < s) = false := by have := HE.out; simp; omega
                have k4 : decide (s < mid) = true := by have := HE.out; simp; omega
                have k5 : decide (mid < e) = true := by have := HE.out; simp; omega
                have k6 : decide (e < b) = true := by have := HE.out; simp; omega
                have PX1 : Aside0 (X1 = []) := ⟨empty_of (by have := HNS.out; have := HE.out; omega)⟩
                have PX2 : Aside0 (0 < X2.length) := ⟨by have := HNS.out; have := HE.out; omega⟩
                have PY1 : Aside0 (0 < Y1.length) := ⟨by have := HNS.out; have := HE.out; omega⟩
                have PY2 : Aside0 (0 < Y2.length) := ⟨by have := HNS.out; have := HE.out; omega⟩
                have HZ1 : Aside0 (Sorted lv (X1 ++ Y1) (X1 ++ Y1)) := ⟨Sorted.right HT1.out PX1.out⟩
                go_wp2_with (first | (go_at_call 51; refine (HROT.out _ HR0.out PX2.out PY1.out).mono ?_; rintro e_ w1 ⟨rfl, hs1⟩; have HR1 := Aside0.mk hs1; clear hs1 HROT) | (go_at_call 50; refine (HREC2.out _ _ HZ1.out (by have h3 := HR1.out; simpa using h3) PX2.out PY2.out).mono ?_; rintro e_ w3 ⟨rfl, Z2, hz2, hs3⟩; have HZ2 := Aside0.mk hz2; have HR3 := Aside0.mk hs3; clear hz2 hs3))
                go_end0
                exact ⟨rfl, (X1 ++ Y1) ++ Z2, by rw [HXX.out, HYY.out]; exact join_parts HZ1.out HZ2.out HCR.out, HR3.out⟩
              · skip
                have k1 : decide (s < m) = true := by have := HE.out; simp; omega
                have k2 : decide (m < e) = true := by have := HE.out; simp; omega
                have k3 : decide (a < s) = false := by have := HE.out; simp; omega
                have k4 : decide (s < mid) = true := by have := HE.out; simp; omega
                have k5 : decide (mid < e) = true := by have := HE.out; simp; omega
                have k6 : decide (e < b) = false := by have := HE.out; simp; omega
                have PX1 : Aside0 (X1 = []) := ⟨empty_of (by have := HNS.out; have := HE.out; omega)⟩
                have PX2 : Aside0 (0 < X2.length) := ⟨by have := HNS.out; have := HE.out; omega⟩
                have PY1 : Aside0 (0 < Y1.length) := ⟨by have := HNS.out; have := HE.out; omega⟩
                have PY2 : Aside0 (Y2 = []) := ⟨empty_of (by have := HNS.out; have := HE.out; omega)⟩
                have HZ1 : Aside0 (Sorted lv (X1 ++ Y1) (X1 ++ Y1)) := ⟨Sorted.right HT1.out PX1.out⟩
                go_wp2_with (first | (go_at_call 51; refine (HROT.out _ HR0.out PX2.out PY1.out).mono ?_; rintro e_ w1 ⟨rfl, hs1⟩; have HR1 := Aside0.mk hs1; clear hs1 HROT))
                go_end0
                exact ⟨rfl, (X1 ++ Y1) ++ (X2 ++ Y2), by rw [HXX.out, HYY.out]; exact join_parts HZ1.out (Sorted.left HT2.out PY2.out) HCR.out, by have h5 := (show SO w0 _ g (L ++ ((X1 ++ Y1) ++ (X2 ++ (Y2 ++ R)))) from by have h3 := HR1.out; simpa using h3); simpa using h5⟩
            · skip
              by_cases t4 : e < b
              · skip
                have k1 : decide (s < m) = true := by have := HE.out; simp; omega
                have k2 : decide (m < e) = false := by have := HE.out; simp; omega
                have k3 : decide (a < s) = false := by have := HE.out; simp; omega
                have k4 : decide (s < mid) = false := by have := HE.out; simp; omega
                have k5 : decide (mid < e) = true := by have := HE.out; simp; omega
                have k6 : decide (e < b) = true := by have := HE.out; simp; omega
                have PX1 : Aside0 (X1 = []) := ⟨empty_of (by have := HNS.out; have := HE.out; omega)⟩
                have PX2 : Aside0 (0 < X2.length) := ⟨by have := HNS.out; have := HE.out; omega⟩
                have PY1 : Aside0 (Y1 = []) := ⟨empty_of (by have := HNS.out; have := HE.out; omega)⟩
                have PY2 : Aside0 (0 < Y2.length) := ⟨by have := HNS.out; have := HE.out; omega⟩
                have HR1 : Aside0 (SO w0 wr g (L ++ (X1 ++ (Y1 ++ (X2 ++ (Y2 ++ R)))))) := ⟨by have h3 := HR0.out; have h4 := PY1.out; subst h4; simpa using h3⟩
                have HZ1 : Aside0 (Sorted lv (X1 ++ Y1) (X1 ++ Y1)) := ⟨Sorted.right HT1.out PX1.out⟩
                have HR2 : Aside0 (SO w0 wr g (L ++ ((X1 ++ Y1) ++ (X2 ++ (Y2 ++ R))))) := ⟨by have h3 := HR1.out; simpa using h3⟩
                go_wp2_with (first | (go_at_call 50; refine (HREC2.out _ _ HZ1.out HR2.out PX2.out PY2.out).mono ?_; rintro e_ w3 ⟨rfl, Z2, hz2, hs3⟩; have HZ2 := Aside0.mk hz2; have HR3 := Aside0.mk hs3; clear hz2 hs3))
                go_end0
                exact ⟨rfl, (X1 ++ Y1) ++ Z2, by rw [HXX.out, HYY.out]; exact join_parts HZ1.out HZ2.out HCR.out, HR3.out⟩
              · skip
                exfalso; have := HE.out; omega
          · skip
            by_cases t3 : m < e
            · skip
              by_cases t4 : e < b
              · skip
                exfalso; have := HE.out; omega
              · skip
                exfalso; have := HE.out; omega
            · skip
              by_cases t4 : e < b
              · skip
                exfalso; have := HE.out; omega
              · skip
                exfalso; have := HE.out; omega
end Go.Proofs.Ytldbdifdldmgfaa.PAll
