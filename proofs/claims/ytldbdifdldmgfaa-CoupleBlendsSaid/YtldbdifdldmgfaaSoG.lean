/- A whole row sorted, equal ones left in their order. -/
import Derived.Test.YtldbdifdldmgfaaSoF
namespace Go.Proofs.Ytldbdifdldmgfaa.PAll
open Go.RowKit Go.Proofs.Ytldbdifdldmgfaa.Math Go.Proofs.YtldbdifdldmgfaaW.PrintWords Go.Proofs.YtldbdifdldmgfaaW.PrintLast Go.Proofs.YtldbdifdldmgfaaW.PrintMore
set_option linter.unusedVariables false
set_option linter.unusedSimpArgs false

/-- One merge inside a row whose blocks are sorted. -/
theorem merge_in (w0 : World) (g gb n cap : Nat) (lv : Int → Int) (hC : Cmps w0 g gb n lv) (hlv : ∀ x, 0 ≤ lv x ∧ lv x ≤ 65536) (hn2 : n ≤ 512) (l : List Int) (hl : l.length = n) (a m b : Nat) (ham : a < m) (hmb : m < b) (hb : b ≤ n) (h1 : Blk lv l a m) (h2 : Blk lv l m b) :
    ∀ W, SO w0 W g l → Calls Try.prog 50 #[.slice (some ⟨g, 0, none⟩) n cap, .int .i64 (a : Int), .int .i64 (m : Int), .int .i64 (b : Int), .func (.func 47) #[] #[.pointer (some ⟨gb, 0, none⟩)]] W fun e w' => e = .returned (.tuple #[]) ∧ ∃ Z, Z.length = b - a ∧ Blk lv (l.take a ++ (Z ++ l.drop b)) a b ∧ SO w0 w' g (l.take a ++ (Z ++ l.drop b)) := by
  intro W hW
  have hrow := row_cut l a m b (by omega) (by omega)
  rw [hrow] at hW
  refine (merges w0 g gb n cap lv hC hlv hn2 _ (l.take a) (seg l a m) (seg l m b) (l.drop b) W a m b (Nat.lt_succ_self _) (by rw [seg_len _ _ _ (by omega)]; omega) (by rw [seg_len _ _ _ (by omega)]; omega) hW ?_ (by simp; omega) ?_ ?_ (h1.two h2 (by omega) (by omega) hb)).mono ?_
  · rw [seg_len _ _ _ (by omega), seg_len _ _ _ (by omega)]; simp; omega
  · rw [seg_len _ _ _ (by omega)]; simp; omega
  · rw [seg_len _ _ _ (by omega), seg_len _ _ _ (by omega)]; simp; omega
  · rintro e w' ⟨rfl, Z, hz, hs⟩
    obtain ⟨h3, h4⟩ := h1.one h2 (by omega) (by omega) (by omega) hz
    exact ⟨rfl, Z, h4, h3, hs⟩
/-- One stretch of the untouched rest sorted by insertion. -/
theorem insert_in (w0 : World) (g gb n cap : Nat) (lv : Int → Int) (hC : Cmps w0 g gb n lv) (hlv : ∀ x, 0 ≤ lv x ∧ lv x ≤ 65536) (hn2 : n ≤ 512) (L : List Int) (a b : Nat) (hL : L.length = a) (hab : a ≤ b) (hb : b ≤ n) :
    ∀ W, SO w0 W g (L ++ rng a n) → Calls Try.prog 49 #[.slice (some ⟨g, 0, none⟩) n cap, .int .i64 (a : Int), .int .i64 (b : Int), .func (.func 47) #[] #[.pointer (some ⟨gb, 0, none⟩)]] W fun e w' => e = .returned (.tuple #[]) ∧ ∃ Z, Sorted lv (rng a b) Z ∧ SO w0 w' g ((L ++ Z) ++ rng b n) := by
  intro W hW
  rw [← rng_append a b n hab hb] at hW
  refine (insertion_calls w0 W g gb n cap a b lv L (rng a b) (rng b n) hW hC hlv (by rw [rng_len, rng_len]; omega) hL.symm (by rw [rng_len]; omega) (fun x hx => by have := (mem_rng a b x).1 hx; omega) (rng_up a b) hn2).mono ?_
  rintro e w' ⟨rfl, Z, hz, hs⟩
  exact ⟨rfl, Z, hz, by rw [List.append_assoc]; exact hs⟩
theorem blocks_one {lv : Int → Int} {n a b : Nat} {L Z : List Int} (hL : L.length = a) (hab : a ≤ b) (hb : b ≤ n) (hz : Sorted lv (rng a b) Z) (q0 bs : Nat) (hbs : 0 < bs) (ha : a = q0 * (2 * bs)) (hbm : b = min (a + 2 * bs) n) (han : a < n) (h : BsTo lv n (2 * bs) a (L ++ rng a n)) : BsTo lv n (2 * bs) (a + 2 * bs) ((L ++ Z) ++ rng b n) := by
  have hZ : Z.length = b - a := by have := hz.perm.length_eq; rw [rng_len] at this; exact this
  have e : (L ++ Z) ++ rng b n = (L ++ rng a n).take a ++ (Z ++ (L ++ rng a n).drop b) := by
    have e1 : (L ++ rng a n).take a = L := by rw [List.take_append_of_le_length (by omega), List.take_of_length_le (by omega)]
    have e2 : (L ++ rng a n).drop b = rng b n := by
      rw [← rng_append a b n hab hb, ← List.append_assoc, List.drop_append_of_le_length (by rw [List.length_append, rng_len]; omega), List.drop_of_length_le (by rw [List.length_append, rng_len]; omega), List.nil_append]
    rw [e1, e2, List.append_assoc]
  have hl : (L ++ rng a n).length = n := by rw [List.length_append, rng_len]; omega
  rw [e]
  refine BsTo.step hl hbs ha hbm han hZ h ?_
  unfold Blk
  rw [new_at _ _ _ _ hab (by omega) hZ]
  exact hz
set_option maxRecDepth 100000 in
set_option maxHeartbeats 6400000 in
theorem stable_calls (w0 W : World) (g gb n cap : Nat) (lv : Int → Int) (H : SO w0 W g (rng 0 n)) (hC : Cmps w0 g gb n lv) (hlv : ∀ x, 0 ≤ lv x ∧ lv x ≤ 65536) (hn0 : 0 < n) (hn2 : n ≤ 512) :
    Calls Try.prog 48 #[.slice (some ⟨g, 0, none⟩) n cap, .int .i64 (n : Int), .func (.func 47) #[] #[.pointer (some ⟨gb, 0, none⟩)]] W fun e w' => e = .returned (.tuple #[]) ∧ ∃ Z, Sorted lv (rng 0 n) Z ∧ SO w0 w' g Z := by
  have S0 := Aside0.mk H
  have HIN := Aside0.mk (insert_in w0 g gb n cap lv hC hlv hn2)
  have HME := Aside0.mk (merge_in w0 g gb n cap lv hC hlv hn2)
  clear H hC hlv
  go_enter Try.func48, Try.ntmps48
  go_wp2
  go_loopg [7, 8] n (fun kq v7 v8 wr => ∃ (q a b : Nat) (L : List Int), v7 = .int .i64 (a : Int) ∧ v8 = .int .i64 (b : Int) ∧ b = a + 20 ∧ a ≤ n ∧ n ≤ a + kq ∧ Aside0 (a = q * 20 ∧ L.length = a ∧ BsTo lv n 20 a (L ++ rng a n)) ∧ Aside0 (SO w0 wr g (L ++ rng a n)))
  case atStart => exact ⟨0, 0, 20, [], rfl, rfl, rfl, by omega, by omega, ⟨by omega, rfl, fun q hq => by omega⟩, S0⟩
  case round =>
    clear S0
    obtain ⟨q, a, b, L, rfl, rfl, hb, han, hk, HBB, H1⟩ := hrel
    by_cases hlt : b ≤ n
    · obtain ⟨k1, rfl⟩ : ∃ z, gk = z + 1 := ⟨gk - 1, by omega⟩
      have hi := HIN.out L a b HBB.out.2.1 (by omega) hlt _ H1.out
      have HI := Aside0.mk hi
      have HB2 := Aside0.mk hb
      have hb2 : a + 20 = b := by omega
      have hbz : (b : Int) + 20 = ((b + 20 : Nat) : Int) := by omega
      clear hi H1 hb hb2
      have hkk : n ≤ b + k1 := by have := HB2.out; omega
      have HKK := Aside0.mk hkk
      clear hkk hbz
      go_wp2_with (go_at_call 49; refine HI.out.mono ?_; rintro e w' ⟨rfl, Z, hz, hs⟩; have HZ := Aside0.mk hz; have HS := Aside0.mk hs; clear hz hs)
      go_roundg k1
      case measure => omega
      case rel =>
        refine ⟨q + 1, b, b + 20, L ++ Z, by first | rfl | go_num, by first | rfl | go_num, rfl, hlt, HKK.out, ⟨?_, ?_, ?_⟩, HS⟩
        · have h1 := HBB.out.1; have h2 := HB2.out; omega
        · have h1 := HZ.out.perm.length_eq; rw [rng_len] at h1; have h2 := HBB.out.2.1; have h3 := HB2.out; rw [List.length_append]; omega
        · have h2 := HB2.out
          have := blocks_one (n := n) (b := b) HBB.out.2.1 (by omega) hlt HZ.out q 10 (by omega) HBB.out.1 (by omega) (by omega) HBB.out.2.2
          rw [show a + 2 * 10 = b by omega] at this
          exact this
    · have hi := HIN.out L a n HBB.out.2.1 han (Nat.le_refl _) _ H1.out
      have HI := Aside0.mk hi
      have HB2 := Aside0.mk hb
      clear hi H1 hb
      go_wp2_with (go_at_call 49; refine HI.out.mono ?_; rintro e w' ⟨rfl, Z, hz, hs⟩; have HZ := Aside0.mk hz; have HS := Aside0.mk hs; clear hz hs)
      have hall : BsFrom lv n 20 0 (L ++ Z) ∧ (L ++ Z).length = n := by
        have h1 := HZ.out.perm.length_eq
        rw [rng_len] at h1
        have h2 := HBB.out.2.1
        have h3 := HB2.out
        refine ⟨?_, by rw [List.length_append]; omega⟩
        by_cases e : a = n
        · subst e
          have hz0 : Z = [] := List.length_eq_zero_iff.1 (by omega)
          have := HBB.out.2.2.all (Nat.le_refl _)
          rw [hz0]
          have e2 : rng a a = [] := List.length_eq_zero_iff.1 (by rw [rng_len]; omega)
          rw [e2] at this
          exact this
        · have := (blocks_one (n := n) (b := n) HBB.out.2.1 han (Nat.le_refl _) HZ.out q 10 (by omega) HBB.out.1 (by omega) (by omega) HBB.out.2.2).all (by omega)
          have e2 : rng n n = [] := List.length_eq_zero_iff.1 (by rw [rng_len]; omega)
          rw [e2, List.append_nil] at this
          exact this
      have HALL := Aside0.mk hall
      have HS0 : Aside0 (SO w0 w' g (L ++ Z)) := ⟨by have := HS.out; rw [show rng n n = [] from List.length_eq_zero_iff.1 (by rw [rng_len]; omega), List.append_nil] at this; exact this⟩
      clear hall HZ HS HBB hk hlt han
      go_loopg [6] n (fun kq v6 wr => ∃ (bs : Nat) (l : List Int), v6 = .int .i64 (bs : Int) ∧ 0 < bs ∧ bs ≤ 1024 ∧ n ≤ bs + kq ∧ Aside0 (BsFrom lv n bs 0 l ∧ l.length = n) ∧ Aside0 (SO w0 wr g l))
      case atStart => exact ⟨20, L ++ Z, rfl, by omega, by omega, by omega, HALL, HS0⟩
      case round =>
        clear HALL HS0
        obtain ⟨bs, l, rfl, hbs, hbs2, hk, HL, H1⟩ := hrel
        by_cases hlt : bs < n
        · obtain ⟨k1, rfl⟩ : ∃ z, gk = z + 1 := ⟨gk - 1, by omega⟩
          go_wp2
          go_loopg [7, 8] n (fun kq v7 v8 wr => ∃ (q a b : Nat) (l : List Int), v7 = .int .i64 (a : Int) ∧ v8 = .int .i64 (b : Int) ∧ b = a + 2 * bs ∧ a ≤ n ∧ n ≤ a + kq ∧ Aside0 (a = q * (2 * bs) ∧ l.length = n ∧ BsTo lv n (2 * bs) a l ∧ BsFrom lv n bs a l) ∧ Aside0 (SO w0 wr g l))
          case atStart => exact ⟨0, 0, 2 * bs, l, rfl, by first | rfl | go_num, by omega, by omega, by omega, ⟨by omega, HL.out.2, fun q hq => by omega, HL.out.1⟩, H1⟩
          case round =>
            clear H1 HL
            obtain ⟨q, a, b, l, rfl, rfl, hb, han, hk2, HBB, H1⟩ := hrel
            have b1 : a + bs < n → Blk lv l a (a + bs) := by
              intro h
              have h1 := HBB.out.1
              have h2 : 2 * q * bs = a := by rw [h1, Nat.mul_comm 2 q, Nat.mul_assoc]
              have := HBB.out.2.2.2 (2 * q) (by omega) (by omega)
              rw [h2, show min (a + bs) n = a + bs by omega] at this
              exact this
            have b2 : a + bs < n → Blk lv l (a + bs) (min (a + bs + bs) n) := by
              intro h
              have h1 := HBB.out.1
              have h2 : (2 * q + 1) * bs = a + bs := by rw [Nat.succ_mul, h1, Nat.mul_comm 2 q, Nat.mul_assoc]
              have := HBB.out.2.2.2 (2 * q + 1) (by omega) (by omega)
              rw [h2] at this
              exact this
            have b3 : ¬ a + bs < n → a < n → Blk lv l a n := by
              intro h h0
              have h1 := HBB.out.1
              have h2 : 2 * q * bs = a := by rw [h1, Nat.mul_comm 2 q, Nat.mul_assoc]
              have := HBB.out.2.2.2 (2 * q) (by omega) (by omega)
              rw [h2, show min (a + bs) n = n by omega] at this
              exact this
            have B1 := Aside0.mk b1
            have B2 := Aside0.mk b2
            have B3 := Aside0.mk b3
            clear b1 b2 b3
            by_cases hlt2 : b ≤ n
            · obtain ⟨k3, rfl⟩ : ∃ z, gk = z + 1 := ⟨gk - 1, by omega⟩
              have hm := HME.out l HBB.out.2.1 a (a + bs) b (by omega) (by omega) hlt2 (B1.out (by omega)) (by have := B2.out (by omega); rw [show min (a + bs + bs) n = b by omega] at this; exact this) _ H1.out
              rw [show ((a + bs : Nat) : Int) = (a : Int) + (bs : Int) by omega] at hm
              have HM := Aside0.mk hm
              have HB2 := Aside0.mk hb
              have HK2 := Aside0.mk (show n ≤ b + k3 by omega)
              clear hm H1 hb
              go_wp2_with (go_at_call 50; refine HM.out.mono ?_; rintro e w' ⟨rfl, Z, hz, hbk, hs⟩; have HZ := Aside0.mk hz; have HBK := Aside0.mk hbk; have HS := Aside0.mk hs; clear hz hbk hs)
              go_roundg k3
              case measure => omega
              case rel =>
                have h2 := HB2.out
                refine ⟨q + 1, b, b + 2 * bs, l.take a ++ (Z ++ l.drop b), by first | rfl | go_num, by first | rfl | go_num, rfl, hlt2, HK2.out, ⟨?_, ?_, ?_, ?_⟩, HS⟩
                · have h1 := HBB.out.1; rw [Nat.succ_mul]; omega
                · rw [new_len l Z a b (by omega) (by have := HBB.out.2.1; omega) HZ.out]; exact HBB.out.2.1
                · have := BsTo.step (b := b) HBB.out.2.1 hbs HBB.out.1 (by omega) (by omega) HZ.out HBB.out.2.2.1 HBK.out
                  rw [← h2] at this
                  exact this
                · exact BsFrom.step HBB.out.2.1 (by omega) hlt2 (by omega) (Nat.le_refl _) HZ.out HBB.out.2.2.2
            · by_cases hlt3 : a + bs < n
              · have hm := HME.out l HBB.out.2.1 a (a + bs) n (by omega) (by omega) (Nat.le_refl _) (B1.out hlt3) (by have := B2.out hlt3; rw [show min (a + bs + bs) n = n by omega] at this; exact this) _ H1.out
                rw [show ((a + bs : Nat) : Int) = (a : Int) + (bs : Int) by omega] at hm
                have HM := Aside0.mk hm
                have HB2 := Aside0.mk hb
                have hz3 : (a : Int) + (bs : Int) < (n : Int) := by omega
                clear hm H1 hb
                go_wp2_with (go_at_call 50; refine HM.out.mono ?_; rintro e w' ⟨rfl, Z, hz, hbk, hs⟩; have HZ := Aside0.mk hz; have HBK := Aside0.mk hbk; have HS := Aside0.mk hs; clear hz hbk hs)
                go_roundg k1
                case measure => omega
                case rel =>
                  refine ⟨bs * 2, l.take a ++ (Z ++ l.drop n), by first | rfl | go_num, by omega, by omega, by omega, ⟨?_, ?_⟩, HS⟩
                  · have h2 := HB2.out
                    have := (BsTo.step (b := n) HBB.out.2.1 hbs HBB.out.1 (by omega) (by omega) HZ.out HBB.out.2.2.1 HBK.out).all (by omega)
                    rw [Nat.mul_comm]
                    exact this
                  · rw [new_len l Z a n (by omega) (by have := HBB.out.2.1; omega) HZ.out]; exact HBB.out.2.1
              · have hz3 : ¬ ((a : Int) + (bs : Int) < (n : Int)) := by omega
                have HB2 := Aside0.mk hb
                clear hb
                go_wp2
                go_roundg k1
                case measure => omega
                case rel =>
                  refine ⟨bs * 2, l, by first | rfl | go_num, by omega, by omega, by omega, ⟨?_, HBB.out.2.1⟩, H1⟩
                  have h2 := HB2.out
                  rw [Nat.mul_comm]
                  by_cases e : a < n
                  · intro q' _ hq'
                    by_cases e2 : q' * (2 * bs) < a
                    · exact HBB.out.2.2.1 q' e2
                    · have h1 := HBB.out.1
                      have h3 : q' = q := by
                        rcases Nat.lt_trichotomy q' q with h4 | h4 | h4
                        · exfalso
                          have h5 : q' * (2 * bs) < q * (2 * bs) := Nat.mul_lt_mul_of_pos_right h4 (by omega)
                          omega
                        · exact h4
                        · exfalso
                          have h5 : (q + 1) * (2 * bs) ≤ q' * (2 * bs) := Nat.mul_le_mul_right _ (by omega)
                          rw [Nat.succ_mul] at h5
                          omega
                      rw [h3, ← h1, show min (a + 2 * bs) n = n by omega]
                      exact B3.out hlt3 e
                  · exact HBB.out.2.2.1.all (by omega)
        · go_wp2
          go_end0
          refine ⟨rfl, l, ?_, H1.out⟩
          have h1 := HL.out.1 0 (by omega) (by omega)
          rw [Nat.zero_mul, Nat.zero_add, show min bs n = n by omega] at h1
          unfold Blk at h1
          have h2 : seg l 0 n = l := by unfold seg; rw [List.drop_zero, List.take_of_length_le (by have := HL.out.2; omega)]
          rw [h2] at h1
          exact h1
end Go.Proofs.Ytldbdifdldmgfaa.PAll
