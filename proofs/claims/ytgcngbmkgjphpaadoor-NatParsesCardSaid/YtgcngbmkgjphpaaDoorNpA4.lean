/- Texts of this session and printed texts, merged, what is not needed left out: NmE, PAllx7, NmF, PAllx4, PAllx5, NmG. -/
import Derived.Test.YtgcngbmkgjphpaaDoorNpA0
import Derived.Test.YtgcngbmkgjphpaaDoorNpA1
import Derived.Test.YtgcngbmkgjphpaaDoorNpA2
import Derived.Test.YtgcngbmkgjphpaaDoorNpA3
section
namespace Go.Proofs.YtgcngbmkgjphpaaDoor.Nums
open Go.RowKit Go.Proofs.YtgcngbmkgjphpaaDoor.PAll Go.Proofs.YtgcngbmkgjphpaaDoorW.PrintWords Go.Proofs.YtgcngbmkgjphpaaDoorW.PrintLast Go.Proofs.YtgcngbmkgjphpaaDoorW.PrintMore
set_option linter.unusedVariables false
set_option linter.unusedSimpArgs false
/-- The reference's sum. -/
theorem sum_digit (x y c : Nat) (hx : x < 65536) (hy : y < 65536) (hc : c ≤ 1) : Int.tmod (wrap64 (wrap64 ((x : Int) + (y : Int)) + (c : Int))) 65536 = (((x + y + c) % 65536 : Nat) : Int) ∧ wrap64 (Int.tdiv (wrap64 (wrap64 ((x : Int) + (y : Int)) + (c : Int))) 65536) = (((x + y + c) / 65536 : Nat) : Int) := by
  rw [wrap_in (a := (x : Int) + (y : Int)) (by omega) (by omega), wrap_in (a := (x : Int) + (y : Int) + (c : Int)) (by omega) (by omega), show (x : Int) + (y : Int) + (c : Int) = ((x + y + c : Nat) : Int) by omega, show (65536 : Int) = ((65536 : Nat) : Int) from rfl, ← Int.ofNat_tmod, ← Int.ofNat_tdiv, wrap_in (by omega) (by omega)]
  exact ⟨rfl, rfl⟩
theorem add_three (a b c : Nat) : (a + b + c) % 65536 = (a % 65536 + b % 65536 + c) % 65536 ∧ (a + b + c) / 65536 = a / 65536 + b / 65536 + (a % 65536 + b % 65536 + c) / 65536 := by omega
theorem radd_loop (a b : Nat) (ha : (dgs 65536 a).length ≤ 1000000000000) (hb : (dgs 65536 b).length ≤ 1000000000000) : ∀ (v i c : Nat) (out : List Int), v = a / 65536 ^ i + b / 65536 ^ i + c → c ≤ 1 → c = 0 ∨ i ≤ 1000000000000 → i ≤ 1000000000001 → out.length = i →
    Ev (fun k => heraldref04_Add.l0 k (dgs 65536 a) (dgs 65536 b) out (c : Int) (i : Int)) (out ++ dgs 65536 v) := by
  intro v
  induction v using Nat.strongRecOn with
  | ind v ih =>
    intro i c out hv hc hci hi ho
    have la := dgs_lt_len (b := 65536) (n := a) (i := i) (by omega)
    have lb := dgs_lt_len (b := 65536) (n := b) (i := i) (by omega)
    have za : ¬ i < (dgs 65536 a).length → a / 65536 ^ i = 0 := fun g => Decidable.byContradiction fun e => g (la.mpr e)
    have zb : ¬ i < (dgs 65536 b).length → b / 65536 ^ i = 0 := fun g => Decidable.byContradiction fun e => g (lb.mpr e)
    by_cases h : v = 0
    · subst h
      have hA0 : a / 65536 ^ i = 0 := by revert hv; generalize a / 65536 ^ i = A; generalize b / 65536 ^ i = B; omega
      have hB0 : b / 65536 ^ i = 0 := by revert hv; generalize a / 65536 ^ i = A; generalize b / 65536 ^ i = B; omega
      have h1 : ¬ (i : Int) < ((dgs 65536 a).length : Int) := fun g => la.mp (by omega) hA0
      have h2 : ¬ (i : Int) < ((dgs 65536 b).length : Int) := fun g => lb.mp (by omega) hB0
      have h3 : decide ((c : Int) > 0) = false := decide_eq_false (by omega)
      refine Ev.step (f := fun k => heraldref04_Add.j1 k (dgs 65536 a) (dgs 65536 b) out (c : Int) (i : Int) false) (fun k => ?_) (Ev.step (f := fun _ => some (out ++ dgs 65536 0)) (fun k => ?_) (Ev.now _))
      · rw [heraldref04_Add.l0, if_neg h1, if_neg h2, h3]
      · rw [heraldref04_Add.j1, if_neg (by simp), dgs_zero, List.append_nil]
    · obtain ⟨s1, s2⟩ := add_three (a / 65536 ^ i) (b / 65536 ^ i) c
      rw [← hv] at s1 s2
      rw [Nat.div_div_eq_div_mul, Nat.div_div_eq_div_mul, ← Nat.pow_succ] at s2
      have hx := Nat.mod_lt (a / 65536 ^ i) (show 0 < 65536 by omega)
      have hy := Nat.mod_lt (b / 65536 ^ i) (show 0 < 65536 by omega)
      have hi2 : i ≤ 1000000000000 := by
        by_cases g : i ≤ 1000000000000
        · exact g
        · have e1 := za (by omega)
          have e2 := zb (by omega)
          rw [e1, e2] at hv
          exfalso
          clear s1 s2 hx hy la lb za zb e1 e2 ih
          omega
      have hci2 : (a / 65536 ^ i % 65536 + b / 65536 ^ i % 65536 + c) / 65536 = 0 ∨ i + 1 ≤ 1000000000000 := by
        by_cases g : i + 1 ≤ 1000000000000
        · exact .inr g
        · have e1 := za (by omega)
          have e2 := zb (by omega)
          left
          rw [e1, e2]
          clear s1 s2 hx hy la lb za zb e1 e2 ih
          omega
      have h1 := ih (v / 65536) (by omega) (i + 1) ((a / 65536 ^ i % 65536 + b / 65536 ^ i % 65536 + c) / 65536) (out ++ [((v % 65536 : Nat) : Int)]) s2 (by omega) hci2 (by omega) (by rw [List.length_append, List.length_singleton]; omega)
      rw [List.append_assoc, List.singleton_append, ← dgs_pos (by omega) h] at h1
      have h2 : Ev (fun k => heraldref04_Add.j1 k (dgs 65536 a) (dgs 65536 b) out (c : Int) (i : Int) true) (out ++ dgs 65536 v) := by
        refine Ev.step (fun k => ?_) h1
        have hlen : out.length < 17592186044416 := by omega
        have hw := next_i i
        obtain ⟨d1, d2⟩ := sum_digit _ _ c hx hy hc
        rw [heraldref04_Add.j1, if_pos rfl, at_some, at_some, Option.bind_some, Option.bind_some, if_pos hlen, d1, d2, ← s1, wrap_in (by omega) (by omega)]
        rfl
      refine Ev.step (fun k => ?_) h2
      rw [heraldref04_Add.l0]
      by_cases g1 : (i : Int) < ((dgs 65536 a).length : Int)
      · rw [if_pos g1]
      · rw [if_neg g1]
        by_cases g2 : (i : Int) < ((dgs 65536 b).length : Int)
        · rw [if_pos g2]
        · rw [if_neg g2]
          have e1 := za (by omega)
          have e2 := zb (by omega)
          rw [e1, e2] at hv
          rw [decide_eq_true (show (c : Int) > 0 by omega)]
theorem radd_ev (a b : Nat) (ha : (dgs 65536 a).length ≤ 1000000000000) (hb : (dgs 65536 b).length ≤ 1000000000000) : Ev (fun k => heraldref04_Add.f k (dgs 65536 a) (dgs 65536 b)) (dgs 65536 (a + b)) := by
  have h := radd_loop a b ha hb (a + b) 0 0 [] (by simp) (by omega) (.inl rfl) (by omega) rfl
  exact h
/-- A byte that may stand at a place of a number's text. -/
def Good (s : ByteArray) (i : Nat) : Prop := 48 ≤ bt s (i : Int) ∧ bt s (i : Int) ≤ 57 ∧ ¬ (i = 1 ∧ bt s 0 = 48)
theorem scan_both (s : ByteArray) (hs : s.size ≤ 140737488351232) : ∀ (m i : Nat), m = s.size - i → i ≤ s.size →
    (∃ p : Int, Ev (fun k => nat_Parse.l0 k s (s.size : Int) (i : Int)) ([], p, 43) ∧ Ev (fun k => heraldref04_Parse.l0 k s (i : Int)) ([], p, 43)) ∨ (∀ j, i ≤ j → j < s.size → Good s j) := by
  intro m
  induction m with
  | zero => intro i hm hi; right; intro j h1 h2; omega
  | succ m ih =>
    intro i hm hi
    by_cases g : Good s i
    · rcases ih (i + 1) (by omega) (by omega) with ⟨p, h1, h2⟩ | h
      · left
        obtain ⟨g1, g2, g3⟩ := g
        refine ⟨p, Ev.step (fun k => ?_) h1, Ev.step (fun k => ?_) h2⟩
        · rw [nat_Parse.l0, if_pos (by omega), if_pos (by omega), if_pos (by omega), if_neg (by omega), if_neg (by omega), wrap_in (by omega) (by omega)]
          by_cases c : i = 1
          · rw [if_pos (by omega), if_pos (by omega), if_neg (fun e => g3 ⟨c, e⟩)]; rfl
          · rw [if_neg (by omega)]; rfl
        · rw [heraldref04_Parse.l0, if_pos (by omega), if_pos (by omega), if_neg (by omega), if_neg (by omega), wrap_in (by omega) (by omega)]
          by_cases c : i = 1
          · rw [if_pos (by omega), if_pos (by omega), if_neg (fun e => g3 ⟨c, e⟩)]; rfl
          · rw [if_neg (by omega)]; rfl
      · right
        intro j h1 h2
        by_cases e : j = i
        · subst e; exact g
        · exact h j (by omega) h2
    · left
      refine ⟨(i : Int), Ev.step (f := fun _ => some ([], (i : Int), 43)) (fun k => ?_) (Ev.now _), Ev.step (f := fun _ => some ([], (i : Int), 43)) (fun k => ?_) (Ev.now _)⟩
      · rw [nat_Parse.l0, if_pos (by omega), if_pos (by omega), if_pos (by omega)]
        by_cases c1 : bt s (i : Int) < 48
        · rw [if_pos c1]
        · rw [if_neg c1]
          by_cases c2 : bt s (i : Int) > 57
          · rw [if_pos c2]
          · rw [if_neg c2]
            have c3 : i = 1 ∧ bt s 0 = 48 := by
              by_cases c : i = 1 ∧ bt s 0 = 48
              · exact c
              · exact absurd ⟨by omega, by omega, c⟩ g
            rw [if_pos (by omega), if_pos (by omega), if_pos c3.2]
      · rw [heraldref04_Parse.l0, if_pos (by omega), if_pos (by omega)]
        by_cases c1 : bt s (i : Int) < 48
        · rw [if_pos c1]
        · rw [if_neg c1]
          by_cases c2 : bt s (i : Int) > 57
          · rw [if_pos c2]
          · rw [if_neg c2]
            have c3 : i = 1 ∧ bt s 0 = 48 := by
              by_cases c : i = 1 ∧ bt s 0 = 48
              · exact c
              · exact absurd ⟨by omega, by omega, c⟩ g
            rw [if_pos (by omega), if_pos (by omega), if_pos c3.2]
theorem scan_good (s : ByteArray) (hs : s.size ≤ 140737488351232) (hg : ∀ j, j < s.size → Good s j) (R : List Int × Int × Int) (hR : Ev (fun k => nat_Parse.l1 k (bytesOf s) ((bytesOf s).length : Int) 0 []) R) : ∀ (m i : Nat), m = s.size - i → i ≤ s.size →
    Ev (fun k => nat_Parse.l0 k s (s.size : Int) (i : Int)) R := by
  intro m
  induction m with
  | zero =>
    intro i hm hi
    refine Ev.step (fun k => ?_) hR
    have hc : conv_bytes.f s = some (bytesOf s) := by unfold conv_bytes.f; rw [if_pos (by omega)]
    rw [nat_Parse.l0, if_neg (by omega), hc, Option.bind_some]
  | succ m ih =>
    intro i hm hi
    obtain ⟨g1, g2, g3⟩ := hg i (by omega)
    refine Ev.step (fun k => ?_) (ih (i + 1) (by omega) (by omega))
    rw [nat_Parse.l0, if_pos (by omega), if_pos (by omega), if_pos (by omega), if_neg (by omega), if_neg (by omega), wrap_in (by omega) (by omega)]
    by_cases c : i = 1
    · rw [if_pos (by omega), if_pos (by omega), if_neg (fun e => g3 ⟨c, e⟩)]; rfl
    · rw [if_neg (by omega)]; rfl
theorem rscan_good (s : ByteArray) (hs : s.size ≤ 140737488351232) (hs0 : ¬ s.toList = []) (hg : ∀ j, j < s.size → Good s j) (R : List Int × Int × Int) (hR : Ev (fun k => heraldref04_Parse.l1 k s [] 0) R) : ∀ (m i : Nat), m = s.size - i → i ≤ s.size →
    Ev (fun k => heraldref04_Parse.l0 k s (i : Int)) R := by
  intro m
  induction m with
  | zero =>
    intro i hm hi
    refine Ev.step (fun k => ?_) hR
    rw [heraldref04_Parse.l0, if_neg (by omega), if_neg hs0]
  | succ m ih =>
    intro i hm hi
    obtain ⟨g1, g2, g3⟩ := hg i (by omega)
    refine Ev.step (fun k => ?_) (ih (i + 1) (by omega) (by omega))
    rw [heraldref04_Parse.l0, if_pos (by omega), if_pos (by omega), if_neg (by omega), if_neg (by omega), wrap_in (by omega) (by omega)]
    by_cases c : i = 1
    · rw [if_pos (by omega), if_pos (by omega), if_neg (fun e => g3 ⟨c, e⟩)]; rfl
    · rw [if_neg (by omega)]; rfl
/-- The number that digits come to, from a number on. -/
def pv (v : Nat) (l : List Int) : Nat := l.foldl (fun v c => 10 * v + (c - 48).toNat) v
theorem pv_cons (v : Nat) (c : Int) (l : List Int) : pv v (c :: l) = pv (10 * v + (c - 48).toNat) l := rfl
theorem pv_le (l : List Int) : ∀ v, v ≤ pv v l := by
  induction l with
  | nil => intro v; exact Nat.le_refl _
  | cons c l ih => intro v; rw [pv_cons]; have := ih (10 * v + (c - 48).toNat); omega
theorem pv_digits : ∀ (l : List Int) (v : Nat), Dg (10 : Nat) l → (pv v ((l.map fun d => 48 + d).reverse) : Int) = v * 10 ^ l.length + vl (10 : Nat) l
  | [], v, _ => by simp [pv, vl]
  | x :: l, v, h => by
    have ih := pv_digits l v h.tail
    have hx := h.head
    have e : pv v (((x :: l).map fun d => 48 + d).reverse) = 10 * pv v ((l.map fun d => 48 + d).reverse) + x.toNat := by
      rw [List.map_cons, List.reverse_cons]
      unfold pv
      rw [List.foldl_append]
      simp only [List.foldl_cons, List.foldl_nil]
      congr 2
      omega
    obtain ⟨V, hV⟩ : ∃ V, vl ((10 : Nat) : Int) l = V := ⟨_, rfl⟩
    rw [hV] at ih
    rw [e, List.length_cons, vl, Int.pow_succ, hV]
    push_cast
    rw [ih]
    have : max x 0 = x := by omega
    rw [Int.mul_add, Int.mul_left_comm]
    have e2 : (v : Int) * (10 ^ l.length * 10) = v * (10 * 10 ^ l.length) := by rw [Int.mul_comm (10 ^ l.length)]
    rw [e2]
    omega
theorem len_ten {b v d k : Nat} (hb : 10 ≤ b) (h : (dgs b v).length ≤ k) (hd : d < 10) : (dgs b (10 * v + d)).length ≤ k + 1 := by
  rw [dgs_len_le (by omega)] at h ⊢
  rw [Nat.pow_succ]
  have h2 := Nat.mul_le_mul_left (b ^ k) hb
  omega
theorem parse_l1 (t : List Int) (hg : ∀ x ∈ t, 48 ≤ x ∧ x ≤ 57) (ht : t.length ≤ 140737488351232) (w : Nat) (R : List Int × Int × Int) (hfit : bl w ≤ 65536 → R = (dgs 4294967296 w, 0, 0)) (hbig : ¬ bl w ≤ 65536 → R = ([], 0, 41)) : ∀ (m i v : Nat), m = t.length - i → i ≤ t.length → bl v ≤ 65536 → pv v (t.drop i) = w →
    Ev (fun k => nat_Parse.l1 k t (t.length : Int) (i : Int) (dgs 4294967296 v)) R := by
  intro m
  induction m with
  | zero =>
    intro i v hm hi hv hw
    rw [List.drop_eq_nil_of_le (by omega)] at hw
    have hw2 : v = w := hw
    subst hw2
    rw [hfit hv]
    refine Ev.step (f := fun _ => some (dgs 4294967296 v, 0, 0)) (fun k => ?_) (Ev.now _)
    rw [nat_Parse.l1, if_neg (by omega)]
  | succ m ih =>
    intro i v hm hi hv hw
    have hlt : i < t.length := by omega
    have hx := hg t[i] (List.getElem_mem hlt)
    rw [List.drop_eq_getElem_cons hlt, pv_cons] at hw
    have lv := pd_len (n := v) (k := 2048) (by omega)
    have hd : ((rd t (i : Int)) - 48) % 256 = (((t[i] - 48).toNat : Nat) : Int) := by rw [rd_at t i hlt]; omega
    have ht2 := times_ev (n := v) (m := 10) (a := (t[i] - 48).toNat) (by omega) (by omega) (by omega)
    have hlen : (dgs 4294967296 (10 * v + (t[i] - 48).toNat)).length ≤ 2048 + 1 := len_ten (by omega) lv (by omega)
    have hb := bits_some (n := 10 * v + (t[i] - 48).toNat) (by omega)
    by_cases g : bl (10 * v + (t[i] - 48).toNat) ≤ 65536
    · have h1 := ih (i + 1) (10 * v + (t[i] - 48).toNat) (by omega) (by omega) g hw
      have h2 : Ev (fun k => (nat_Nat_Bits.f (dgs 4294967296 (10 * v + (t[i] - 48).toNat))).bind fun t318 => (if t318 > 65536 then (some (([] : List Int), 0, 41)) else (nat_Parse.l1 k t (t.length : Int) ((i + 1 : Nat) : Int) (dgs 4294967296 (10 * v + (t[i] - 48).toNat))))) R := by
        refine Ev.congr (fun k => ?_) h1
        rw [hb, Option.bind_some, if_neg (by omega)]
      refine Ev.step (fun k => ?_) (ht2.bind (f := fun k t315 => (nat_Nat_Bits.f t315).bind fun t318 => (if t318 > 65536 then (some (([] : List Int), 0, 41)) else (nat_Parse.l1 k t (t.length : Int) ((i + 1 : Nat) : Int) t315))) h2)
      rw [nat_Parse.l1, if_pos (by omega), if_pos (by omega), if_pos (by omega), hd, wrap_in (by omega) (by omega)]
      rfl
    · have hwb : ¬ bl w ≤ 65536 := by
        have := bl_mono (pv_le (t.drop (i + 1)) (10 * v + (t[i] - 48).toNat))
        rw [hw] at this
        omega
      rw [hbig hwb]
      have h2 : Ev (fun k => (nat_Nat_Bits.f (dgs 4294967296 (10 * v + (t[i] - 48).toNat))).bind fun t318 => (if t318 > 65536 then (some (([] : List Int), 0, 41)) else (nat_Parse.l1 k t (t.length : Int) ((i + 1 : Nat) : Int) (dgs 4294967296 (10 * v + (t[i] - 48).toNat))))) (([] : List Int), 0, 41) := by
        refine Ev.congr (fun k => ?_) (Ev.now _)
        rw [hb, Option.bind_some, if_pos (by omega)]
      refine Ev.step (fun k => ?_) (ht2.bind (f := fun k t315 => (nat_Nat_Bits.f t315).bind fun t318 => (if t318 > 65536 then (some (([] : List Int), 0, 41)) else (nat_Parse.l1 k t (t.length : Int) ((i + 1 : Nat) : Int) t315))) h2)
      rw [nat_Parse.l1, if_pos (by omega), if_pos (by omega), if_pos (by omega), hd, wrap_in (by omega) (by omega)]
      rfl
theorem rcut_rg (v : Nat) (h : (dgs 65536 v).length ≤ 1000000000000) : Ev (fun k => heraldref04_cut.f k (dgs 65536 v)) (dgs 65536 v) := rcut_ev _ _ v rfl (by omega) (dgs_dg (by omega) v) (vl_dgs (by omega) v)
theorem rten : ([10] : List Int) = dgs 65536 10 := by rw [dgs_pos (by omega) (by omega), show 10 / 65536 = 0 from rfl, dgs_zero]; rfl
theorem rparse_l1 (s : ByteArray) (hg : ∀ j, j < s.size → Good s j) (hs : s.size ≤ 140737488351232) (w : Nat) (R : List Int × Int × Int) (hfit : bl w ≤ 65536 → R = (dgs 65536 w, 0, 0)) (hbig : ¬ bl w ≤ 65536 → R = ([], 0, 41)) : ∀ (m i v : Nat), m = s.size - i → i ≤ s.size → bl v ≤ 65536 → pv v ((bytesOf s).drop i) = w →
    Ev (fun k => heraldref04_Parse.l1 k s (dgs 65536 v) (i : Int)) R := by
  intro m
  induction m with
  | zero =>
    intro i v hm hi hv hw
    rw [List.drop_eq_nil_of_le (by rw [bytesOf_length]; omega)] at hw
    have hw2 : v = w := hw
    subst hw2
    rw [hfit hv]
    refine Ev.step (f := fun _ => some (dgs 65536 v, 0, 0)) (fun k => ?_) (Ev.now _)
    rw [heraldref04_Parse.l1, if_neg (by omega)]
  | succ m ih =>
    intro i v hm hi hv hw
    have hlt : i < (bytesOf s).length := by rw [bytesOf_length]; omega
    have hx := hg i (by omega)
    have hbt : bt s (i : Int) = (bytesOf s)[i] := by rw [← rd_bytesOf, rd_at _ _ hlt]
    have hx1 := hx.1
    have hx2 := hx.2.1
    rw [List.drop_eq_getElem_cons hlt, pv_cons, ← hbt] at hw
    have lv := rg_len (n := v) (k := 4096) (by omega)
    generalize hD : (bt s (i : Int) - 48).toNat = D at *
    have hd : ((bt s (i : Int)) - 48) % 256 = ((D : Nat) : Int) := by omega
    have l10 : (dgs 65536 10).length = 1 := by rw [← rten]; rfl
    have h10 := rmul_ev (x := v) (y := 10) (by omega)
    have lD : (dgs 65536 D).length ≤ 1 := (dgs_len_le (by omega)).mpr (by omega)
    have lm := mul_len 65536 v 10 (by omega)
    have hOf := rof_ev D (by omega)
    have hAdd := radd_ev (v * 10) D (by omega) (by omega)
    have hlen : (dgs 65536 (v * 10 + D)).length ≤ 4096 + 1 := by rw [show v * 10 + D = 10 * v + D by omega]; exact len_ten (by omega) lv (by omega)
    have hCut := rcut_rg (v * 10 + D) (by omega)
    have hBits := rbits_ev (n := v * 10 + D) (by omega)
    have ev : v * 10 + D = 10 * v + D := by omega
    have lay : ∀ (A : List Int × Int × Int), Ev (fun k => if ((bl (v * 10 + D) : Nat) : Int) > 65536 then (some (([] : List Int), 0, 41)) else (heraldref04_Parse.l1 k s (dgs 65536 (v * 10 + D)) ((i + 1 : Nat) : Int))) A → Ev (fun k => heraldref04_Parse.l1 k s (dgs 65536 v) (i : Int)) A := by
      intro A hA
      have q1 := hBits.bind (f := fun k t345 => (if t345 > 65536 then (some (([] : List Int), 0, 41)) else (heraldref04_Parse.l1 k s (dgs 65536 (v * 10 + D)) ((i + 1 : Nat) : Int)))) hA
      have q2 := hCut.bind (f := fun k t342 => ((heraldref04_Bits.f k t342).bind fun t345 => (if t345 > 65536 then (some (([] : List Int), 0, 41)) else (heraldref04_Parse.l1 k s t342 ((i + 1 : Nat) : Int))))) q1
      have q3 := hAdd.bind (f := fun k t339 => ((heraldref04_cut.f k t339).bind fun t342 => ((heraldref04_Bits.f k t342).bind fun t345 => (if t345 > 65536 then (some (([] : List Int), 0, 41)) else (heraldref04_Parse.l1 k s t342 ((i + 1 : Nat) : Int)))))) q2
      have q4 := hOf.bind (f := fun k t336 => ((heraldref04_Add.f k (dgs 65536 (v * 10)) t336).bind fun t339 => ((heraldref04_cut.f k t339).bind fun t342 => ((heraldref04_Bits.f k t342).bind fun t345 => (if t345 > 65536 then (some (([] : List Int), 0, 41)) else (heraldref04_Parse.l1 k s t342 ((i + 1 : Nat) : Int))))))) q3
      have q5 := h10.bind (f := fun k t333 => ((heraldref04_Of.f k (D : Int)).bind fun t336 => ((heraldref04_Add.f k t333 t336).bind fun t339 => ((heraldref04_cut.f k t339).bind fun t342 => ((heraldref04_Bits.f k t342).bind fun t345 => (if t345 > 65536 then (some (([] : List Int), 0, 41)) else (heraldref04_Parse.l1 k s t342 ((i + 1 : Nat) : Int)))))))) q4
      refine Ev.step (fun k => ?_) q5
      rw [heraldref04_Parse.l1, if_pos (by omega), rten]
      congr 1
      funext t333
      rw [if_pos (by omega), hd, wrap_in (by omega) (by omega)]
      rfl
    by_cases g : bl (v * 10 + D) ≤ 65536
    · have h1 := ih (i + 1) (v * 10 + D) (by omega) (by omega) g (by rw [ev]; exact hw)
      exact lay R (Ev.congr (fun k => by rw [if_neg (by omega)]) h1)
    · have hwb : ¬ bl w ≤ 65536 := by
        have := bl_mono (pv_le ((bytesOf s).drop (i + 1)) (10 * v + D))
        rw [hw, ← ev] at this
        omega
      rw [hbig hwb]
      exact lay _ (Ev.congr (fun k => by rw [if_pos (by omega)]) (Ev.now _))
end Go.Proofs.YtgcngbmkgjphpaaDoor.Nums
end

section
namespace Go.Proofs.YtgcngbmkgjphpaaDoor.PAll
open Go.RowKit Go.Proofs.YtgcngbmkgjphpaaDoorW.PrintWords Go.Proofs.YtgcngbmkgjphpaaDoorW.PrintLast Go.Proofs.YtgcngbmkgjphpaaDoorW.PrintMore
attribute [local go_sem] max2_int min2_int max_two min_two max_three min_three max_four min_four   -- for this text's walks alone
set_option linter.unusedVariables false
set_option linter.unusedSimpArgs false
def heraldlaw04_is.f (k : Nat) (l0_0 : List Int) (a1 : Int) (l2 : List Int) (a3 : Int) : Option (Bool) := if a1 = a3 then ((nat_Nat_Text.f k l0_0).bind fun t221 => ((heraldref04_Text.f k l2).bind fun t222 => (some (t221.toList == t222.toList)))) else (some false)
set_option maxHeartbeats 8000000 in
set_option maxRecDepth 100000 in
theorem heraldlaw04_is.calls (k : Nat) (A0_0 : Option Addr) (c0_0 : Nat) (l0_0 : List Int) (a1 : Int) (A2 : Option Addr) (c2 : Nat) (l2 : List Int) (a3 : Int) (r : Bool) (w : World) (hr0_0 : Kd.C (Kd.int .u32) w A0_0 l0_0.length l0_0) (hc0_0 : l0_0.length ≤ c0_0) (hr2 : Kd.C (Kd.int .i64) w A2 l2.length l2) (hc2 : l2.length ≤ c2) (h : heraldlaw04_is.f k l0_0 a1 l2 a3 = some r) :
    Calls Tryd.prog 14 #[.agg #[.slice A0_0 l0_0.length c0_0], .int .i64 a1, .slice A2 l2.length c2, .int .i64 a3] w fun e w' => e = .returned (.bool r) ∧ Below w.heap.size w w' := by
  have hu26 := Tryd.underlying26
  have HR0_0 := Aside0.mk hr0_0
  have HC0_0 := Aside0.mk hc0_0
  clear hr0_0 hc0_0
  have HR2 := Aside0.mk hr2
  have HC2 := Aside0.mk hc2
  clear hr2 hc2
  have HB := Aside0.mk (Below.refl w.heap.size w)
  have H : (if a1 = a3 then ((nat_Nat_Text.f k l0_0).bind fun t221 => ((heraldref04_Text.f k l2).bind fun t222 => (some (t221.toList == t222.toList)))) else (some false)) = some r := h
  clear h
  by_cases c5 : a1 = a3
  · rw [if_pos c5] at H
    have c5b0 : (a1 == a3) = true := beq_iff_eq.mpr c5
    have c5b1 : (a1 != a3) = false := bne_eq_false_iff_eq.mpr c5
    clear c5
    replace H := Option.bind_eq_some_iff.mp H
    obtain ⟨t221, A60, H⟩ := H
    replace H : ((heraldref04_Text.f k l2).bind fun t222 => (some (t221.toList == t222.toList))) = some r := H
    have A6 := Aside0.mk A60
    clear A60
    replace H := Option.bind_eq_some_iff.mp H
    obtain ⟨t222, A70, H⟩ := H
    replace H : (some (t221.toList == t222.toList)) = some r := H
    have A7 := Aside0.mk A70
    clear A70
    obtain rfl := Option.some.inj H
    go_enter Tryd.func14, Tryd.ntmps14
    go_wp2_with (first | ((with_reducible refine gate_dst (N := 4) rfl ?_); refine box_event ?hg (N := 4) ?hd (cs := #[.slice A0_0 l0_0.length c0_0]) (t := 26) ?hr ?_; (case hd => rfl); (case hg => rfl); (case hr => first | (go_simp; done) | (go_simp; rfl)); intro gb220 hg w8 hbox hb; have n0_ := Aside0.mk (below_step (by repeat (first | (with_reducible first | exact HB.out | apply below_alloc | apply pw_below_drewN | apply below_drew1) | exact HB.out)) hb); have n1_ := Aside0.mk (hbox); have n2_ := Aside0.mk ((by rw [hg]; exact (below_size (by repeat (first | (with_reducible first | exact HB.out | apply below_alloc | apply pw_below_drewN | apply below_drew1) | exact HB.out))) : w.heap.size ≤ gb220)); have n3_ := Aside0.mk ((by rw [hg]; exact (below_size (by repeat (first | (with_reducible first | exact HB.out | apply below_alloc | apply pw_below_drewN | apply below_drew1) | exact HB.out))) : w.heap.size ≤ gb220)); clear HB; have HB := n0_; have BK220 := n1_; have GW220 := n2_; have GE220 := n3_; clear n0_ n1_ n2_ n3_; clear hb hbox hg; have hcz9_0 : w8.cell? ⟨gb220, 0, none⟩ = some (.slice A0_0 l0_0.length c0_0) := (blk_cell BK220.out 0).trans rfl; have hfz9_0 := blk_frozen BK220.out 0) | (go_at_call 20; (with_reducible refine (nat_Nat_Text.calls k (fun k_ => k_ < w.heap.size) _ _ l0_0 t221 _ ?side1 A6.out).mono ?_); (case side1 => exact Kd.V_mk HC0_0.out (Kd.F_below (Kd.C_F (Kd.heap_int .u32) HR0_0.out) (by repeat (first | (with_reducible first | exact HB.out | apply below_alloc | apply pw_below_drewN | apply below_drew1 | refine below_set ?_ GE220.out) | exact HB.out)))); rintro e w10 ⟨rfl, hb⟩; have n0_ := Aside0.mk (blk_below (g := gb220) (o := .cells #[.slice A0_0 l0_0.length c0_0] 26 (0, 0)) (by (with_reducible repeat (first | refine blk_drewN ?_ _ | refine blk_drew ?_ | refine blk_alloc ?_ _)); exact BK220.out) hb); have n1_ := Aside0.mk (below_step (by repeat (first | (with_reducible first | exact HB.out | apply below_alloc | apply pw_below_drewN | apply below_drew1 | refine below_set ?_ GE220.out) | exact HB.out)) hb); clear BK220; clear HB; have BK220 := n0_; have HB := n1_; clear n0_ n1_; (try clear hb); (try clear hb2); (try clear hk); (try clear hi)) | (go_at_call 24; (with_reducible refine (heraldref04_Text.calls k (fun k_ => k_ < w.heap.size) _ _ l2 t222 _ ?side1 A7.out).mono ?_); (case side1 => exact Kd.V_mk HC2.out (Kd.F_below (Kd.C_F (Kd.heap_int .i64) HR2.out) (by repeat (first | (with_reducible first | exact HB.out | apply below_alloc | apply pw_below_drewN | apply below_drew1 | refine below_set ?_ GE220.out) | exact HB.out)))); rintro e w11 ⟨rfl, hb⟩; have n0_ := Aside0.mk (blk_below (g := gb220) (o := .cells #[.slice A0_0 l0_0.length c0_0] 26 (0, 0)) (by (with_reducible repeat (first | refine blk_drewN ?_ _ | refine blk_drew ?_ | refine blk_alloc ?_ _)); exact BK220.out) hb); have n1_ := Aside0.mk (below_step (by repeat (first | (with_reducible first | exact HB.out | apply below_alloc | apply pw_below_drewN | apply below_drew1 | refine below_set ?_ GE220.out) | exact HB.out)) hb); clear BK220; clear HB; have BK220 := n0_; have HB := n1_; clear n0_ n1_; (try clear hb); (try clear hb2); (try clear hk); (try clear hi)))
    go_ret
    exact ⟨by first | rfl | (simp [errW_none, errW_some] <;> rfl) | (simp [*, errW_none, errW_some] <;> rfl), by repeat (first | (with_reducible first | exact HB.out | apply below_alloc | apply pw_below_drewN | apply below_drew1 | refine below_set ?_ GE220.out) | exact HB.out)⟩
  · rw [if_neg c5] at H
    have c5b0 : (a1 == a3) = false := beq_eq_false_iff_ne.mpr c5
    have c5b1 : (a1 != a3) = true := bne_iff_ne.mpr c5
    obtain rfl := Option.some.inj H
    go_enter Tryd.func14, Tryd.ntmps14
    go_wp2_with (first | ((with_reducible refine gate_dst (N := 4) rfl ?_); refine box_event ?hg (N := 4) ?hd (cs := #[.slice A0_0 l0_0.length c0_0]) (t := 26) ?hr ?_; (case hd => rfl); (case hg => rfl); (case hr => first | (go_simp; done) | (go_simp; rfl)); intro gb220 hg w12 hbox hb; have n0_ := Aside0.mk (below_step (by repeat (first | (with_reducible first | exact HB.out | apply below_alloc | apply pw_below_drewN | apply below_drew1) | exact HB.out)) hb); have n1_ := Aside0.mk (hbox); have n2_ := Aside0.mk ((by rw [hg]; exact (below_size (by repeat (first | (with_reducible first | exact HB.out | apply below_alloc | apply pw_below_drewN | apply below_drew1) | exact HB.out))) : w.heap.size ≤ gb220)); have n3_ := Aside0.mk ((by rw [hg]; exact (below_size (by repeat (first | (with_reducible first | exact HB.out | apply below_alloc | apply pw_below_drewN | apply below_drew1) | exact HB.out))) : w.heap.size ≤ gb220)); clear HB; have HB := n0_; have BK220 := n1_; have GW220 := n2_; have GE220 := n3_; clear n0_ n1_ n2_ n3_; clear hb hbox hg))
    go_ret
    exact ⟨by first | rfl | (simp [errW_none, errW_some] <;> rfl) | (simp [*, errW_none, errW_some] <;> rfl), by repeat (first | (with_reducible first | exact HB.out | apply below_alloc | apply pw_below_drewN | apply below_drew1 | refine below_set ?_ GE220.out) | exact HB.out)⟩
end Go.Proofs.YtgcngbmkgjphpaaDoor.PAll
end

section
namespace Go.Proofs.YtgcngbmkgjphpaaDoor.Nums
open Go.RowKit Go.Proofs.YtgcngbmkgjphpaaDoor.PAll Go.Proofs.YtgcngbmkgjphpaaDoorW.PrintWords Go.Proofs.YtgcngbmkgjphpaaDoorW.PrintLast Go.Proofs.YtgcngbmkgjphpaaDoorW.PrintMore
set_option linter.unusedVariables false
set_option linter.unusedSimpArgs false
theorem parse_good (s : ByteArray) (hs : s.size ≤ 140737488351232) (h0 : ¬ s.toList = []) (hg : ∀ j, j < s.size → Good s j) (w : Nat) (hw : pv 0 (bytesOf s) = w) (R : List Int × Int × Int) (hfit : bl w ≤ 65536 → R = (dgs 4294967296 w, 0, 0)) (hbig : ¬ bl w ≤ 65536 → R = ([], 0, 41)) : Ev (fun k => nat_Parse.f k s) R := by
  have hmem : ∀ x ∈ bytesOf s, 48 ≤ x ∧ x ≤ 57 := by
    intro x hx
    obtain ⟨i, hi, rfl⟩ := List.getElem_of_mem hx
    have hb : bt s (i : Int) = (bytesOf s)[i] := by rw [← rd_bytesOf, rd_at _ _ hi]
    have := hg i (by rw [bytesOf_length] at hi; exact hi)
    rw [← hb]
    exact ⟨this.1, this.2.1⟩
  have h1 := parse_l1 (bytesOf s) hmem (by rw [bytesOf_length]; exact hs) w R hfit hbig (bytesOf s).length 0 0 (by omega) (by omega) (by rw [bl_zero]; omega) (by rw [List.drop_zero]; exact hw)
  rw [dgs_zero] at h1
  have h2 := scan_good s hs hg R h1 s.size 0 (by omega) (by omega)
  refine Ev.congr (fun k => ?_) h2
  unfold nat_Parse.f
  rw [if_neg h0]
  rfl
theorem rparse_good (s : ByteArray) (hs : s.size ≤ 140737488351232) (h0 : ¬ s.toList = []) (hg : ∀ j, j < s.size → Good s j) (w : Nat) (hw : pv 0 (bytesOf s) = w) (R : List Int × Int × Int) (hfit : bl w ≤ 65536 → R = (dgs 65536 w, 0, 0)) (hbig : ¬ bl w ≤ 65536 → R = ([], 0, 41)) : Ev (fun k => heraldref04_Parse.f k s) R := by
  have h1 := rparse_l1 s hg hs w R hfit hbig s.size 0 0 (by omega) (by omega) (by rw [bl_zero]; omega) (by rw [List.drop_zero]; exact hw)
  rw [dgs_zero] at h1
  exact rscan_good s hs h0 hg R h1 s.size 0 (by omega) (by omega)
theorem parse_bad (s : ByteArray) (hs : s.size ≤ 140737488351232) : (s.toList = [] ∧ Ev (fun k => nat_Parse.f k s) ([], 0, 43) ∧ Ev (fun k => heraldref04_Parse.f k s) ([], 0, 43)) ∨ (¬ s.toList = [] ∧ ∃ p : Int, Ev (fun k => nat_Parse.f k s) ([], p, 43) ∧ Ev (fun k => heraldref04_Parse.f k s) ([], p, 43)) ∨ (¬ s.toList = [] ∧ ∀ j, j < s.size → Good s j) := by
  by_cases h0 : s.toList = []
  · left
    have hz : s.size = 0 := by
      rw [ByteArray.toList_eq] at h0
      have := congrArg List.length h0
      rw [Array.length_toList, List.length_nil] at this
      exact this
    refine ⟨h0, Ev.congr (fun k => ?_) (Ev.now _), Ev.step (f := fun _ => some ([], 0, 43)) (fun k => ?_) (Ev.now _)⟩
    · unfold nat_Parse.f; rw [if_pos h0]
    · show heraldref04_Parse.l0 (k + 1) s 0 = _
      rw [heraldref04_Parse.l0, if_neg (by omega), if_pos h0]
  · right
    rcases scan_both s hs s.size 0 (by omega) (by omega) with ⟨p, h1, h2⟩ | h
    · left
      refine ⟨h0, p, Ev.congr (fun k => ?_) h1, h2⟩
      unfold nat_Parse.f
      rw [if_neg h0]
      rfl
    · right
      exact ⟨h0, fun j hj => h j (by omega) hj⟩
/-- A number's text as bytes. -/
def dl (n : Nat) : List Int := if n = 0 then [48] else ((dgs 10 n).map fun d => 48 + d).reverse
theorem dec_dl (n : Nat) : dec n = strOfNums (dl n) := by
  unfold dec dl dd
  by_cases h : n = 0
  · rw [if_pos h, if_pos h]; rfl
  · rw [if_neg h, if_neg h]
/-- Any good text is its number's. -/
theorem good_dec (s : ByteArray) (h0 : ¬ s.toList = []) (hg : ∀ j, j < s.size → Good s j) : s = dec (pv 0 (bytesOf s)) := by
  have hsz : bytesOf s ≠ [] := by
    intro e
    apply h0
    rw [ByteArray.toList_eq]
    unfold bytesOf at e
    exact List.map_eq_nil_iff.mp e
  have hlen := bytesOf_length s
  have hb : ∀ i, (hi : i < (bytesOf s).length) → bt s (i : Int) = (bytesOf s)[i] := by
    intro i hi
    rw [← rd_bytesOf, rd_at _ _ hi]
  have hs : strOfNums (bytesOf s) = s := by
    apply ByteArray.ext
    apply Array.toList_inj.mp
    rw [strOfNums_data]
    unfold bytesOf
    rw [List.map_map]
    conv => rhs; rw [← List.map_id s.data.toList]
    apply List.map_congr_left
    intro b hb
    simp
  have hdig : ∀ x ∈ bytesOf s, 48 ≤ x ∧ x ≤ 57 := by
    intro x hx
    obtain ⟨i, hi, rfl⟩ := List.getElem_of_mem hx
    have := hg i (by rw [← hlen]; exact hi)
    rw [← hb i hi]
    exact ⟨this.1, this.2.1⟩
  -- the digits, the lowest first
  obtain ⟨l, hl⟩ : ∃ l : List Int, l = ((bytesOf s).map fun c => c - 48).reverse := ⟨_, rfl⟩
  have hback : (l.map fun d => 48 + d).reverse = bytesOf s := by
    rw [hl, List.map_reverse, List.reverse_reverse, List.map_map]
    conv => rhs; rw [← List.map_id (bytesOf s)]
    apply List.map_congr_left
    intro x _
    simp only [Function.comp, id]; omega
  have hd : Dg ((10 : Nat) : Int) l := by
    intro x hx
    rw [hl, List.mem_reverse, List.mem_map] at hx
    obtain ⟨c, hc, rfl⟩ := hx
    have := hdig c hc
    omega
  have hp := pv_digits l 0 hd
  rw [hback] at hp
  simp only [Int.natCast_zero, Int.zero_mul, Int.zero_add] at hp
  rw [dec_dl]
  conv => lhs; rw [← hs, ← hback]
  congr 1
  rcases List.eq_nil_or_concat l with e | ⟨a, x, e⟩
  · exfalso
    rw [e] at hback
    exact hsz hback.symm
  rw [List.concat_eq_append] at e
  by_cases hx : x = 0
  · -- a leading nought stands alone
    subst hx
    have hone : (bytesOf s).length ≤ 1 := by
      rcases Nat.lt_or_ge 1 (bytesOf s).length with g | g
      · exfalso
        have := (hg 1 (by omega)).2.2
        apply this
        refine ⟨rfl, ?_⟩
        have e0 : bt s 0 = (bytesOf s)[0]'(by omega) := hb 0 (by omega)
        rw [e0]
        have : (bytesOf s) = 48 :: (a.map fun d => 48 + d).reverse := by
          rw [← hback, e]; simp
        simp only [this, List.getElem_cons_zero]
      · exact g
    have ha : a = [] := by
      have := congrArg List.length hback
      rw [e] at this
      simp at this
      exact List.length_eq_zero_iff.mp (by omega)
    subst ha
    rw [e] at hp ⊢
    simp only [List.nil_append, vl] at hp
    have : pv 0 (bytesOf s) = 0 := by omega
    rw [this]
    rfl
  · have hz : Nz l := by
      unfold Nz; rw [e, List.getLast?_concat]; intro e2; exact hx (Option.some.inj e2)
    have heq := eq_dgs (b := 10) (by omega) hd hz
    have hpos := vl_pos (b := ((10 : Nat) : Int)) (by omega) hd hz (by rw [e]; simp)
    have hv : (vl ((10 : Nat) : Int) l).toNat = pv 0 (bytesOf s) := by omega
    rw [hv] at heq
    unfold dl
    rw [if_neg (by omega), ← heq]
/-- A number with an error's number is the document's. -/
theorem is_ev (v : Nat) (e : Int) (h1 : (dgs 4294967296 v).length ≤ 1000000000) (h2 : (dgs 65536 v).length ≤ 1000000000) : Ev (fun k => heraldlaw04_is.f k (dgs 4294967296 v) e (dgs 65536 v) e) true := by
  have h := ((text_ev (n := v) (by omega)).bind (f := fun k t221 => ((heraldref04_Text.f k (dgs 65536 v)).bind fun t222 => (some (t221.toList == t222.toList)))) (r := true) ((rtext_ev (n := v) (by omega)).bind (f := fun _ t222 => (some ((dec v).toList == t222.toList))) (Ev.congr (fun k => by simp) (Ev.now _))))
  refine Ev.congr (fun k => ?_) h
  unfold heraldlaw04_is.f
  rw [if_pos rfl]
theorem is_nil (e : Int) : Ev (fun k => heraldlaw04_is.f k [] e [] e) true := by
  have := is_ev 0 e (by rw [dgs_zero]; simp) (by rw [dgs_zero]; simp)
  rwa [dgs_zero, dgs_zero] at this
theorem bl_one : bl 1 = 1 := rfl
theorem Of_ev (n : Nat) (h : n < 9223372036854775808) : Ev (fun k => nat_Of.f k (n : Int)) (dgs 4294967296 n, 0) := by
  refine Ev.congr (fun k => ?_) ((of_ev n (by omega)).bind (f := fun _ t116 => some (t116, (0 : Int))) (Ev.now _))
  unfold nat_Of.f
  rw [if_neg (by omega), u64_in (by omega) (by omega)]
end Go.Proofs.YtgcngbmkgjphpaaDoor.Nums
end

section
namespace Go.Proofs.YtgcngbmkgjphpaaDoor.PAll
open Go.RowKit Go.Proofs.YtgcngbmkgjphpaaDoorW.PrintWords Go.Proofs.YtgcngbmkgjphpaaDoorW.PrintLast Go.Proofs.YtgcngbmkgjphpaaDoorW.PrintMore
attribute [local go_sem] max2_int min2_int max_two min_two max_three min_three max_four min_four   -- for this text's walks alone
set_option linter.unusedVariables false
set_option linter.unusedSimpArgs false
def nat_Nat_Power.l0 : Nat → Int → Int → List Int → List Int → Option (List Int × Int)
  | 0, _, _, _, _ => none
  | k + 1, x34, x35, x170000, x180000 => if x35 < x34 then ((nat_Nat_Mul.f k x180000 x170000).bind fun bt180 => (if bt180.2 = 0 then (nat_Nat_Power.l0 k x34 (wrap64 (x35 + 1)) x170000 bt180.1) else (some (([] : List Int), bt180.2)))) else (some (x180000, 0))
def nat_Nat_Power.f (k : Nat) (l0_0 : List Int) (a1 : Int) : Option (List Int × Int) := if a1 < 0 then (some (([] : List Int), 1)) else (if a1 = 0 then ((nat_of.f k 1).bind fun t171 => (some (t171, 0))) else ((nat_Nat_Bits.f l0_0).bind fun t174 => (if t174 < 2 then (some (l0_0, 0)) else (if a1 > 2147483647 then (some (([] : List Int), 41)) else ((nat_Nat_Bits.f l0_0).bind fun t175 => (if (wrap64 ((wrap64 (t175 - 1)) * a1)) ≥ 65536 then (some (([] : List Int), 41)) else ((nat_of.f k 1).bind fun t176 => (nat_Nat_Power.l0 k a1 0 l0_0 t176))))))))
set_option maxHeartbeats 8000000 in
set_option maxRecDepth 100000 in
theorem nat_Nat_Power.calls (k : Nat) (P0_0_ : Nat → Prop) (A0_0 : Option Addr) (c0_0 : Nat) (l0_0 : List Int) (a1 : Int) (r1 : List Int) (r2 : Int) (w : World) (hs0_0 : Kd.V (Kd.int .u32) 79 w w.heap.size (fun k_ => P0_0_ k_) (.slice A0_0 l0_0.length c0_0) l0_0) (h : nat_Nat_Power.f k l0_0 a1 = some (r1, r2)) :
    Calls Tryd.prog 38 #[.agg #[.slice A0_0 l0_0.length c0_0], .int .i64 a1] w fun e w' => ∃ v0_ : Value, e = .returned (.tuple #[.agg #[v0_], .int .i64 r2]) ∧ Kd.V (Kd.int .u32) 79 w' w.heap.size (fun k_ => (P0_0_ k_ ∨ w.heap.size ≤ k_)) v0_ r1 ∧ Below w.heap.size w w' := by
  have hu26 := Tryd.underlying26
  have HO0_0 := Aside0.mk (show Kd.V (Kd.int .u32) 79 w w.heap.size (fun k_ => (P0_0_ k_ ∨ w.heap.size ≤ k_)) (.slice A0_0 l0_0.length c0_0) l0_0 from Kd.V_mono hs0_0 (fun k_ hk => .inl hk))
  have HB := Aside0.mk (Below.refl w.heap.size w)
  have H : (if a1 < 0 then (some (([] : List Int), 1)) else (if a1 = 0 then ((nat_of.f k 1).bind fun t171 => (some (t171, 0))) else ((nat_Nat_Bits.f l0_0).bind fun t174 => (if t174 < 2 then (some (l0_0, 0)) else (if a1 > 2147483647 then (some (([] : List Int), 41)) else ((nat_Nat_Bits.f l0_0).bind fun t175 => (if (wrap64 ((wrap64 (t175 - 1)) * a1)) ≥ 65536 then (some (([] : List Int), 41)) else ((nat_of.f k 1).bind fun t176 => (nat_Nat_Power.l0 k a1 0 l0_0 t176))))))))) = some (r1, r2) := h
  clear h
  by_cases c3 : a1 < 0
  · rw [if_pos c3] at H
    have c3b0 : decide (a1 < 0) = true := decide_eq_true c3
    clear c3
    simp only [Option.some.injEq, Prod.mk.injEq] at H
    obtain ⟨rfl, rfl⟩ := H
    go_enter Tryd.func38, Tryd.ntmps38
    go_wp2_with (first | ((with_reducible refine gate_dst (N := 2) rfl ?_); refine box_event ?hg (N := 2) ?hd (cs := #[.slice A0_0 l0_0.length c0_0]) (t := 26) ?hr ?_; (case hd => rfl); (case hg => rfl); (case hr => first | (go_simp; done) | (go_simp; rfl)); intro gb169 hg w4 hbox hb; have n0_ := Aside0.mk (Kd.V_below (Kd.V_elderB (by (with_reducible repeat (first | apply Kd.V_alloc | apply Kd.V_drewN | apply Kd.V_drew)); exact HO0_0.out) gb169 (Nat.le_of_eq hg.symm)) hb); have n1_ := Aside0.mk (below_step (by repeat (first | (with_reducible first | exact HB.out | apply below_alloc | apply pw_below_drewN | apply below_drew1) | exact HB.out)) hb); have n2_ := Aside0.mk (hbox); have n3_ := Aside0.mk ((by rw [hg]; exact (below_size (by repeat (first | (with_reducible first | exact HB.out | apply below_alloc | apply pw_below_drewN | apply below_drew1) | exact HB.out))) : w.heap.size ≤ gb169)); have n4_ := Aside0.mk ((by rw [hg]; exact (below_size (by repeat (first | (with_reducible first | exact HB.out | apply below_alloc | apply pw_below_drewN | apply below_drew1) | exact HB.out))) : w.heap.size ≤ gb169)); clear HO0_0; clear HB; have HO0_0 := n0_; have HB := n1_; have BK169 := n2_; have GW169 := n3_; have GE169 := n4_; clear n0_ n1_ n2_ n3_ n4_; clear hb hbox hg) | ((with_reducible refine gate_dst (N := 4) rfl ?_); refine box_event ?hg (N := 4) ?hd (cs := #[.slice none 0 0]) (t := 26) ?hr ?_; (case hd => rfl); (case hg => rfl); (case hr => first | (go_simp; done) | (go_simp; rfl)); intro gb170 hg w5 hbox hb; have n0_ := Aside0.mk (Kd.V_below (Kd.V_elderB (by (with_reducible repeat (first | apply Kd.V_alloc | apply Kd.V_drewN | apply Kd.V_drew)); exact HO0_0.out) gb170 (Nat.le_of_eq hg.symm)) hb); have n1_ := Aside0.mk (blk_below (g := gb169) (o := .cells #[.slice A0_0 l0_0.length c0_0] 26 (0, 0)) (by (with_reducible repeat (first | refine blk_drewN ?_ _ | refine blk_drew ?_ | refine blk_alloc ?_ _)); exact BK169.out) hb); have n2_ := Aside0.mk (below_step (by repeat (first | (with_reducible first | exact HB.out | apply below_alloc | apply pw_below_drewN | apply below_drew1 | refine below_set ?_ GE169.out) | exact HB.out)) hb); have n3_ := Aside0.mk (hbox); have n4_ := Aside0.mk ((by rw [hg]; exact (below_size (by repeat (first | (with_reducible first | exact HB.out | apply below_alloc | apply pw_below_drewN | apply below_drew1 | refine below_set ?_ GE169.out) | exact HB.out))) : w.heap.size ≤ gb170)); have n5_ := Aside0.mk ((by rw [hg]; exact (below_size (by repeat (first | (with_reducible first | exact HB.out | apply below_alloc | apply pw_below_drewN | apply below_drew1 | refine below_set ?_ GE169.out) | exact HB.out))) : w.heap.size ≤ gb170)); have n6_ := Aside0.mk ((by rw [hg]; exact Nat.ne_of_lt (blk_lt (g := gb169) (o := .cells #[.slice A0_0 l0_0.length c0_0] 26 (0, 0)) (by (with_reducible repeat (first | refine blk_drewN ?_ _ | refine blk_drew ?_ | refine blk_alloc ?_ _)); exact BK169.out)) : gb169 ≠ gb170)); have n7_ := Aside0.mk ((by rw [hg]; exact Nat.ne_of_gt (blk_lt (g := gb169) (o := .cells #[.slice A0_0 l0_0.length c0_0] 26 (0, 0)) (by (with_reducible repeat (first | refine blk_drewN ?_ _ | refine blk_drew ?_ | refine blk_alloc ?_ _)); exact BK169.out)) : gb170 ≠ gb169)); clear HO0_0; clear BK169; clear HB; have HO0_0 := n0_; have BK169 := n1_; have HB := n2_; have BK170 := n3_; have GW170 := n4_; have GE170 := n5_; have NB169_170 := n6_; have NB170_169 := n7_; clear n0_ n1_ n2_ n3_ n4_ n5_ n6_ n7_; clear hb hbox hg; have hnb6 := NB170_169.out; have hnc6 := NB169_170.out; have hcz7_0 : w5.cell? ⟨gb170, 0, none⟩ = some (.slice none 0 0) := (blk_cell BK170.out 0).trans rfl; have hfz7_0 := blk_frozen BK170.out 0))
    refine bodyPost_ret (results_ct rfl _ _ gb170 26 #[.slice none 0 0] (0, 0) _ rfl (by (with_reducible repeat (first | refine blk_drewN ?_ _ | refine blk_drew ?_ | refine blk_alloc ?_ _)); refine blk_put (cs := #[.slice none 0 0]) ?_ 0 _ rfl; (with_reducible repeat (first | refine blk_drewN ?_ _ | refine blk_drew ?_ | refine blk_alloc ?_ _)); exact BK170.out) Tryd.underlying26 rfl (by kernel_rfl)) rfl ?_
    exact ⟨_, by first | rfl | (simp [errW_none, errW_some] <;> rfl) | (simp [*, errW_none, errW_some] <;> rfl), Kd.V_mono (Kd.R_V (base := w.heap.size) (by first | exact Kd.R_nil _ _ _ _ (fun _ => False) | exact Kd.R_nil _ _ _ _ _ | exact Kd.N_nil _ _ _ _ _ | exact Kd.V_nil _ _ _ _ _ | exact Kd.Q_nil _ _ _ _ _ | exact Kd.S_nil _ _ _ _ _)) (fun k_ hk => by first | exact False.elim hk | exact ⟨(.inr (hk.1)), hk.2⟩ | exact (.inr (hk))), by repeat (first | (with_reducible first | exact HB.out | apply below_alloc | apply pw_below_drewN | apply below_drew1 | refine below_set ?_ GE169.out | refine below_set ?_ GE170.out) | exact HB.out)⟩
  · rw [if_neg c3] at H
    have c3b0 : decide (a1 < 0) = false := decide_eq_false c3
    clear c3
    by_cases c8 : a1 = 0
    · rw [if_pos c8] at H
      have c8b0 : (a1 == 0) = true := beq_iff_eq.mpr c8
      have c8b1 : (a1 != 0) = false := bne_eq_false_iff_eq.mpr c8
      clear c8
      replace H := Option.bind_eq_some_iff.mp H
      obtain ⟨t171, A90, H⟩ := H
      replace H : (some (t171, 0)) = some (r1, r2) := H
      have A9 := Aside0.mk A90
      clear A90
      simp only [Option.some.injEq, Prod.mk.injEq] at H
      obtain ⟨rfl, rfl⟩ := H
      go_enter Tryd.func38, Tryd.ntmps38
      go_wp2_with (first | ((with_reducible refine gate_dst (N := 2) rfl ?_); refine box_event ?hg (N := 2) ?hd (cs := #[.slice A0_0 l0_0.length c0_0]) (t := 26) ?hr ?_; (case hd => rfl); (case hg => rfl); (case hr => first | (go_simp; done) | (go_simp; rfl)); intro gb169 hg w10 hbox hb; have n0_ := Aside0.mk (Kd.V_below (Kd.V_elderB (by (with_reducible repeat (first | apply Kd.V_alloc | apply Kd.V_drewN | apply Kd.V_drew)); exact HO0_0.out) gb169 (Nat.le_of_eq hg.symm)) hb); have n1_ := Aside0.mk (below_step (by repeat (first | (with_reducible first | exact HB.out | apply below_alloc | apply pw_below_drewN | apply below_drew1) | exact HB.out)) hb); have n2_ := Aside0.mk (hbox); have n3_ := Aside0.mk ((by rw [hg]; exact (below_size (by repeat (first | (with_reducible first | exact HB.out | apply below_alloc | apply pw_below_drewN | apply below_drew1) | exact HB.out))) : w.heap.size ≤ gb169)); have n4_ := Aside0.mk ((by rw [hg]; exact (below_size (by repeat (first | (with_reducible first | exact HB.out | apply below_alloc | apply pw_below_drewN | apply below_drew1) | exact HB.out))) : w.heap.size ≤ gb169)); clear HO0_0; clear HB; have HO0_0 := n0_; have HB := n1_; have BK169 := n2_; have GW169 := n3_; have GE169 := n4_; clear n0_ n1_ n2_ n3_ n4_; clear hb hbox hg) | ((with_reducible refine gate_dst (N := 4) rfl ?_); refine box_event ?hg (N := 4) ?hd (cs := #[.slice none 0 0]) (t := 26) ?hr ?_; (case hd => rfl); (case hg => rfl); (case hr => first | (go_simp; done) | (go_simp; rfl)); intro gb170 hg w11 hbox hb; have n0_ := Aside0.mk (Kd.V_below (Kd.V_elderB (by (with_reducible repeat (first | apply Kd.V_alloc | apply Kd.V_drewN | apply Kd.V_drew)); exact HO0_0.out) gb170 (Nat.le_of_eq hg.symm)) hb); have n1_ := Aside0.mk (blk_below (g := gb169) (o := .cells #[.slice A0_0 l0_0.length c0_0] 26 (0, 0)) (by (with_reducible repeat (first | refine blk_drewN ?_ _ | refine blk_drew ?_ | refine blk_alloc ?_ _)); exact BK169.out) hb); have n2_ := Aside0.mk (below_step (by repeat (first | (with_reducible first | exact HB.out | apply below_alloc | apply pw_below_drewN | apply below_drew1 | refine below_set ?_ GE169.out) | exact HB.out)) hb); have n3_ := Aside0.mk (hbox); have n4_ := Aside0.mk ((by rw [hg]; exact (below_size (by repeat (first | (with_reducible first | exact HB.out | apply below_alloc | apply pw_below_drewN | apply below_drew1 | refine below_set ?_ GE169.out) | exact HB.out))) : w.heap.size ≤ gb170)); have n5_ := Aside0.mk ((by rw [hg]; exact (below_size (by repeat (first | (with_reducible first | exact HB.out | apply below_alloc | apply pw_below_drewN | apply below_drew1 | refine below_set ?_ GE169.out) | exact HB.out))) : w.heap.size ≤ gb170)); have n6_ := Aside0.mk ((by rw [hg]; exact Nat.ne_of_lt (blk_lt (g := gb169) (o := .cells #[.slice A0_0 l0_0.length c0_0] 26 (0, 0)) (by (with_reducible repeat (first | refine blk_drewN ?_ _ | refine blk_drew ?_ | refine blk_alloc ?_ _)); exact BK169.out)) : gb169 ≠ gb170)); have n7_ := Aside0.mk ((by rw [hg]; exact Nat.ne_of_gt (blk_lt (g := gb169) (o := .cells #[.slice A0_0 l0_0.length c0_0] 26 (0, 0)) (by (with_reducible repeat (first | refine blk_drewN ?_ _ | refine blk_drew ?_ | refine blk_alloc ?_ _)); exact BK169.out)) : gb170 ≠ gb169)); clear HO0_0; clear BK169; clear HB; have HO0_0 := n0_; have BK169 := n1_; have HB := n2_; have BK170 := n3_; have GW170 := n4_; have GE170 := n5_; have NB169_170 := n6_; have NB170_169 := n7_; clear n0_ n1_ n2_ n3_ n4_ n5_ n6_ n7_; clear hb hbox hg) | ((with_reducible refine gate_callee (f := 48) rfl ?_); refine goesL_ (some 15) rfl rfl Tryd.func48 (by kernel_rfl) rfl #[.int .u64 1] rfl (by (try simp only [List.map_toArray, List.map_cons, List.map_nil]); first | done | rfl | (simp only [List.length_drop, List.length_take]; rfl)) ?_; (with_reducible refine (nat_of.calls k 1 t171 _ A9.out).mono ?_); rintro e w12 ⟨v172, rfl, ho0, hb⟩; refine ⟨_, rfl, ?_⟩; have n0_ := Aside0.mk (Kd.V_below (by (with_reducible repeat (first | apply Kd.V_alloc | apply Kd.V_drewN | apply Kd.V_drew)); exact HO0_0.out) hb); have n1_ := Aside0.mk (Kd.V_lower (Kd.V_mono (ok' := fun k_ => (P0_0_ k_ ∨ w.heap.size ≤ k_) ∧ k_ ≠ gb169 ∧ k_ ≠ gb170) ho0 (fun k_ hk_ => ⟨(.inr (Nat.le_trans (below_size (by repeat (first | (with_reducible first | exact HB.out | apply below_alloc | apply pw_below_drewN | apply below_drew1 | refine below_set ?_ GE169.out | refine below_set ?_ GE170.out) | exact HB.out))) hk_)), (Kd.freshB (g := gb169) (o := .cells #[.slice A0_0 l0_0.length c0_0] 26 (0, 0)) (by (with_reducible repeat (first | refine blk_drewN ?_ _ | refine blk_drew ?_ | refine blk_alloc ?_ _)); exact BK169.out) k_ hk_), (Kd.freshB (g := gb170) (o := .cells #[.slice none 0 0] 26 (0, 0)) (by (with_reducible repeat (first | refine blk_drewN ?_ _ | refine blk_drew ?_ | refine blk_alloc ?_ _)); exact BK170.out) k_ hk_)⟩)) (below_size (by repeat (first | (with_reducible first | exact HB.out | apply below_alloc | apply pw_below_drewN | apply below_drew1 | refine below_set ?_ GE169.out | refine below_set ?_ GE170.out) | exact HB.out)))); have n2_ := Aside0.mk (blk_below (g := gb169) (o := .cells #[.slice A0_0 l0_0.length c0_0] 26 (0, 0)) (by (with_reducible repeat (first | refine blk_drewN ?_ _ | refine blk_drew ?_ | refine blk_alloc ?_ _)); exact BK169.out) hb); have n3_ := Aside0.mk (blk_below (g := gb170) (o := .cells #[.slice none 0 0] 26 (0, 0)) (by (with_reducible repeat (first | refine blk_drewN ?_ _ | refine blk_drew ?_ | refine blk_alloc ?_ _)); exact BK170.out) hb); have n4_ := Aside0.mk (below_step (by repeat (first | (with_reducible first | exact HB.out | apply below_alloc | apply pw_below_drewN | apply below_drew1 | refine below_set ?_ GE169.out | refine below_set ?_ GE170.out) | exact HB.out)) hb); clear HO0_0; clear BK169; clear BK170; clear HB; have HO0_0 := n0_; have HO173 := n1_; have BK169 := n2_; have BK170 := n3_; have HB := n4_; clear n0_ n1_ n2_ n3_ n4_; (try clear hb); (try clear hb2); (try clear hk); (try clear hi); (try clear ho0); obtain ⟨Ao13, co13, eo13⟩ := Kd.V_slice HO173.out; subst eo13; have hnb14 := NB170_169.out; have hnc14 := NB169_170.out; have hcz15_0 : w12.cell? ⟨gb170, 0, none⟩ = some (.slice none 0 0) := (blk_cell BK170.out 0).trans rfl; have hfz15_0 := blk_frozen BK170.out 0))
      refine bodyPost_ret (results_ct rfl _ _ gb170 26 #[.slice Ao13 t171.length co13] (0, 0) _ rfl (by (with_reducible repeat (first | refine blk_drewN ?_ _ | refine blk_drew ?_ | refine blk_alloc ?_ _)); refine blk_put (cs := #[.slice none 0 0]) ?_ 0 _ rfl; (with_reducible repeat (first | refine blk_drewN ?_ _ | refine blk_drew ?_ | refine blk_alloc ?_ _)); exact BK170.out) Tryd.underlying26 rfl (by kernel_rfl)) rfl ?_
      exact ⟨_, by first | rfl | (simp [errW_none, errW_some] <;> rfl) | (simp [*, errW_none, errW_some] <;> rfl), by (with_reducible repeat (first | apply Kd.V_alloc | apply Kd.V_drewN | apply Kd.V_drew)); exact Kd.V_mono (Kd.V_far (p := ⟨gb170, 0, none⟩) (Kd.V_mono HO173.out (fun k_ hk => (⟨hk, hk.2.2⟩ : _ ∧ k_ ≠ gb170))) (fun _ hk => hk.2) (.slice Ao13 t171.length co13)) (fun _ hk => hk.1.1), by repeat (first | (with_reducible first | exact HB.out | apply below_alloc | apply pw_below_drewN | apply below_drew1 | refine below_set ?_ GE169.out | refine below_set ?_ GE170.out) | exact HB.out)⟩
    · rw [if_neg c8] at H
      have c8b0 : (a1 == 0) = false := beq_eq_false_iff_ne.mpr c8
      have c8b1 : (a1 != 0) = true := bne_iff_ne.mpr c8
      replace H := Option.bind_eq_some_iff.mp H
      obtain ⟨t174, A160, H⟩ := H
      replace H : (if t174 < 2 then (some (l0_0, 0)) else (if a1 > 2147483647 then (some (([] : List Int), 41)) else ((nat_Nat_Bits.f l0_0).bind fun t175 => (if (wrap64 ((wrap64 (t175 - 1)) * a1)) ≥ 65536 then (some (([] : List Int), 41)) else ((nat_of.f k 1).bind fun t176 => (nat_Nat_Power.l0 k a1 0 l0_0 t176)))))) = some (r1, r2) := H
      have A16 := Aside0.mk A160
      clear A160
      by_cases c17 : t174 < 2
      · rw [if_pos c17] at H
        have c17b0 : decide (t174 < 2) = true := decide_eq_true c17
        clear c17
        simp only [Option.some.injEq, Prod.mk.injEq] at H
        obtain ⟨rfl, rfl⟩ := H
        go_enter Tryd.func38, Tryd.ntmps38
        go_wp2_with (first | ((with_reducible refine gate_dst (N := 2) rfl ?_); refine box_event ?hg (N := 2) ?hd (cs := #[.slice A0_0 l0_0.length c0_0]) (t := 26) ?hr ?_; (case hd => rfl); (case hg => rfl); (case hr => first | (go_simp; done) | (go_simp; rfl)); intro gb169 hg w18 hbox hb; have n0_ := Aside0.mk (Kd.V_below (Kd.V_elderB (by (with_reducible repeat (first | apply Kd.V_alloc | apply Kd.V_drewN | apply Kd.V_drew)); exact HO0_0.out) gb169 (Nat.le_of_eq hg.symm)) hb); have n1_ := Aside0.mk (below_step (by repeat (first | (with_reducible first | exact HB.out | apply below_alloc | apply pw_below_drewN | apply below_drew1) | exact HB.out)) hb); have n2_ := Aside0.mk (hbox); have n3_ := Aside0.mk ((by rw [hg]; exact (below_size (by repeat (first | (with_reducible first | exact HB.out | apply below_alloc | apply pw_below_drewN | apply below_drew1) | exact HB.out))) : w.heap.size ≤ gb169)); have n4_ := Aside0.mk ((by rw [hg]; exact (below_size (by repeat (first | (with_reducible first | exact HB.out | apply below_alloc | apply pw_below_drewN | apply below_drew1) | exact HB.out))) : w.heap.size ≤ gb169)); clear HO0_0; clear HB; have HO0_0 := n0_; have HB := n1_; have BK169 := n2_; have GW169 := n3_; have GE169 := n4_; clear n0_ n1_ n2_ n3_ n4_; clear hb hbox hg) | ((with_reducible refine gate_dst (N := 4) rfl ?_); refine box_event ?hg (N := 4) ?hd (cs := #[.slice none 0 0]) (t := 26) ?hr ?_; (case hd => rfl); (case hg => rfl); (case hr => first | (go_simp; done) | (go_simp; rfl)); intro gb170 hg w19 hbox hb; have n0_ := Aside0.mk (Kd.V_below (Kd.V_elderB (by (with_reducible repeat (first | apply Kd.V_alloc | apply Kd.V_drewN | apply Kd.V_drew)); exact HO0_0.out) gb170 (Nat.le_of_eq hg.symm)) hb); have n1_ := Aside0.mk (blk_below (g := gb169) (o := .cells #[.slice A0_0 l0_0.length c0_0] 26 (0, 0)) (by (with_reducible repeat (first | refine blk_drewN ?_ _ | refine blk_drew ?_ | refine blk_alloc ?_ _)); exact BK169.out) hb); have n2_ := Aside0.mk (below_step (by repeat (first | (with_reducible first | exact HB.out | apply below_alloc | apply pw_below_drewN | apply below_drew1 | refine below_set ?_ GE169.out) | exact HB.out)) hb); have n3_ := Aside0.mk (hbox); have n4_ := Aside0.mk ((by rw [hg]; exact (below_size (by repeat (first | (with_reducible first | exact HB.out | apply below_alloc | apply pw_below_drewN | apply below_drew1 | refine below_set ?_ GE169.out) | exact HB.out))) : w.heap.size ≤ gb170)); have n5_ := Aside0.mk ((by rw [hg]; exact (below_size (by repeat (first | (with_reducible first | exact HB.out | apply below_alloc | apply pw_below_drewN | apply below_drew1 | refine below_set ?_ GE169.out) | exact HB.out))) : w.heap.size ≤ gb170)); have n6_ := Aside0.mk ((by rw [hg]; exact Nat.ne_of_lt (blk_lt (g := gb169) (o := .cells #[.slice A0_0 l0_0.length c0_0] 26 (0, 0)) (by (with_reducible repeat (first | refine blk_drewN ?_ _ | refine blk_drew ?_ | refine blk_alloc ?_ _)); exact BK169.out)) : gb169 ≠ gb170)); have n7_ := Aside0.mk ((by rw [hg]; exact Nat.ne_of_gt (blk_lt (g := gb169) (o := .cells #[.slice A0_0 l0_0.length c0_0] 26 (0, 0)) (by (with_reducible repeat (first | refine blk_drewN ?_ _ | refine blk_drew ?_ | refine blk_alloc ?_ _)); exact BK169.out)) : gb170 ≠ gb169)); clear HO0_0; clear BK169; clear HB; have HO0_0 := n0_; have BK169 := n1_; have HB := n2_; have BK170 := n3_; have GW170 := n4_; have GE170 := n5_; have NB169_170 := n6_; have NB170_169 := n7_; clear n0_ n1_ n2_ n3_ n4_ n5_ n6_ n7_; clear hb hbox hg; have hnb20 := NB169_170.out; have hnc20 := NB170_169.out; have hcz21_0 : w19.cell? ⟨gb169, 0, none⟩ = some (.slice A0_0 l0_0.length c0_0) := (blk_cell BK169.out 0).trans rfl; have hfz21_0 := blk_frozen BK169.out 0) | ((with_reducible refine gate_callee (f := 25) rfl ?_); refine goesL_ (some 18) rfl rfl Tryd.func25 (by kernel_rfl) rfl #[.agg #[.slice A0_0 l0_0.length c0_0]] rfl (by (try simp only [List.map_toArray, List.map_cons, List.map_nil]); first | done | rfl | (simp only [List.length_drop, List.length_take]; rfl)) ?_; (with_reducible refine (nat_Nat_Bits.calls _ _ l0_0 t174 _ ?side1 ?side2 A16.out).mono ?_); (case side1 => repeat (first | exact (Kd.V_reads' HO0_0.out).2.2 | (with_reducible refine Kd.C_alloc ?_ _) | (with_reducible refine Kd.C_drewN ?_ _) | (with_reducible refine Kd.C_drew ?_))); (case side2 => exact (Kd.V_reads' HO0_0.out).2.1); rintro e w22 ⟨rfl, hb⟩; refine ⟨_, rfl, ?_⟩; have n0_ := Aside0.mk (Kd.V_below (by (with_reducible repeat (first | apply Kd.V_alloc | apply Kd.V_drewN | apply Kd.V_drew)); exact HO0_0.out) hb); have n1_ := Aside0.mk (blk_below (g := gb169) (o := .cells #[.slice A0_0 l0_0.length c0_0] 26 (0, 0)) (by (with_reducible repeat (first | refine blk_drewN ?_ _ | refine blk_drew ?_ | refine blk_alloc ?_ _)); exact BK169.out) hb); have n2_ := Aside0.mk (blk_below (g := gb170) (o := .cells #[.slice none 0 0] 26 (0, 0)) (by (with_reducible repeat (first | refine blk_drewN ?_ _ | refine blk_drew ?_ | refine blk_alloc ?_ _)); exact BK170.out) hb); have n3_ := Aside0.mk (below_step (by repeat (first | (with_reducible first | exact HB.out | apply below_alloc | apply pw_below_drewN | apply below_drew1 | refine below_set ?_ GE169.out | refine below_set ?_ GE170.out) | exact HB.out)) hb); clear HO0_0; clear BK169; clear BK170; clear HB; have HO0_0 := n0_; have BK169 := n1_; have BK170 := n2_; have HB := n3_; clear n0_ n1_ n2_ n3_; (try clear hb); (try clear hb2); (try clear hk); (try clear hi); have hcz23_0 : w22.cell? ⟨gb169, 0, none⟩ = some (.slice A0_0 l0_0.length c0_0) := (blk_cell BK169.out 0).trans rfl; have hfz23_0 := blk_frozen BK169.out 0; have hcz24_0 : w22.cell? ⟨gb170, 0, none⟩ = some (.slice none 0 0) := (blk_cell BK170.out 0).trans rfl; have hfz24_0 := blk_frozen BK170.out 0))
        refine bodyPost_ret (results_ct rfl _ _ gb170 26 #[.slice A0_0 l0_0.length c0_0] (0, 0) _ rfl (by (with_reducible repeat (first | refine blk_drewN ?_ _ | refine blk_drew ?_ | refine blk_alloc ?_ _)); refine blk_put (cs := #[.slice none 0 0]) ?_ 0 _ rfl; (with_reducible repeat (first | refine blk_drewN ?_ _ | refine blk_drew ?_ | refine blk_alloc ?_ _)); exact BK170.out) Tryd.underlying26 rfl (by kernel_rfl)) rfl ?_
        exact ⟨_, by first | rfl | (simp [errW_none, errW_some] <;> rfl) | (simp [*, errW_none, errW_some] <;> rfl), by (with_reducible repeat (first | apply Kd.V_alloc | apply Kd.V_drewN | apply Kd.V_drew)); exact Kd.V_mono (Kd.V_far (p := ⟨gb170, 0, none⟩) (Kd.V_mono HO0_0.out (fun k_ hk => (⟨hk, hk.2⟩ : _ ∧ k_ ≠ gb170))) (fun _ hk => hk.2) (.slice A0_0 l0_0.length c0_0)) (fun _ hk => hk.1.1.1), by repeat (first | (with_reducible first | exact HB.out | apply below_alloc | apply pw_below_drewN | apply below_drew1 | refine below_set ?_ GE169.out | refine below_set ?_ GE170.out) | exact HB.out)⟩
      · rw [if_neg c17] at H
        have c17b0 : decide (t174 < 2) = false := decide_eq_false c17
        clear c17
        by_cases c25 : a1 > 2147483647
        · rw [if_pos c25] at H
          have c25b0 : decide (2147483647 < a1) = true := decide_eq_true c25
          clear c25
          simp only [Option.some.injEq, Prod.mk.injEq] at H
          obtain ⟨rfl, rfl⟩ := H
          go_enter Tryd.func38, Tryd.ntmps38
          go_wp2_with (first | ((with_reducible refine gate_dst (N := 2) rfl ?_); refine box_event ?hg (N := 2) ?hd (cs := #[.slice A0_0 l0_0.length c0_0]) (t := 26) ?hr ?_; (case hd => rfl); (case hg => rfl); (case hr => first | (go_simp; done) | (go_simp; rfl)); intro gb169 hg w26 hbox hb; have n0_ := Aside0.mk (Kd.V_below (Kd.V_elderB (by (with_reducible repeat (first | apply Kd.V_alloc | apply Kd.V_drewN | apply Kd.V_drew)); exact HO0_0.out) gb169 (Nat.le_of_eq hg.symm)) hb); have n1_ := Aside0.mk (below_step (by repeat (first | (with_reducible first | exact HB.out | apply below_alloc | apply pw_below_drewN | apply below_drew1) | exact HB.out)) hb); have n2_ := Aside0.mk (hbox); have n3_ := Aside0.mk ((by rw [hg]; exact (below_size (by repeat (first | (with_reducible first | exact HB.out | apply below_alloc | apply pw_below_drewN | apply below_drew1) | exact HB.out))) : w.heap.size ≤ gb169)); have n4_ := Aside0.mk ((by rw [hg]; exact (below_size (by repeat (first | (with_reducible first | exact HB.out | apply below_alloc | apply pw_below_drewN | apply below_drew1) | exact HB.out))) : w.heap.size ≤ gb169)); clear HO0_0; clear HB; have HO0_0 := n0_; have HB := n1_; have BK169 := n2_; have GW169 := n3_; have GE169 := n4_; clear n0_ n1_ n2_ n3_ n4_; clear hb hbox hg) | ((with_reducible refine gate_dst (N := 4) rfl ?_); refine box_event ?hg (N := 4) ?hd (cs := #[.slice none 0 0]) (t := 26) ?hr ?_; (case hd => rfl); (case hg => rfl); (case hr => first | (go_simp; done) | (go_simp; rfl)); intro gb170 hg w27 hbox hb; have n0_ := Aside0.mk (Kd.V_below (Kd.V_elderB (by (with_reducible repeat (first | apply Kd.V_alloc | apply Kd.V_drewN | apply Kd.V_drew)); exact HO0_0.out) gb170 (Nat.le_of_eq hg.symm)) hb); have n1_ := Aside0.mk (blk_below (g := gb169) (o := .cells #[.slice A0_0 l0_0.length c0_0] 26 (0, 0)) (by (with_reducible repeat (first | refine blk_drewN ?_ _ | refine blk_drew ?_ | refine blk_alloc ?_ _)); exact BK169.out) hb); have n2_ := Aside0.mk (below_step (by repeat (first | (with_reducible first | exact HB.out | apply below_alloc | apply pw_below_drewN | apply below_drew1 | refine below_set ?_ GE169.out) | exact HB.out)) hb); have n3_ := Aside0.mk (hbox); have n4_ := Aside0.mk ((by rw [hg]; exact (below_size (by repeat (first | (with_reducible first | exact HB.out | apply below_alloc | apply pw_below_drewN | apply below_drew1 | refine below_set ?_ GE169.out) | exact HB.out))) : w.heap.size ≤ gb170)); have n5_ := Aside0.mk ((by rw [hg]; exact (below_size (by repeat (first | (with_reducible first | exact HB.out | apply below_alloc | apply pw_below_drewN | apply below_drew1 | refine below_set ?_ GE169.out) | exact HB.out))) : w.heap.size ≤ gb170)); have n6_ := Aside0.mk ((by rw [hg]; exact Nat.ne_of_lt (blk_lt (g := gb169) (o := .cells #[.slice A0_0 l0_0.length c0_0] 26 (0, 0)) (by (with_reducible repeat (first | refine blk_drewN ?_ _ | refine blk_drew ?_ | refine blk_alloc ?_ _)); exact BK169.out)) : gb169 ≠ gb170)); have n7_ := Aside0.mk ((by rw [hg]; exact Nat.ne_of_gt (blk_lt (g := gb169) (o := .cells #[.slice A0_0 l0_0.length c0_0] 26 (0, 0)) (by (with_reducible repeat (first | refine blk_drewN ?_ _ | refine blk_drew ?_ | refine blk_alloc ?_ _)); exact BK169.out)) : gb170 ≠ gb169)); clear HO0_0; clear BK169; clear HB; have HO0_0 := n0_; have BK169 := n1_; have HB := n2_; have BK170 := n3_; have GW170 := n4_; have GE170 := n5_; have NB169_170 := n6_; have NB170_169 := n7_; clear n0_ n1_ n2_ n3_ n4_ n5_ n6_ n7_; clear hb hbox hg; have hnb28 := NB169_170.out; have hnc28 := NB170_169.out; have hcz29_0 : w27.cell? ⟨gb169, 0, none⟩ = some (.slice A0_0 l0_0.length c0_0) := (blk_cell BK169.out 0).trans rfl; have hfz29_0 := blk_frozen BK169.out 0) | ((with_reducible refine gate_callee (f := 25) rfl ?_); refine goesL_ (some 18) rfl rfl Tryd.func25 (by kernel_rfl) rfl #[.agg #[.slice A0_0 l0_0.length c0_0]] rfl (by (try simp only [List.map_toArray, List.map_cons, List.map_nil]); first | done | rfl | (simp only [List.length_drop, List.length_take]; rfl)) ?_; (with_reducible refine (nat_Nat_Bits.calls _ _ l0_0 t174 _ ?side1 ?side2 A16.out).mono ?_); (case side1 => repeat (first | exact (Kd.V_reads' HO0_0.out).2.2 | (with_reducible refine Kd.C_alloc ?_ _) | (with_reducible refine Kd.C_drewN ?_ _) | (with_reducible refine Kd.C_drew ?_))); (case side2 => exact (Kd.V_reads' HO0_0.out).2.1); rintro e w30 ⟨rfl, hb⟩; refine ⟨_, rfl, ?_⟩; have n0_ := Aside0.mk (Kd.V_below (by (with_reducible repeat (first | apply Kd.V_alloc | apply Kd.V_drewN | apply Kd.V_drew)); exact HO0_0.out) hb); have n1_ := Aside0.mk (blk_below (g := gb169) (o := .cells #[.slice A0_0 l0_0.length c0_0] 26 (0, 0)) (by (with_reducible repeat (first | refine blk_drewN ?_ _ | refine blk_drew ?_ | refine blk_alloc ?_ _)); exact BK169.out) hb); have n2_ := Aside0.mk (blk_below (g := gb170) (o := .cells #[.slice none 0 0] 26 (0, 0)) (by (with_reducible repeat (first | refine blk_drewN ?_ _ | refine blk_drew ?_ | refine blk_alloc ?_ _)); exact BK170.out) hb); have n3_ := Aside0.mk (below_step (by repeat (first | (with_reducible first | exact HB.out | apply below_alloc | apply pw_below_drewN | apply below_drew1 | refine below_set ?_ GE169.out | refine below_set ?_ GE170.out) | exact HB.out)) hb); clear HO0_0; clear BK169; clear BK170; clear HB; have HO0_0 := n0_; have BK169 := n1_; have BK170 := n2_; have HB := n3_; clear n0_ n1_ n2_ n3_; (try clear hb); (try clear hb2); (try clear hk); (try clear hi); have hcz31_0 : w30.cell? ⟨gb170, 0, none⟩ = some (.slice none 0 0) := (blk_cell BK170.out 0).trans rfl; have hfz31_0 := blk_frozen BK170.out 0))
          refine bodyPost_ret (results_ct rfl _ _ gb170 26 #[.slice none 0 0] (0, 0) _ rfl (by (with_reducible repeat (first | refine blk_drewN ?_ _ | refine blk_drew ?_ | refine blk_alloc ?_ _)); refine blk_put (cs := #[.slice none 0 0]) ?_ 0 _ rfl; (with_reducible repeat (first | refine blk_drewN ?_ _ | refine blk_drew ?_ | refine blk_alloc ?_ _)); exact BK170.out) Tryd.underlying26 rfl (by kernel_rfl)) rfl ?_
          exact ⟨_, by first | rfl | (simp [errW_none, errW_some] <;> rfl) | (simp [*, errW_none, errW_some] <;> rfl), Kd.V_mono (Kd.R_V (base := w.heap.size) (by first | exact Kd.R_nil _ _ _ _ (fun _ => False) | exact Kd.R_nil _ _ _ _ _ | exact Kd.N_nil _ _ _ _ _ | exact Kd.V_nil _ _ _ _ _ | exact Kd.Q_nil _ _ _ _ _ | exact Kd.S_nil _ _ _ _ _)) (fun k_ hk => by first | exact False.elim hk | exact ⟨(.inr (hk.1)), hk.2⟩ | exact (.inr (hk))), by repeat (first | (with_reducible first | exact HB.out | apply below_alloc | apply pw_below_drewN | apply below_drew1 | refine below_set ?_ GE169.out | refine below_set ?_ GE170.out) | exact HB.out)⟩
        · rw [if_neg c25] at H
          have c25b0 : decide (2147483647 < a1) = false := decide_eq_false c25
          clear c25
          replace H := Option.bind_eq_some_iff.mp H
          obtain ⟨t175, A320, H⟩ := H
          replace H : (if (wrap64 ((wrap64 (t175 - 1)) * a1)) ≥ 65536 then (some (([] : List Int), 41)) else ((nat_of.f k 1).bind fun t176 => (nat_Nat_Power.l0 k a1 0 l0_0 t176))) = some (r1, r2) := H
          have A32 := Aside0.mk A320
          clear A320
          by_cases c33 : (wrap64 ((wrap64 (t175 - 1)) * a1)) ≥ 65536
          · rw [if_pos c33] at H
            have c33b0 : decide (65536 ≤ (wrap64 ((wrap64 (t175 - 1)) * a1))) = true := decide_eq_true c33
            clear c33
            simp only [Option.some.injEq, Prod.mk.injEq] at H
            obtain ⟨rfl, rfl⟩ := H
            go_enter Tryd.func38, Tryd.ntmps38
            go_wp2_with (first | ((with_reducible refine gate_dst (N := 2) rfl ?_); refine box_event ?hg (N := 2) ?hd (cs := #[.slice A0_0 l0_0.length c0_0]) (t := 26) ?hr ?_; (case hd => rfl); (case hg => rfl); (case hr => first | (go_simp; done) | (go_simp; rfl)); intro gb169 hg w34 hbox hb; have n0_ := Aside0.mk (Kd.V_below (Kd.V_elderB (by (with_reducible repeat (first | apply Kd.V_alloc | apply Kd.V_drewN | apply Kd.V_drew)); exact HO0_0.out) gb169 (Nat.le_of_eq hg.symm)) hb); have n1_ := Aside0.mk (below_step (by repeat (first | (with_reducible first | exact HB.out | apply below_alloc | apply pw_below_drewN | apply below_drew1) | exact HB.out)) hb); have n2_ := Aside0.mk (hbox); have n3_ := Aside0.mk ((by rw [hg]; exact (below_size (by repeat (first | (with_reducible first | exact HB.out | apply below_alloc | apply pw_below_drewN | apply below_drew1) | exact HB.out))) : w.heap.size ≤ gb169)); have n4_ := Aside0.mk ((by rw [hg]; exact (below_size (by repeat (first | (with_reducible first | exact HB.out | apply below_alloc | apply pw_below_drewN | apply below_drew1) | exact HB.out))) : w.heap.size ≤ gb169)); clear HO0_0; clear HB; have HO0_0 := n0_; have HB := n1_; have BK169 := n2_; have GW169 := n3_; have GE169 := n4_; clear n0_ n1_ n2_ n3_ n4_; clear hb hbox hg) | ((with_reducible refine gate_dst (N := 4) rfl ?_); refine box_event ?hg (N := 4) ?hd (cs := #[.slice none 0 0]) (t := 26) ?hr ?_; (case hd => rfl); (case hg => rfl); (case hr => first | (go_simp; done) | (go_simp; rfl)); intro gb170 hg w35 hbox hb; have n0_ := Aside0.mk (Kd.V_below (Kd.V_elderB (by (with_reducible repeat (first | apply Kd.V_alloc | apply Kd.V_drewN | apply Kd.V_drew)); exact HO0_0.out) gb170 (Nat.le_of_eq hg.symm)) hb); have n1_ := Aside0.mk (blk_below (g := gb169) (o := .cells #[.slice A0_0 l0_0.length c0_0] 26 (0, 0)) (by (with_reducible repeat (first | refine blk_drewN ?_ _ | refine blk_drew ?_ | refine blk_alloc ?_ _)); exact BK169.out) hb); have n2_ := Aside0.mk (below_step (by repeat (first | (with_reducible first | exact HB.out | apply below_alloc | apply pw_below_drewN | apply below_drew1 | refine below_set ?_ GE169.out) | exact HB.out)) hb); have n3_ := Aside0.mk (hbox); have n4_ := Aside0.mk ((by rw [hg]; exact (below_size (by repeat (first | (with_reducible first | exact HB.out | apply below_alloc | apply pw_below_drewN | apply below_drew1 | refine below_set ?_ GE169.out) | exact HB.out))) : w.heap.size ≤ gb170)); have n5_ := Aside0.mk ((by rw [hg]; exact (below_size (by repeat (first | (with_reducible first | exact HB.out | apply below_alloc | apply pw_below_drewN | apply below_drew1 | refine below_set ?_ GE169.out) | exact HB.out))) : w.heap.size ≤ gb170)); have n6_ := Aside0.mk ((by rw [hg]; exact Nat.ne_of_lt (blk_lt (g := gb169) (o := .cells #[.slice A0_0 l0_0.length c0_0] 26 (0, 0)) (by (with_reducible repeat (first | refine blk_drewN ?_ _ | refine blk_drew ?_ | refine blk_alloc ?_ _)); exact BK169.out)) : gb169 ≠ gb170)); have n7_ := Aside0.mk ((by rw [hg]; exact Nat.ne_of_gt (blk_lt (g := gb169) (o := .cells #[.slice A0_0 l0_0.length c0_0] 26 (0, 0)) (by (with_reducible repeat (first | refine blk_drewN ?_ _ | refine blk_drew ?_ | refine blk_alloc ?_ _)); exact BK169.out)) : gb170 ≠ gb169)); clear HO0_0; clear BK169; clear HB; have HO0_0 := n0_; have BK169 := n1_; have HB := n2_; have BK170 := n3_; have GW170 := n4_; have GE170 := n5_; have NB169_170 := n6_; have NB170_169 := n7_; clear n0_ n1_ n2_ n3_ n4_ n5_ n6_ n7_; clear hb hbox hg; have hnb36 := NB169_170.out; have hnc36 := NB170_169.out; have hcz37_0 : w35.cell? ⟨gb169, 0, none⟩ = some (.slice A0_0 l0_0.length c0_0) := (blk_cell BK169.out 0).trans rfl; have hfz37_0 := blk_frozen BK169.out 0) | ((with_reducible refine gate_callee (f := 25) rfl ?_); refine goesL_ (some 18) rfl rfl Tryd.func25 (by kernel_rfl) rfl #[.agg #[.slice A0_0 l0_0.length c0_0]] rfl (by (try simp only [List.map_toArray, List.map_cons, List.map_nil]); first | done | rfl | (simp only [List.length_drop, List.length_take]; rfl)) ?_; (with_reducible refine (nat_Nat_Bits.calls _ _ l0_0 t174 _ ?side1 ?side2 A16.out).mono ?_); (case side1 => repeat (first | exact (Kd.V_reads' HO0_0.out).2.2 | (with_reducible refine Kd.C_alloc ?_ _) | (with_reducible refine Kd.C_drewN ?_ _) | (with_reducible refine Kd.C_drew ?_))); (case side2 => exact (Kd.V_reads' HO0_0.out).2.1); rintro e w38 ⟨rfl, hb⟩; refine ⟨_, rfl, ?_⟩; have n0_ := Aside0.mk (Kd.V_below (by (with_reducible repeat (first | apply Kd.V_alloc | apply Kd.V_drewN | apply Kd.V_drew)); exact HO0_0.out) hb); have n1_ := Aside0.mk (blk_below (g := gb169) (o := .cells #[.slice A0_0 l0_0.length c0_0] 26 (0, 0)) (by (with_reducible repeat (first | refine blk_drewN ?_ _ | refine blk_drew ?_ | refine blk_alloc ?_ _)); exact BK169.out) hb); have n2_ := Aside0.mk (blk_below (g := gb170) (o := .cells #[.slice none 0 0] 26 (0, 0)) (by (with_reducible repeat (first | refine blk_drewN ?_ _ | refine blk_drew ?_ | refine blk_alloc ?_ _)); exact BK170.out) hb); have n3_ := Aside0.mk (below_step (by repeat (first | (with_reducible first | exact HB.out | apply below_alloc | apply pw_below_drewN | apply below_drew1 | refine below_set ?_ GE169.out | refine below_set ?_ GE170.out) | exact HB.out)) hb); clear HO0_0; clear BK169; clear BK170; clear HB; have HO0_0 := n0_; have BK169 := n1_; have BK170 := n2_; have HB := n3_; clear n0_ n1_ n2_ n3_; (try clear hb); (try clear hb2); (try clear hk); (try clear hi); have hcz39_0 : w38.cell? ⟨gb169, 0, none⟩ = some (.slice A0_0 l0_0.length c0_0) := (blk_cell BK169.out 0).trans rfl; have hfz39_0 := blk_frozen BK169.out 0) | (go_at_call 25; (with_reducible refine (nat_Nat_Bits.calls _ _ l0_0 t175 _ ?side1 ?side2 A32.out).mono ?_); (case side1 => repeat (first | exact (Kd.V_reads' HO0_0.out).2.2 | (with_reducible refine Kd.C_alloc ?_ _) | (with_reducible refine Kd.C_drewN ?_ _) | (with_reducible refine Kd.C_drew ?_))); (case side2 => exact (Kd.V_reads' HO0_0.out).2.1); rintro e w40 ⟨rfl, hb⟩; have n0_ := Aside0.mk (Kd.V_below (by (with_reducible repeat (first | apply Kd.V_alloc | apply Kd.V_drewN | apply Kd.V_drew)); exact HO0_0.out) hb); have n1_ := Aside0.mk (blk_below (g := gb169) (o := .cells #[.slice A0_0 l0_0.length c0_0] 26 (0, 0)) (by (with_reducible repeat (first | refine blk_drewN ?_ _ | refine blk_drew ?_ | refine blk_alloc ?_ _)); exact BK169.out) hb); have n2_ := Aside0.mk (blk_below (g := gb170) (o := .cells #[.slice none 0 0] 26 (0, 0)) (by (with_reducible repeat (first | refine blk_drewN ?_ _ | refine blk_drew ?_ | refine blk_alloc ?_ _)); exact BK170.out) hb); have n3_ := Aside0.mk (below_step (by repeat (first | (with_reducible first | exact HB.out | apply below_alloc | apply pw_below_drewN | apply below_drew1 | refine below_set ?_ GE169.out | refine below_set ?_ GE170.out) | exact HB.out)) hb); clear HO0_0; clear BK169; clear BK170; clear HB; have HO0_0 := n0_; have BK169 := n1_; have BK170 := n2_; have HB := n3_; clear n0_ n1_ n2_ n3_; (try clear hb); (try clear hb2); (try clear hk); (try clear hi); have hcz41_0 : w40.cell? ⟨gb170, 0, none⟩ = some (.slice none 0 0) := (blk_cell BK170.out 0).trans rfl; have hfz41_0 := blk_frozen BK170.out 0))
            refine bodyPost_ret (results_ct rfl _ _ gb170 26 #[.slice none 0 0] (0, 0) _ rfl (by (with_reducible repeat (first | refine blk_drewN ?_ _ | refine blk_drew ?_ | refine blk_alloc ?_ _)); refine blk_put (cs := #[.slice none 0 0]) ?_ 0 _ rfl; (with_reducible repeat (first | refine blk_drewN ?_ _ | refine blk_drew ?_ | refine blk_alloc ?_ _)); exact BK170.out) Tryd.underlying26 rfl (by kernel_rfl)) rfl ?_
            exact ⟨_, by first | rfl | (simp [errW_none, errW_some] <;> rfl) | (simp [*, errW_none, errW_some] <;> rfl), Kd.V_mono (Kd.R_V (base := w.heap.size) (by first | exact Kd.R_nil _ _ _ _ (fun _ => False) | exact Kd.R_nil _ _ _ _ _ | exact Kd.N_nil _ _ _ _ _ | exact Kd.V_nil _ _ _ _ _ | exact Kd.Q_nil _ _ _ _ _ | exact Kd.S_nil _ _ _ _ _)) (fun k_ hk => by first | exact False.elim hk | exact ⟨(.inr (hk.1)), hk.2⟩ | exact (.inr (hk))), by repeat (first | (with_reducible first | exact HB.out | apply below_alloc | apply pw_below_drewN | apply below_drew1 | refine below_set ?_ GE169.out | refine below_set ?_ GE170.out) | exact HB.out)⟩
          · rw [if_neg c33] at H
            have c33b0 : decide (65536 ≤ (wrap64 ((wrap64 (t175 - 1)) * a1))) = false := decide_eq_false c33
            clear c33
            replace H := Option.bind_eq_some_iff.mp H
            obtain ⟨t176, A420, H⟩ := H
            replace H : (nat_Nat_Power.l0 k a1 0 l0_0 t176) = some (r1, r2) := H
            have A42 := Aside0.mk A420
            clear A420
            have H' := Aside0.mk H
            clear H
            go_enter Tryd.func38, Tryd.ntmps38
            go_wp2_with (first | ((with_reducible refine gate_dst (N := 2) rfl ?_); refine box_event ?hg (N := 2) ?hd (cs := #[.slice A0_0 l0_0.length c0_0]) (t := 26) ?hr ?_; (case hd => rfl); (case hg => rfl); (case hr => first | (go_simp; done) | (go_simp; rfl)); intro gb169 hg w43 hbox hb; have n0_ := Aside0.mk (Kd.V_below (Kd.V_elderB (by (with_reducible repeat (first | apply Kd.V_alloc | apply Kd.V_drewN | apply Kd.V_drew)); exact HO0_0.out) gb169 (Nat.le_of_eq hg.symm)) hb); have n1_ := Aside0.mk (below_step (by repeat (first | (with_reducible first | exact HB.out | apply below_alloc | apply pw_below_drewN | apply below_drew1) | exact HB.out)) hb); have n2_ := Aside0.mk (hbox); have n3_ := Aside0.mk ((by rw [hg]; exact (below_size (by repeat (first | (with_reducible first | exact HB.out | apply below_alloc | apply pw_below_drewN | apply below_drew1) | exact HB.out))) : w.heap.size ≤ gb169)); have n4_ := Aside0.mk ((by rw [hg]; exact (below_size (by repeat (first | (with_reducible first | exact HB.out | apply below_alloc | apply pw_below_drewN | apply below_drew1) | exact HB.out))) : w.heap.size ≤ gb169)); clear HO0_0; clear HB; have HO0_0 := n0_; have HB := n1_; have BK169 := n2_; have GW169 := n3_; have GE169 := n4_; clear n0_ n1_ n2_ n3_ n4_; clear hb hbox hg) | ((with_reducible refine gate_dst (N := 4) rfl ?_); refine box_event ?hg (N := 4) ?hd (cs := #[.slice none 0 0]) (t := 26) ?hr ?_; (case hd => rfl); (case hg => rfl); (case hr => first | (go_simp; done) | (go_simp; rfl)); intro gb170 hg w44 hbox hb; have n0_ := Aside0.mk (Kd.V_below (Kd.V_elderB (by (with_reducible repeat (first | apply Kd.V_alloc | apply Kd.V_drewN | apply Kd.V_drew)); exact HO0_0.out) gb170 (Nat.le_of_eq hg.symm)) hb); have n1_ := Aside0.mk (blk_below (g := gb169) (o := .cells #[.slice A0_0 l0_0.length c0_0] 26 (0, 0)) (by (with_reducible repeat (first | refine blk_drewN ?_ _ | refine blk_drew ?_ | refine blk_alloc ?_ _)); exact BK169.out) hb); have n2_ := Aside0.mk (below_step (by repeat (first | (with_reducible first | exact HB.out | apply below_alloc | apply pw_below_drewN | apply below_drew1 | refine below_set ?_ GE169.out) | exact HB.out)) hb); have n3_ := Aside0.mk (hbox); have n4_ := Aside0.mk ((by rw [hg]; exact (below_size (by repeat (first | (with_reducible first | exact HB.out | apply below_alloc | apply pw_below_drewN | apply below_drew1 | refine below_set ?_ GE169.out) | exact HB.out))) : w.heap.size ≤ gb170)); have n5_ := Aside0.mk ((by rw [hg]; exact (below_size (by repeat (first | (with_reducible first | exact HB.out | apply below_alloc | apply pw_below_drewN | apply below_drew1 | refine below_set ?_ GE169.out) | exact HB.out))) : w.heap.size ≤ gb170)); have n6_ := Aside0.mk ((by rw [hg]; exact Nat.ne_of_lt (blk_lt (g := gb169) (o := .cells #[.slice A0_0 l0_0.length c0_0] 26 (0, 0)) (by (with_reducible repeat (first | refine blk_drewN ?_ _ | refine blk_drew ?_ | refine blk_alloc ?_ _)); exact BK169.out)) : gb169 ≠ gb170)); have n7_ := Aside0.mk ((by rw [hg]; exact Nat.ne_of_gt (blk_lt (g := gb169) (o := .cells #[.slice A0_0 l0_0.length c0_0] 26 (0, 0)) (by (with_reducible repeat (first | refine blk_drewN ?_ _ | refine blk_drew ?_ | refine blk_alloc ?_ _)); exact BK169.out)) : gb170 ≠ gb169)); clear HO0_0; clear BK169; clear HB; have HO0_0 := n0_; have BK169 := n1_; have HB := n2_; have BK170 := n3_; have GW170 := n4_; have GE170 := n5_; have NB169_170 := n6_; have NB170_169 := n7_; clear n0_ n1_ n2_ n3_ n4_ n5_ n6_ n7_; clear hb hbox hg; have hnb45 := NB169_170.out; have hnc45 := NB170_169.out; have hcz46_0 : w44.cell? ⟨gb169, 0, none⟩ = some (.slice A0_0 l0_0.length c0_0) := (blk_cell BK169.out 0).trans rfl; have hfz46_0 := blk_frozen BK169.out 0) | ((with_reducible refine gate_callee (f := 25) rfl ?_); refine goesL_ (some 18) rfl rfl Tryd.func25 (by kernel_rfl) rfl #[.agg #[.slice A0_0 l0_0.length c0_0]] rfl (by (try simp only [List.map_toArray, List.map_cons, List.map_nil]); first | done | rfl | (simp only [List.length_drop, List.length_take]; rfl)) ?_; (with_reducible refine (nat_Nat_Bits.calls _ _ l0_0 t174 _ ?side1 ?side2 A16.out).mono ?_); (case side1 => repeat (first | exact (Kd.V_reads' HO0_0.out).2.2 | (with_reducible refine Kd.C_alloc ?_ _) | (with_reducible refine Kd.C_drewN ?_ _) | (with_reducible refine Kd.C_drew ?_))); (case side2 => exact (Kd.V_reads' HO0_0.out).2.1); rintro e w47 ⟨rfl, hb⟩; refine ⟨_, rfl, ?_⟩; have n0_ := Aside0.mk (Kd.V_below (by (with_reducible repeat (first | apply Kd.V_alloc | apply Kd.V_drewN | apply Kd.V_drew)); exact HO0_0.out) hb); have n1_ := Aside0.mk (blk_below (g := gb169) (o := .cells #[.slice A0_0 l0_0.length c0_0] 26 (0, 0)) (by (with_reducible repeat (first | refine blk_drewN ?_ _ | refine blk_drew ?_ | refine blk_alloc ?_ _)); exact BK169.out) hb); have n2_ := Aside0.mk (blk_below (g := gb170) (o := .cells #[.slice none 0 0] 26 (0, 0)) (by (with_reducible repeat (first | refine blk_drewN ?_ _ | refine blk_drew ?_ | refine blk_alloc ?_ _)); exact BK170.out) hb); have n3_ := Aside0.mk (below_step (by repeat (first | (with_reducible first | exact HB.out | apply below_alloc | apply pw_below_drewN | apply below_drew1 | refine below_set ?_ GE169.out | refine below_set ?_ GE170.out) | exact HB.out)) hb); clear HO0_0; clear BK169; clear BK170; clear HB; have HO0_0 := n0_; have BK169 := n1_; have BK170 := n2_; have HB := n3_; clear n0_ n1_ n2_ n3_; (try clear hb); (try clear hb2); (try clear hk); (try clear hi); have hcz48_0 : w47.cell? ⟨gb169, 0, none⟩ = some (.slice A0_0 l0_0.length c0_0) := (blk_cell BK169.out 0).trans rfl; have hfz48_0 := blk_frozen BK169.out 0) | (go_at_call 25; (with_reducible refine (nat_Nat_Bits.calls _ _ l0_0 t175 _ ?side1 ?side2 A32.out).mono ?_); (case side1 => repeat (first | exact (Kd.V_reads' HO0_0.out).2.2 | (with_reducible refine Kd.C_alloc ?_ _) | (with_reducible refine Kd.C_drewN ?_ _) | (with_reducible refine Kd.C_drew ?_))); (case side2 => exact (Kd.V_reads' HO0_0.out).2.1); rintro e w49 ⟨rfl, hb⟩; have n0_ := Aside0.mk (Kd.V_below (by (with_reducible repeat (first | apply Kd.V_alloc | apply Kd.V_drewN | apply Kd.V_drew)); exact HO0_0.out) hb); have n1_ := Aside0.mk (blk_below (g := gb169) (o := .cells #[.slice A0_0 l0_0.length c0_0] 26 (0, 0)) (by (with_reducible repeat (first | refine blk_drewN ?_ _ | refine blk_drew ?_ | refine blk_alloc ?_ _)); exact BK169.out) hb); have n2_ := Aside0.mk (blk_below (g := gb170) (o := .cells #[.slice none 0 0] 26 (0, 0)) (by (with_reducible repeat (first | refine blk_drewN ?_ _ | refine blk_drew ?_ | refine blk_alloc ?_ _)); exact BK170.out) hb); have n3_ := Aside0.mk (below_step (by repeat (first | (with_reducible first | exact HB.out | apply below_alloc | apply pw_below_drewN | apply below_drew1 | refine below_set ?_ GE169.out | refine below_set ?_ GE170.out) | exact HB.out)) hb); clear HO0_0; clear BK169; clear BK170; clear HB; have HO0_0 := n0_; have BK169 := n1_; have BK170 := n2_; have HB := n3_; clear n0_ n1_ n2_ n3_; (try clear hb); (try clear hb2); (try clear hk); (try clear hi)) | ((with_reducible refine gate_callee (f := 48) rfl ?_); refine goesL_ (some 33) rfl rfl Tryd.func48 (by kernel_rfl) rfl #[.int .u64 1] rfl (by (try simp only [List.map_toArray, List.map_cons, List.map_nil]); first | done | rfl | (simp only [List.length_drop, List.length_take]; rfl)) ?_; (with_reducible refine (nat_of.calls k 1 t176 _ A42.out).mono ?_); rintro e w50 ⟨v177, rfl, ho0, hb⟩; refine ⟨_, rfl, ?_⟩; have n0_ := Aside0.mk (Kd.V_below (by (with_reducible repeat (first | apply Kd.V_alloc | apply Kd.V_drewN | apply Kd.V_drew)); exact HO0_0.out) hb); have n1_ := Aside0.mk (Kd.V_lower (Kd.V_mono (ok' := fun k_ => (P0_0_ k_ ∨ w.heap.size ≤ k_) ∧ k_ ≠ gb169 ∧ k_ ≠ gb170) ho0 (fun k_ hk_ => ⟨(.inr (Nat.le_trans (below_size (by repeat (first | (with_reducible first | exact HB.out | apply below_alloc | apply pw_below_drewN | apply below_drew1 | refine below_set ?_ GE169.out | refine below_set ?_ GE170.out) | exact HB.out))) hk_)), (Kd.freshB (g := gb169) (o := .cells #[.slice A0_0 l0_0.length c0_0] 26 (0, 0)) (by (with_reducible repeat (first | refine blk_drewN ?_ _ | refine blk_drew ?_ | refine blk_alloc ?_ _)); exact BK169.out) k_ hk_), (Kd.freshB (g := gb170) (o := .cells #[.slice none 0 0] 26 (0, 0)) (by (with_reducible repeat (first | refine blk_drewN ?_ _ | refine blk_drew ?_ | refine blk_alloc ?_ _)); exact BK170.out) k_ hk_)⟩)) (below_size (by repeat (first | (with_reducible first | exact HB.out | apply below_alloc | apply pw_below_drewN | apply below_drew1 | refine below_set ?_ GE169.out | refine below_set ?_ GE170.out) | exact HB.out)))); have n2_ := Aside0.mk (blk_below (g := gb169) (o := .cells #[.slice A0_0 l0_0.length c0_0] 26 (0, 0)) (by (with_reducible repeat (first | refine blk_drewN ?_ _ | refine blk_drew ?_ | refine blk_alloc ?_ _)); exact BK169.out) hb); have n3_ := Aside0.mk (blk_below (g := gb170) (o := .cells #[.slice none 0 0] 26 (0, 0)) (by (with_reducible repeat (first | refine blk_drewN ?_ _ | refine blk_drew ?_ | refine blk_alloc ?_ _)); exact BK170.out) hb); have n4_ := Aside0.mk (below_step (by repeat (first | (with_reducible first | exact HB.out | apply below_alloc | apply pw_below_drewN | apply below_drew1 | refine below_set ?_ GE169.out | refine below_set ?_ GE170.out) | exact HB.out)) hb); clear HO0_0; clear BK169; clear BK170; clear HB; have HO0_0 := n0_; have HO178 := n1_; have BK169 := n2_; have BK170 := n3_; have HB := n4_; clear n0_ n1_ n2_ n3_ n4_; (try clear hb); (try clear hb2); (try clear hk); (try clear hi); (try clear ho0)) | ((with_reducible refine gate_dst (N := 6) rfl ?_); refine box_event ?hg (N := 6) ?hd (cs := #[.slice none 0 0]) (t := 26) ?hr ?_; (case hd => rfl); (case hg => rfl); (case hr => first | (go_simp; done) | (go_simp; rfl)); intro gb179 hg w51 hbox hb; have n0_ := Aside0.mk (Kd.V_below (Kd.V_elderB (by (with_reducible repeat (first | apply Kd.V_alloc | apply Kd.V_drewN | apply Kd.V_drew)); exact HO0_0.out) gb179 (Nat.le_of_eq hg.symm)) hb); have n1_ := Aside0.mk (Kd.V_below (Kd.V_elderB (by (with_reducible repeat (first | apply Kd.V_alloc | apply Kd.V_drewN | apply Kd.V_drew)); exact HO178.out) gb179 (Nat.le_of_eq hg.symm)) hb); have n2_ := Aside0.mk (blk_below (g := gb169) (o := .cells #[.slice A0_0 l0_0.length c0_0] 26 (0, 0)) (by (with_reducible repeat (first | refine blk_drewN ?_ _ | refine blk_drew ?_ | refine blk_alloc ?_ _)); exact BK169.out) hb); have n3_ := Aside0.mk (blk_below (g := gb170) (o := .cells #[.slice none 0 0] 26 (0, 0)) (by (with_reducible repeat (first | refine blk_drewN ?_ _ | refine blk_drew ?_ | refine blk_alloc ?_ _)); exact BK170.out) hb); have n4_ := Aside0.mk (below_step (by repeat (first | (with_reducible first | exact HB.out | apply below_alloc | apply pw_below_drewN | apply below_drew1 | refine below_set ?_ GE169.out | refine below_set ?_ GE170.out) | exact HB.out)) hb); have n5_ := Aside0.mk (hbox); have n6_ := Aside0.mk ((by rw [hg]; exact (below_size (by repeat (first | (with_reducible first | exact HB.out | apply below_alloc | apply pw_below_drewN | apply below_drew1 | refine below_set ?_ GE169.out | refine below_set ?_ GE170.out) | exact HB.out))) : w.heap.size ≤ gb179)); have n7_ := Aside0.mk ((by rw [hg]; exact (below_size (by repeat (first | (with_reducible first | exact HB.out | apply below_alloc | apply pw_below_drewN | apply below_drew1 | refine below_set ?_ GE169.out | refine below_set ?_ GE170.out) | exact HB.out))) : w.heap.size ≤ gb179)); have n8_ := Aside0.mk ((by rw [hg]; exact Nat.ne_of_lt (blk_lt (g := gb169) (o := .cells #[.slice A0_0 l0_0.length c0_0] 26 (0, 0)) (by (with_reducible repeat (first | refine blk_drewN ?_ _ | refine blk_drew ?_ | refine blk_alloc ?_ _)); exact BK169.out)) : gb169 ≠ gb179)); have n9_ := Aside0.mk ((by rw [hg]; exact Nat.ne_of_gt (blk_lt (g := gb169) (o := .cells #[.slice A0_0 l0_0.length c0_0] 26 (0, 0)) (by (with_reducible repeat (first | refine blk_drewN ?_ _ | refine blk_drew ?_ | refine blk_alloc ?_ _)); exact BK169.out)) : gb179 ≠ gb169)); have n10_ := Aside0.mk ((by rw [hg]; exact Nat.ne_of_lt (blk_lt (g := gb170) (o := .cells #[.slice none 0 0] 26 (0, 0)) (by (with_reducible repeat (first | refine blk_drewN ?_ _ | refine blk_drew ?_ | refine blk_alloc ?_ _)); exact BK170.out)) : gb170 ≠ gb179)); have n11_ := Aside0.mk ((by rw [hg]; exact Nat.ne_of_gt (blk_lt (g := gb170) (o := .cells #[.slice none 0 0] 26 (0, 0)) (by (with_reducible repeat (first | refine blk_drewN ?_ _ | refine blk_drew ?_ | refine blk_alloc ?_ _)); exact BK170.out)) : gb179 ≠ gb170)); clear HO0_0; clear HO178; clear BK169; clear BK170; clear HB; have HO0_0 := n0_; have HO178 := n1_; have BK169 := n2_; have BK170 := n3_; have HB := n4_; have BK179 := n5_; have GW179 := n6_; have GE179 := n7_; have NB169_179 := n8_; have NB179_169 := n9_; have NB170_179 := n10_; have NB179_170 := n11_; clear n0_ n1_ n2_ n3_ n4_ n5_ n6_ n7_ n8_ n9_ n10_ n11_; clear hb hbox hg; obtain ⟨Ao52, co52, eo52⟩ := Kd.V_slice HO178.out; subst eo52; have hnb53 := NB179_169.out; have hnc53 := NB169_179.out; have hnb54 := NB179_170.out; have hnc54 := NB170_179.out; have hcz55_0 : w51.cell? ⟨gb179, 0, none⟩ = some (.slice none 0 0) := (blk_cell BK179.out 0).trans rfl; have hfz55_0 := blk_frozen BK179.out 0))
            go_loopg [35] k (fun kq v35 w' => ∃ (x35_1 : Int) (x180000_1 : List Int) (u180000 : Value), v35 = .int .i64 x35_1 ∧ Aside0 (nat_Nat_Power.l0 kq a1 x35_1 l0_0 x180000_1 = some (r1, r2)) ∧ Aside0 (kq ≤ k) ∧ Aside0 (Kd.V (Kd.int .u32) 79 w' w.heap.size (fun k_ => (P0_0_ k_ ∨ w.heap.size ≤ k_) ∧ k_ ≠ gb169 ∧ k_ ≠ gb170 ∧ k_ ≠ gb179) (.slice A0_0 l0_0.length c0_0) l0_0) ∧ Aside0 (Kd.V (Kd.int .u32) 79 w' w.heap.size (fun k_ => (P0_0_ k_ ∨ w.heap.size ≤ k_) ∧ k_ ≠ gb169 ∧ k_ ≠ gb170 ∧ k_ ≠ gb179) u180000 x180000_1) ∧ Aside0 (w'.heap[gb169]? = some (.cells #[(.slice A0_0 l0_0.length c0_0)] 26 (0, 0))) ∧ Aside0 (w'.heap[gb170]? = some (.cells #[(.slice none 0 0)] 26 (0, 0))) ∧ Aside0 (w'.heap[gb179]? = some (.cells #[u180000] 26 (0, 0))) ∧ Aside0 (Below w.heap.size w w'))
            case atStart => exact ⟨(0), (t176), (.slice Ao52 t176.length co52), (by first | rfl | (simp; done) | (simp [*]; done) | (simp [i64_w]; done) | (simp [*, i64_w]; done)), H', ⟨Nat.le_refl _⟩, ⟨by (with_reducible repeat (first | apply Kd.V_alloc | apply Kd.V_drewN | apply Kd.V_drew)); exact Kd.V_mono (Kd.V_far (p := ⟨gb179, 0, none⟩) (Kd.V_mono HO0_0.out (fun k_ hk => (⟨hk, hk.2⟩ : _ ∧ k_ ≠ gb179))) (fun _ hk => hk.2) (.slice Ao52 t176.length co52)) (fun _ hk => ⟨hk.1.1.1.1, ⟨hk.1.1.1.2, ⟨hk.1.1.2, hk.1.2⟩⟩⟩)⟩, ⟨by (with_reducible repeat (first | apply Kd.V_alloc | apply Kd.V_drewN | apply Kd.V_drew)); exact Kd.V_mono (Kd.V_far (p := ⟨gb179, 0, none⟩) (Kd.V_mono HO178.out (fun k_ hk => (⟨hk, hk.2⟩ : _ ∧ k_ ≠ gb179))) (fun _ hk => hk.2) (.slice Ao52 t176.length co52)) (fun _ hk => ⟨hk.1.1.1, ⟨hk.1.1.2.1, ⟨hk.1.1.2.2, hk.1.2⟩⟩⟩)⟩, ⟨by (with_reducible repeat (first | refine blk_drewN ?_ _ | refine blk_drew ?_ | refine blk_alloc ?_ _)); refine blk_far ?_ NB169_179.out _; (with_reducible repeat (first | refine blk_drewN ?_ _ | refine blk_drew ?_ | refine blk_alloc ?_ _)); exact BK169.out⟩, ⟨by (with_reducible repeat (first | refine blk_drewN ?_ _ | refine blk_drew ?_ | refine blk_alloc ?_ _)); refine blk_far ?_ NB170_179.out _; (with_reducible repeat (first | refine blk_drewN ?_ _ | refine blk_drew ?_ | refine blk_alloc ?_ _)); exact BK170.out⟩, ⟨by (with_reducible repeat (first | refine blk_drewN ?_ _ | refine blk_drew ?_ | refine blk_alloc ?_ _)); refine blk_put (cs := #[.slice none 0 0]) ?_ 0 _ rfl; (with_reducible repeat (first | refine blk_drewN ?_ _ | refine blk_drew ?_ | refine blk_alloc ?_ _)); exact BK179.out⟩, ⟨by repeat (first | (with_reducible first | exact HB.out | apply below_alloc | apply pw_below_drewN | apply below_drew1 | refine below_set ?_ GE169.out | refine below_set ?_ GE170.out | refine below_set ?_ GE179.out) | exact HB.out)⟩⟩
            case round =>
              clear H'
              try clear c1
              try clear c2
              try clear p2
              try clear c3
              try clear c3b0
              try clear c4
              try clear c5
              try clear c6
              try clear p6
              try clear c8
              try clear c8b0
              try clear c8b1
              try clear c14
              try clear c17
              try clear c17b0
              try clear c20
              try clear c25
              try clear c25b0
              try clear c28
              try clear c33
              try clear c33b0
              try clear c36
              try clear c38
              try clear c45
              try clear c48
              try clear c53
              try clear c54
              try clear hcz15_0
              try clear hcz21_0
              try clear hcz23_0
              try clear hcz24_0
              try clear hcz29_0
              try clear hcz31_0
              try clear hcz37_0
              try clear hcz39_0
              try clear hcz41_0
              try clear hcz46_0
              try clear hcz48_0
              try clear hcz55_0
              try clear hcz7_0
              try clear hfz15_0
              try clear hfz21_0
              try clear hfz23_0
              try clear hfz24_0
              try clear hfz29_0
              try clear hfz31_0
              try clear hfz37_0
              try clear hfz39_0
              try clear hfz41_0
              try clear hfz46_0
              try clear hfz48_0
              try clear hfz55_0
              try clear hfz7_0
              obtain ⟨x35_1, x180000_1, u180000, rfl, HA, HK1, HO_170000, HO_180000, BK169, BK170, BK179, HB⟩ := hrel
              cases gk with
              | zero => exact absurd HA.out (by simp [nat_Nat_Power.l0])
              | succ k1 =>
                have H := HA.out
                clear HA
                simp only [nat_Nat_Power.l0] at H
                by_cases c56 : x35_1 < a1
                · rw [if_pos c56] at H
                  have c56b0 : decide (x35_1 < a1) = true := decide_eq_true c56
                  clear c56
                  replace H := Option.bind_eq_some_iff.mp H
                  obtain ⟨⟨t180, t183⟩, A570, H⟩ := H
                  replace H : (if t183 = 0 then (nat_Nat_Power.l0 k1 a1 (wrap64 (x35_1 + 1)) l0_0 t180) else (some (([] : List Int), t183))) = some (r1, r2) := H
                  have A57 := Aside0.mk A570
                  clear A570
                  by_cases c58 : t183 = 0
                  · rw [if_pos c58] at H
                    have c58b0 : (t183 == 0) = true := beq_iff_eq.mpr c58
                    have c58b1 : (t183 != 0) = false := bne_eq_false_iff_eq.mpr c58
                    clear c58
                    have H' := Aside0.mk H
                    clear H
                    have hnb59 := NB179_169.out
                    have hnc59 := NB169_179.out
                    have hnb60 := NB179_170.out
                    have hnc60 := NB170_179.out
                    have hcz61_0 : wr.cell? ⟨gb179, 0, none⟩ = some (u180000) := (blk_cell BK179.out 0).trans rfl
                    have hfz61_0 := blk_frozen BK179.out 0
                    have hnb62 := NB169_170.out
                    have hnc62 := NB170_169.out
                    have hcz63_0 : wr.cell? ⟨gb169, 0, none⟩ = some (.slice A0_0 l0_0.length c0_0) := (blk_cell BK169.out 0).trans rfl
                    have hfz63_0 := blk_frozen BK169.out 0
                    obtain ⟨Ao64, co64, eo64⟩ := Kd.V_slice HO_180000.out
                    subst eo64
                    go_wp2_with (first | ((with_reducible refine gate_callee (f := 44) rfl ?_); refine goesL_ (some 40) rfl rfl Tryd.func44 (by kernel_rfl) rfl #[.agg #[.slice Ao64 x180000_1.length co64], .agg #[.slice A0_0 l0_0.length c0_0]] rfl (by (try simp only [List.map_toArray, List.map_cons, List.map_nil]); first | done | rfl | (simp only [List.length_drop, List.length_take]; rfl)) ?_; (with_reducible refine (nat_Nat_Mul.calls k1 _ _ x180000_1 _ _ l0_0 t180 t183 _ ?side1 ?side2 ?side3 ?side4 A57.out).mono ?_); (case side1 => repeat (first | exact (Kd.V_reads' HO_180000.out).2.2 | (with_reducible refine Kd.C_alloc ?_ _) | (with_reducible refine Kd.C_drewN ?_ _) | (with_reducible refine Kd.C_drew ?_))); (case side2 => exact (Kd.V_reads' HO_180000.out).2.1); (case side3 => repeat (first | exact (Kd.V_reads' HO_170000.out).2.2 | (with_reducible refine Kd.C_alloc ?_ _) | (with_reducible refine Kd.C_drewN ?_ _) | (with_reducible refine Kd.C_drew ?_))); (case side4 => exact (Kd.V_reads' HO_170000.out).2.1); rintro e w65 ⟨v181, rfl, ho0, hb⟩; refine ⟨_, rfl, ?_⟩; have n0_ := Aside0.mk (Kd.V_below (by (with_reducible repeat (first | apply Kd.V_alloc | apply Kd.V_drewN | apply Kd.V_drew)); exact HO_170000.out) hb); have n1_ := Aside0.mk (Kd.V_below (by (with_reducible repeat (first | apply Kd.V_alloc | apply Kd.V_drewN | apply Kd.V_drew)); exact HO_180000.out) hb); have n2_ := Aside0.mk (Kd.V_lower (Kd.V_mono (ok' := fun k_ => (P0_0_ k_ ∨ w.heap.size ≤ k_) ∧ k_ ≠ gb169 ∧ k_ ≠ gb170 ∧ k_ ≠ gb179) ho0 (fun k_ hk_ => ⟨(.inr (Nat.le_trans (below_size (by repeat (first | (with_reducible first | exact HB.out | apply below_alloc | apply pw_below_drewN | apply below_drew1 | refine below_set ?_ GE169.out | refine below_set ?_ GE170.out | refine below_set ?_ GE179.out) | exact HB.out))) hk_)), (Kd.freshB (g := gb169) (o := .cells #[.slice A0_0 l0_0.length c0_0] 26 (0, 0)) (by (with_reducible repeat (first | refine blk_drewN ?_ _ | refine blk_drew ?_ | refine blk_alloc ?_ _)); exact BK169.out) k_ hk_), (Kd.freshB (g := gb170) (o := .cells #[.slice none 0 0] 26 (0, 0)) (by (with_reducible repeat (first | refine blk_drewN ?_ _ | refine blk_drew ?_ | refine blk_alloc ?_ _)); exact BK170.out) k_ hk_), (Kd.freshB (g := gb179) (o := .cells #[.slice Ao64 x180000_1.length co64] 26 (0, 0)) (by (with_reducible repeat (first | refine blk_drewN ?_ _ | refine blk_drew ?_ | refine blk_alloc ?_ _)); exact BK179.out) k_ hk_)⟩)) (below_size (by repeat (first | (with_reducible first | exact HB.out | apply below_alloc | apply pw_below_drewN | apply below_drew1 | refine below_set ?_ GE169.out | refine below_set ?_ GE170.out | refine below_set ?_ GE179.out) | exact HB.out)))); have n3_ := Aside0.mk (blk_below (g := gb169) (o := .cells #[.slice A0_0 l0_0.length c0_0] 26 (0, 0)) (by (with_reducible repeat (first | refine blk_drewN ?_ _ | refine blk_drew ?_ | refine blk_alloc ?_ _)); exact BK169.out) hb); have n4_ := Aside0.mk (blk_below (g := gb170) (o := .cells #[.slice none 0 0] 26 (0, 0)) (by (with_reducible repeat (first | refine blk_drewN ?_ _ | refine blk_drew ?_ | refine blk_alloc ?_ _)); exact BK170.out) hb); have n5_ := Aside0.mk (blk_below (g := gb179) (o := .cells #[.slice Ao64 x180000_1.length co64] 26 (0, 0)) (by (with_reducible repeat (first | refine blk_drewN ?_ _ | refine blk_drew ?_ | refine blk_alloc ?_ _)); exact BK179.out) hb); have n6_ := Aside0.mk (below_step (by repeat (first | (with_reducible first | exact HB.out | apply below_alloc | apply pw_below_drewN | apply below_drew1 | refine below_set ?_ GE169.out | refine below_set ?_ GE170.out | refine below_set ?_ GE179.out) | exact HB.out)) hb); clear HO_170000; clear HO_180000; clear BK169; clear BK170; clear BK179; clear HB; have HO_170000 := n0_; have HO_180000 := n1_; have HO182 := n2_; have BK169 := n3_; have BK170 := n4_; have BK179 := n5_; have HB := n6_; clear n0_ n1_ n2_ n3_ n4_ n5_ n6_; (try clear hb); (try clear hb2); (try clear hk); (try clear hi); (try clear ho0); obtain ⟨Ao66, co66, eo66⟩ := Kd.V_slice HO182.out; subst eo66; have hcz67_0 : w65.cell? ⟨gb179, 0, none⟩ = some (.slice Ao64 x180000_1.length co64) := (blk_cell BK179.out 0).trans rfl; have hfz67_0 := blk_frozen BK179.out 0))
                    go_roundg k1
                    case measure => have := HK1.out; omega
                    case rel => exact ⟨(wrap64 (x35_1 + 1)), (t180), (.slice Ao66 t180.length co66), (by first | rfl | (simp; done) | (simp [*]; done) | (simp [i64_w]; done) | (simp [*, i64_w]; done)), H', ⟨by have := HK1.out; omega⟩, ⟨by (with_reducible repeat (first | apply Kd.V_alloc | apply Kd.V_drewN | apply Kd.V_drew)); exact Kd.V_mono (Kd.V_far (p := ⟨gb179, 0, none⟩) (Kd.V_mono HO_170000.out (fun k_ hk => (⟨hk, hk.2.2.2⟩ : _ ∧ k_ ≠ gb179))) (fun _ hk => hk.2) (.slice Ao66 t180.length co66)) (fun _ hk => ⟨hk.1.1, ⟨hk.1.2.1, ⟨hk.1.2.2.1, hk.1.2.2.2⟩⟩⟩)⟩, ⟨by (with_reducible repeat (first | apply Kd.V_alloc | apply Kd.V_drewN | apply Kd.V_drew)); exact Kd.V_mono (Kd.V_far (p := ⟨gb179, 0, none⟩) (Kd.V_mono HO182.out (fun k_ hk => (⟨hk, hk.2.2.2⟩ : _ ∧ k_ ≠ gb179))) (fun _ hk => hk.2) (.slice Ao66 t180.length co66)) (fun _ hk => ⟨hk.1.1, ⟨hk.1.2.1, ⟨hk.1.2.2.1, hk.1.2.2.2⟩⟩⟩)⟩, ⟨by (with_reducible repeat (first | refine blk_drewN ?_ _ | refine blk_drew ?_ | refine blk_alloc ?_ _)); refine blk_far ?_ NB169_179.out _; (with_reducible repeat (first | refine blk_drewN ?_ _ | refine blk_drew ?_ | refine blk_alloc ?_ _)); exact BK169.out⟩, ⟨by (with_reducible repeat (first | refine blk_drewN ?_ _ | refine blk_drew ?_ | refine blk_alloc ?_ _)); refine blk_far ?_ NB170_179.out _; (with_reducible repeat (first | refine blk_drewN ?_ _ | refine blk_drew ?_ | refine blk_alloc ?_ _)); exact BK170.out⟩, ⟨by (with_reducible repeat (first | refine blk_drewN ?_ _ | refine blk_drew ?_ | refine blk_alloc ?_ _)); refine blk_put (cs := #[.slice Ao64 x180000_1.length co64]) ?_ 0 _ rfl; (with_reducible repeat (first | refine blk_drewN ?_ _ | refine blk_drew ?_ | refine blk_alloc ?_ _)); exact BK179.out⟩, ⟨by repeat (first | (with_reducible first | exact HB.out | apply below_alloc | apply pw_below_drewN | apply below_drew1 | refine below_set ?_ GE169.out | refine below_set ?_ GE170.out | refine below_set ?_ GE179.out) | exact HB.out)⟩⟩
                  · rw [if_neg c58] at H
                    have c58b0 : (t183 == 0) = false := beq_eq_false_iff_ne.mpr c58
                    have c58b1 : (t183 != 0) = true := bne_iff_ne.mpr c58
                    simp only [Option.some.injEq, Prod.mk.injEq] at H
                    obtain ⟨rfl, rfl⟩ := H
                    have hnb68 := NB179_169.out
                    have hnc68 := NB169_179.out
                    have hnb69 := NB179_170.out
                    have hnc69 := NB170_179.out
                    have hcz70_0 : wr.cell? ⟨gb179, 0, none⟩ = some (u180000) := (blk_cell BK179.out 0).trans rfl
                    have hfz70_0 := blk_frozen BK179.out 0
                    have hnb71 := NB169_170.out
                    have hnc71 := NB170_169.out
                    have hcz72_0 : wr.cell? ⟨gb169, 0, none⟩ = some (.slice A0_0 l0_0.length c0_0) := (blk_cell BK169.out 0).trans rfl
                    have hfz72_0 := blk_frozen BK169.out 0
                    obtain ⟨Ao73, co73, eo73⟩ := Kd.V_slice HO_180000.out
                    subst eo73
                    go_wp2_with (first | ((with_reducible refine gate_callee (f := 44) rfl ?_); refine goesL_ (some 40) rfl rfl Tryd.func44 (by kernel_rfl) rfl #[.agg #[.slice Ao73 x180000_1.length co73], .agg #[.slice A0_0 l0_0.length c0_0]] rfl (by (try simp only [List.map_toArray, List.map_cons, List.map_nil]); first | done | rfl | (simp only [List.length_drop, List.length_take]; rfl)) ?_; (with_reducible refine (nat_Nat_Mul.calls k1 _ _ x180000_1 _ _ l0_0 t180 t183 _ ?side1 ?side2 ?side3 ?side4 A57.out).mono ?_); (case side1 => repeat (first | exact (Kd.V_reads' HO_180000.out).2.2 | (with_reducible refine Kd.C_alloc ?_ _) | (with_reducible refine Kd.C_drewN ?_ _) | (with_reducible refine Kd.C_drew ?_))); (case side2 => exact (Kd.V_reads' HO_180000.out).2.1); (case side3 => repeat (first | exact (Kd.V_reads' HO_170000.out).2.2 | (with_reducible refine Kd.C_alloc ?_ _) | (with_reducible refine Kd.C_drewN ?_ _) | (with_reducible refine Kd.C_drew ?_))); (case side4 => exact (Kd.V_reads' HO_170000.out).2.1); rintro e w74 ⟨v181, rfl, ho0, hb⟩; refine ⟨_, rfl, ?_⟩; have n0_ := Aside0.mk (Kd.V_below (by (with_reducible repeat (first | apply Kd.V_alloc | apply Kd.V_drewN | apply Kd.V_drew)); exact HO_170000.out) hb); have n1_ := Aside0.mk (Kd.V_below (by (with_reducible repeat (first | apply Kd.V_alloc | apply Kd.V_drewN | apply Kd.V_drew)); exact HO_180000.out) hb); have n2_ := Aside0.mk (Kd.V_lower (Kd.V_mono (ok' := fun k_ => (P0_0_ k_ ∨ w.heap.size ≤ k_) ∧ k_ ≠ gb169 ∧ k_ ≠ gb170 ∧ k_ ≠ gb179) ho0 (fun k_ hk_ => ⟨(.inr (Nat.le_trans (below_size (by repeat (first | (with_reducible first | exact HB.out | apply below_alloc | apply pw_below_drewN | apply below_drew1 | refine below_set ?_ GE169.out | refine below_set ?_ GE170.out | refine below_set ?_ GE179.out) | exact HB.out))) hk_)), (Kd.freshB (g := gb169) (o := .cells #[.slice A0_0 l0_0.length c0_0] 26 (0, 0)) (by (with_reducible repeat (first | refine blk_drewN ?_ _ | refine blk_drew ?_ | refine blk_alloc ?_ _)); exact BK169.out) k_ hk_), (Kd.freshB (g := gb170) (o := .cells #[.slice none 0 0] 26 (0, 0)) (by (with_reducible repeat (first | refine blk_drewN ?_ _ | refine blk_drew ?_ | refine blk_alloc ?_ _)); exact BK170.out) k_ hk_), (Kd.freshB (g := gb179) (o := .cells #[.slice Ao73 x180000_1.length co73] 26 (0, 0)) (by (with_reducible repeat (first | refine blk_drewN ?_ _ | refine blk_drew ?_ | refine blk_alloc ?_ _)); exact BK179.out) k_ hk_)⟩)) (below_size (by repeat (first | (with_reducible first | exact HB.out | apply below_alloc | apply pw_below_drewN | apply below_drew1 | refine below_set ?_ GE169.out | refine below_set ?_ GE170.out | refine below_set ?_ GE179.out) | exact HB.out)))); have n3_ := Aside0.mk (blk_below (g := gb169) (o := .cells #[.slice A0_0 l0_0.length c0_0] 26 (0, 0)) (by (with_reducible repeat (first | refine blk_drewN ?_ _ | refine blk_drew ?_ | refine blk_alloc ?_ _)); exact BK169.out) hb); have n4_ := Aside0.mk (blk_below (g := gb170) (o := .cells #[.slice none 0 0] 26 (0, 0)) (by (with_reducible repeat (first | refine blk_drewN ?_ _ | refine blk_drew ?_ | refine blk_alloc ?_ _)); exact BK170.out) hb); have n5_ := Aside0.mk (blk_below (g := gb179) (o := .cells #[.slice Ao73 x180000_1.length co73] 26 (0, 0)) (by (with_reducible repeat (first | refine blk_drewN ?_ _ | refine blk_drew ?_ | refine blk_alloc ?_ _)); exact BK179.out) hb); have n6_ := Aside0.mk (below_step (by repeat (first | (with_reducible first | exact HB.out | apply below_alloc | apply pw_below_drewN | apply below_drew1 | refine below_set ?_ GE169.out | refine below_set ?_ GE170.out | refine below_set ?_ GE179.out) | exact HB.out)) hb); clear HO_170000; clear HO_180000; clear BK169; clear BK170; clear BK179; clear HB; have HO_170000 := n0_; have HO_180000 := n1_; have HO182 := n2_; have BK169 := n3_; have BK170 := n4_; have BK179 := n5_; have HB := n6_; clear n0_ n1_ n2_ n3_ n4_ n5_ n6_; (try clear hb); (try clear hb2); (try clear hk); (try clear hi); (try clear ho0); obtain ⟨Ao75, co75, eo75⟩ := Kd.V_slice HO182.out; subst eo75; have hcz76_0 : w74.cell? ⟨gb179, 0, none⟩ = some (.slice Ao73 x180000_1.length co73) := (blk_cell BK179.out 0).trans rfl; have hfz76_0 := blk_frozen BK179.out 0; have hcz77_0 : w74.cell? ⟨gb170, 0, none⟩ = some (.slice none 0 0) := (blk_cell BK170.out 0).trans rfl; have hfz77_0 := blk_frozen BK170.out 0))
                    refine bodyPost_ret (results_ct rfl _ _ gb170 26 #[.slice none 0 0] (0, 0) _ rfl (by (with_reducible repeat (first | refine blk_drewN ?_ _ | refine blk_drew ?_ | refine blk_alloc ?_ _)); refine blk_put (cs := #[.slice none 0 0]) ?_ 0 _ rfl; (with_reducible repeat (first | refine blk_drewN ?_ _ | refine blk_drew ?_ | refine blk_alloc ?_ _)); refine blk_far ?_ NB170_179.out _; (with_reducible repeat (first | refine blk_drewN ?_ _ | refine blk_drew ?_ | refine blk_alloc ?_ _)); exact BK170.out) Tryd.underlying26 rfl (by kernel_rfl)) rfl ?_
                    exact ⟨_, by first | rfl | (simp [errW_none, errW_some] <;> rfl) | (simp [*, errW_none, errW_some] <;> rfl), Kd.V_mono (Kd.R_V (base := w.heap.size) (by first | exact Kd.R_nil _ _ _ _ (fun _ => False) | exact Kd.R_nil _ _ _ _ _ | exact Kd.N_nil _ _ _ _ _ | exact Kd.V_nil _ _ _ _ _ | exact Kd.Q_nil _ _ _ _ _ | exact Kd.S_nil _ _ _ _ _)) (fun k_ hk => by first | exact False.elim hk | exact ⟨(.inr (hk.1)), hk.2⟩ | exact (.inr (hk))), by repeat (first | (with_reducible first | exact HB.out | apply below_alloc | apply pw_below_drewN | apply below_drew1 | refine below_set ?_ GE169.out | refine below_set ?_ GE170.out | refine below_set ?_ GE179.out) | exact HB.out)⟩
                · rw [if_neg c56] at H
                  have c56b0 : decide (x35_1 < a1) = false := decide_eq_false c56
                  clear c56
                  simp only [Option.some.injEq, Prod.mk.injEq] at H
                  obtain ⟨rfl, rfl⟩ := H
                  have hnb78 := NB179_169.out
                  have hnc78 := NB169_179.out
                  have hnb79 := NB179_170.out
                  have hnc79 := NB170_179.out
                  have hcz80_0 : wr.cell? ⟨gb179, 0, none⟩ = some (u180000) := (blk_cell BK179.out 0).trans rfl
                  have hfz80_0 := blk_frozen BK179.out 0
                  obtain ⟨Ao81, co81, eo81⟩ := Kd.V_slice HO_180000.out
                  subst eo81
                  have hnb82 := NB170_169.out
                  have hnc82 := NB169_170.out
                  have hcz83_0 : wr.cell? ⟨gb170, 0, none⟩ = some (.slice none 0 0) := (blk_cell BK170.out 0).trans rfl
                  have hfz83_0 := blk_frozen BK170.out 0
                  go_wp2
                  refine bodyPost_ret (results_ct rfl _ _ gb170 26 #[.slice Ao81 x180000_1.length co81] (0, 0) _ rfl (by (with_reducible repeat (first | refine blk_drewN ?_ _ | refine blk_drew ?_ | refine blk_alloc ?_ _)); refine blk_put (cs := #[.slice none 0 0]) ?_ 0 _ rfl; (with_reducible repeat (first | refine blk_drewN ?_ _ | refine blk_drew ?_ | refine blk_alloc ?_ _)); exact BK170.out) Tryd.underlying26 rfl (by kernel_rfl)) rfl ?_
                  exact ⟨_, by first | rfl | (simp [errW_none, errW_some] <;> rfl) | (simp [*, errW_none, errW_some] <;> rfl), by (with_reducible repeat (first | apply Kd.V_alloc | apply Kd.V_drewN | apply Kd.V_drew)); exact Kd.V_mono (Kd.V_far (p := ⟨gb170, 0, none⟩) (Kd.V_mono HO_180000.out (fun k_ hk => (⟨hk, hk.2.2.1⟩ : _ ∧ k_ ≠ gb170))) (fun _ hk => hk.2) (.slice Ao81 x180000_1.length co81)) (fun _ hk => hk.1.1), by repeat (first | (with_reducible first | exact HB.out | apply below_alloc | apply pw_below_drewN | apply below_drew1 | refine below_set ?_ GE169.out | refine below_set ?_ GE170.out | refine below_set ?_ GE179.out) | exact HB.out)⟩
end Go.Proofs.YtgcngbmkgjphpaaDoor.PAll
end

section
namespace Go.Proofs.YtgcngbmkgjphpaaDoor.PAll
open Go.RowKit Go.Proofs.YtgcngbmkgjphpaaDoorW.PrintWords Go.Proofs.YtgcngbmkgjphpaaDoorW.PrintLast Go.Proofs.YtgcngbmkgjphpaaDoorW.PrintMore
attribute [local go_sem] max2_int min2_int max_two min_two max_three min_three max_four min_four   -- for this text's walks alone
set_option linter.unusedVariables false
set_option linter.unusedSimpArgs false
def heraldlaw04_awake.f (k : Nat)  : Option (Bool) := (nat_Of.f k 7).bind fun bt184 => ((nat_Nat_Power.f k bt184.1 20).bind fun bt189 => (if bt184.2 = 0 then (if bt189.2 = 0 then ((nat_Nat_Text.f k bt189.1).bind fun t194 => (if t194.toList = ([55, 57, 55, 57, 50, 50, 54, 54, 50, 57, 55, 54, 49, 50, 48, 48, 49] : List UInt8) then ((nat_Nat_Bits.f bt189.1).bind fun t195 => (some (t195 == 57))) else (some false))) else (some false)) else (some false)))
set_option maxHeartbeats 8000000 in
set_option maxRecDepth 100000 in
theorem heraldlaw04_awake.calls (k : Nat)  (r : Bool) (w : World) (h : heraldlaw04_awake.f k  = some r) :
    Calls Tryd.prog 12 #[] w fun e w' => e = .returned (.bool r) ∧ Below w.heap.size w w' := by
  have hu26 := Tryd.underlying26
  have HB := Aside0.mk (Below.refl w.heap.size w)
  have H : ((nat_Of.f k 7).bind fun bt184 => ((nat_Nat_Power.f k bt184.1 20).bind fun bt189 => (if bt184.2 = 0 then (if bt189.2 = 0 then ((nat_Nat_Text.f k bt189.1).bind fun t194 => (if t194.toList = ([55, 57, 55, 57, 50, 50, 54, 54, 50, 57, 55, 54, 49, 50, 48, 48, 49] : List UInt8) then ((nat_Nat_Bits.f bt189.1).bind fun t195 => (some (t195 == 57))) else (some false))) else (some false)) else (some false)))) = some r := h
  clear h
  replace H := Option.bind_eq_some_iff.mp H
  obtain ⟨⟨t184, t187⟩, A10, H⟩ := H
  replace H : ((nat_Nat_Power.f k t184 20).bind fun bt189 => (if t187 = 0 then (if bt189.2 = 0 then ((nat_Nat_Text.f k bt189.1).bind fun t194 => (if t194.toList = ([55, 57, 55, 57, 50, 50, 54, 54, 50, 57, 55, 54, 49, 50, 48, 48, 49] : List UInt8) then ((nat_Nat_Bits.f bt189.1).bind fun t195 => (some (t195 == 57))) else (some false))) else (some false)) else (some false))) = some r := H
  have A1 := Aside0.mk A10
  clear A10
  replace H := Option.bind_eq_some_iff.mp H
  obtain ⟨⟨t189, t192⟩, A20, H⟩ := H
  replace H : (if t187 = 0 then (if t192 = 0 then ((nat_Nat_Text.f k t189).bind fun t194 => (if t194.toList = ([55, 57, 55, 57, 50, 50, 54, 54, 50, 57, 55, 54, 49, 50, 48, 48, 49] : List UInt8) then ((nat_Nat_Bits.f t189).bind fun t195 => (some (t195 == 57))) else (some false))) else (some false)) else (some false)) = some r := H
  have A2 := Aside0.mk A20
  clear A20
  by_cases c3 : t187 = 0
  · rw [if_pos c3] at H
    have c3b0 : (t187 == 0) = true := beq_iff_eq.mpr c3
    have c3b1 : (t187 != 0) = false := bne_eq_false_iff_eq.mpr c3
    clear c3
    by_cases c4 : t192 = 0
    · rw [if_pos c4] at H
      have c4b0 : (t192 == 0) = true := beq_iff_eq.mpr c4
      have c4b1 : (t192 != 0) = false := bne_eq_false_iff_eq.mpr c4
      clear c4
      replace H := Option.bind_eq_some_iff.mp H
      obtain ⟨t194, A50, H⟩ := H
      replace H : (if t194.toList = ([55, 57, 55, 57, 50, 50, 54, 54, 50, 57, 55, 54, 49, 50, 48, 48, 49] : List UInt8) then ((nat_Nat_Bits.f t189).bind fun t195 => (some (t195 == 57))) else (some false)) = some r := H
      have A5 := Aside0.mk A50
      clear A50
      by_cases c6 : t194.toList = ([55, 57, 55, 57, 50, 50, 54, 54, 50, 57, 55, 54, 49, 50, 48, 48, 49] : List UInt8)
      · rw [if_pos c6] at H
        have c6b0 : (t194.toList == ([55, 57, 55, 57, 50, 50, 54, 54, 50, 57, 55, 54, 49, 50, 48, 48, 49] : List UInt8)) = true := beq_iff_eq.mpr c6
        have c6b1 : (t194.toList != ([55, 57, 55, 57, 50, 50, 54, 54, 50, 57, 55, 54, 49, 50, 48, 48, 49] : List UInt8)) = false := bne_eq_false_iff_eq.mpr c6
        clear c6
        replace H := Option.bind_eq_some_iff.mp H
        obtain ⟨t195, A70, H⟩ := H
        replace H : (some (t195 == 57)) = some r := H
        have A7 := Aside0.mk A70
        clear A70
        obtain rfl := Option.some.inj H
        go_enter Tryd.func12, Tryd.ntmps12
        go_wp2_with (first | ((with_reducible refine gate_callee (f := 13) rfl ?_); refine goesL_ (some 6) rfl rfl Tryd.func13 (by kernel_rfl) rfl #[.int .i64 7] rfl (by (try simp only [List.map_toArray, List.map_cons, List.map_nil]); first | done | rfl | (simp only [List.length_drop, List.length_take]; rfl)) ?_; (with_reducible refine (nat_Of.calls k 7 t184 t187 _ A1.out).mono ?_); rintro e w8 ⟨v185, rfl, ho0, hb⟩; refine ⟨_, rfl, ?_⟩; have n0_ := Aside0.mk (Kd.V_lower (Kd.V_mono (ok' := fun k_ => True) ho0 (fun k_ hk_ => trivial)) (below_size (by repeat (first | (with_reducible first | exact HB.out | apply below_alloc | apply pw_below_drewN | apply below_drew1) | exact HB.out)))); have n1_ := Aside0.mk (below_step (by repeat (first | (with_reducible first | exact HB.out | apply below_alloc | apply pw_below_drewN | apply below_drew1) | exact HB.out)) hb); clear HB; have HO186 := n0_; have HB := n1_; clear n0_ n1_; (try clear hb); (try clear hb2); (try clear hk); (try clear hi); (try clear ho0)) | ((with_reducible refine gate_dst (N := 1) rfl ?_); refine box_event ?hg (N := 1) ?hd (cs := #[.slice none 0 0]) (t := 26) ?hr ?_; (case hd => rfl); (case hg => rfl); (case hr => first | (go_simp; done) | (go_simp; rfl)); intro gb188 hg w9 hbox hb; have n0_ := Aside0.mk (Kd.V_below (Kd.V_elderB (by (with_reducible repeat (first | apply Kd.V_alloc | apply Kd.V_drewN | apply Kd.V_drew)); exact HO186.out) gb188 (Nat.le_of_eq hg.symm)) hb); have n1_ := Aside0.mk (below_step (by repeat (first | (with_reducible first | exact HB.out | apply below_alloc | apply pw_below_drewN | apply below_drew1) | exact HB.out)) hb); have n2_ := Aside0.mk (hbox); have n3_ := Aside0.mk ((by rw [hg]; exact (below_size (by repeat (first | (with_reducible first | exact HB.out | apply below_alloc | apply pw_below_drewN | apply below_drew1) | exact HB.out))) : w.heap.size ≤ gb188)); have n4_ := Aside0.mk ((by rw [hg]; exact (below_size (by repeat (first | (with_reducible first | exact HB.out | apply below_alloc | apply pw_below_drewN | apply below_drew1) | exact HB.out))) : w.heap.size ≤ gb188)); clear HO186; clear HB; have HO186 := n0_; have HB := n1_; have BK188 := n2_; have GW188 := n3_; have GE188 := n4_; clear n0_ n1_ n2_ n3_ n4_; clear hb hbox hg; obtain ⟨Ao10, co10, eo10⟩ := Kd.V_slice HO186.out; subst eo10; have hcz11_0 : w9.cell? ⟨gb188, 0, none⟩ = some (.slice none 0 0) := (blk_cell BK188.out 0).trans rfl; have hfz11_0 := blk_frozen BK188.out 0) | ((with_reducible refine gate_store (t := 26) (p := 1) rfl ?_); refine store_event (t := 26) (p := 1) (v := ?vo_w12) (w1 := (w9.setCell ⟨gb188, 0, none⟩ (.slice Ao10 t184.length co10))) ?hg ?ho ?hn ?hr ?_; (case ho => rfl); (case hg => rfl); (case hn => rfl); (case hr => first | (go_simp; done) | (go_simp; rfl)); intro w12 hw; have n0_ : Aside0 (Kd.V (Kd.int .u32) 79 w12 w.heap.size (fun k_ => k_ ≠ gb188) (.slice Ao10 t184.length co10) t184) := ⟨(by rw [hw]; exact (by (with_reducible repeat (first | apply Kd.V_alloc | apply Kd.V_drewN | apply Kd.V_drew)); exact Kd.V_mono (Kd.V_far (p := ⟨gb188, 0, none⟩) (Kd.V_mono HO186.out (fun k_ hk => (⟨hk, hk.2⟩ : _ ∧ k_ ≠ gb188))) (fun _ hk => hk.2) (.slice Ao10 t184.length co10)) (fun _ hk => hk.1.2)))⟩; have n1_ : Aside0 (w12.heap[gb188]? = some (.cells #[.slice Ao10 t184.length co10] 26 (0, 0))) := ⟨(by rw [hw]; exact (by (with_reducible repeat (first | refine blk_drewN ?_ _ | refine blk_drew ?_ | refine blk_alloc ?_ _)); refine blk_put (cs := #[.slice none 0 0]) ?_ 0 _ rfl; (with_reducible repeat (first | refine blk_drewN ?_ _ | refine blk_drew ?_ | refine blk_alloc ?_ _)); exact BK188.out))⟩; have n2_ : Aside0 (Below w.heap.size w w12) := ⟨(by rw [hw]; exact (by repeat (first | (with_reducible first | exact HB.out | apply below_alloc | apply pw_below_drewN | apply below_drew1 | refine below_set ?_ GE188.out) | exact HB.out)))⟩; clear hw; clear HO186; clear BK188; clear HB; have HO186 := n0_; have BK188 := n1_; have HB := n2_; clear n0_ n1_ n2_; have hcz13_0 : w12.cell? ⟨gb188, 0, none⟩ = some (.slice Ao10 t184.length co10) := (blk_cell BK188.out 0).trans rfl; have hfz13_0 := blk_frozen BK188.out 0) | ((with_reducible refine gate_callee (f := 38) rfl ?_); refine goesL_ (some 11) rfl rfl Tryd.func38 (by kernel_rfl) rfl #[.agg #[.slice Ao10 t184.length co10], .int .i64 20] rfl (by (try simp only [List.map_toArray, List.map_cons, List.map_nil]); first | done | rfl | (simp only [List.length_drop, List.length_take]; rfl)) ?_; (with_reducible refine (nat_Nat_Power.calls k (fun k_ => k_ ≠ gb188) _ _ t184 20 t189 t192 _ ?side1 A2.out).mono ?_); (case side1 => exact HO186.out); rintro e w14 ⟨v190, rfl, ho0, hb⟩; refine ⟨_, rfl, ?_⟩; have n0_ := Aside0.mk (Kd.V_below (by (with_reducible repeat (first | apply Kd.V_alloc | apply Kd.V_drewN | apply Kd.V_drew)); exact HO186.out) hb); have n1_ := Aside0.mk (Kd.V_lower (Kd.V_mono (ok' := fun k_ => k_ ≠ gb188) ho0 (fun k_ hk_ => Or.elim hk_ (fun hs_ => hs_) (fun hn_ => (Kd.freshB (g := gb188) (o := .cells #[.slice Ao10 t184.length co10] 26 (0, 0)) (by (with_reducible repeat (first | refine blk_drewN ?_ _ | refine blk_drew ?_ | refine blk_alloc ?_ _)); exact BK188.out) k_ hn_)))) (below_size (by repeat (first | (with_reducible first | exact HB.out | apply below_alloc | apply pw_below_drewN | apply below_drew1 | refine below_set ?_ GE188.out) | exact HB.out)))); have n2_ := Aside0.mk (blk_below (g := gb188) (o := .cells #[.slice Ao10 t184.length co10] 26 (0, 0)) (by (with_reducible repeat (first | refine blk_drewN ?_ _ | refine blk_drew ?_ | refine blk_alloc ?_ _)); exact BK188.out) hb); have n3_ := Aside0.mk (below_step (by repeat (first | (with_reducible first | exact HB.out | apply below_alloc | apply pw_below_drewN | apply below_drew1 | refine below_set ?_ GE188.out) | exact HB.out)) hb); clear HO186; clear BK188; clear HB; have HO186 := n0_; have HO191 := n1_; have BK188 := n2_; have HB := n3_; clear n0_ n1_ n2_ n3_; (try clear hb); (try clear hb2); (try clear hk); (try clear hi); (try clear ho0)) | ((with_reducible refine gate_dst (N := 3) rfl ?_); refine box_event ?hg (N := 3) ?hd (cs := #[.slice none 0 0]) (t := 26) ?hr ?_; (case hd => rfl); (case hg => rfl); (case hr => first | (go_simp; done) | (go_simp; rfl)); intro gb193 hg w15 hbox hb; have n0_ := Aside0.mk (Kd.V_below (Kd.V_elderB (by (with_reducible repeat (first | apply Kd.V_alloc | apply Kd.V_drewN | apply Kd.V_drew)); exact HO186.out) gb193 (Nat.le_of_eq hg.symm)) hb); have n1_ := Aside0.mk (Kd.V_below (Kd.V_elderB (by (with_reducible repeat (first | apply Kd.V_alloc | apply Kd.V_drewN | apply Kd.V_drew)); exact HO191.out) gb193 (Nat.le_of_eq hg.symm)) hb); have n2_ := Aside0.mk (blk_below (g := gb188) (o := .cells #[.slice Ao10 t184.length co10] 26 (0, 0)) (by (with_reducible repeat (first | refine blk_drewN ?_ _ | refine blk_drew ?_ | refine blk_alloc ?_ _)); exact BK188.out) hb); have n3_ := Aside0.mk (below_step (by repeat (first | (with_reducible first | exact HB.out | apply below_alloc | apply pw_below_drewN | apply below_drew1 | refine below_set ?_ GE188.out) | exact HB.out)) hb); have n4_ := Aside0.mk (hbox); have n5_ := Aside0.mk ((by rw [hg]; exact (below_size (by repeat (first | (with_reducible first | exact HB.out | apply below_alloc | apply pw_below_drewN | apply below_drew1 | refine below_set ?_ GE188.out) | exact HB.out))) : w.heap.size ≤ gb193)); have n6_ := Aside0.mk ((by rw [hg]; exact (below_size (by repeat (first | (with_reducible first | exact HB.out | apply below_alloc | apply pw_below_drewN | apply below_drew1 | refine below_set ?_ GE188.out) | exact HB.out))) : w.heap.size ≤ gb193)); have n7_ := Aside0.mk ((by rw [hg]; exact Nat.ne_of_lt (blk_lt (g := gb188) (o := .cells #[.slice Ao10 t184.length co10] 26 (0, 0)) (by (with_reducible repeat (first | refine blk_drewN ?_ _ | refine blk_drew ?_ | refine blk_alloc ?_ _)); exact BK188.out)) : gb188 ≠ gb193)); have n8_ := Aside0.mk ((by rw [hg]; exact Nat.ne_of_gt (blk_lt (g := gb188) (o := .cells #[.slice Ao10 t184.length co10] 26 (0, 0)) (by (with_reducible repeat (first | refine blk_drewN ?_ _ | refine blk_drew ?_ | refine blk_alloc ?_ _)); exact BK188.out)) : gb193 ≠ gb188)); clear HO186; clear HO191; clear BK188; clear HB; have HO186 := n0_; have HO191 := n1_; have BK188 := n2_; have HB := n3_; have BK193 := n4_; have GW193 := n5_; have GE193 := n6_; have NB188_193 := n7_; have NB193_188 := n8_; clear n0_ n1_ n2_ n3_ n4_ n5_ n6_ n7_ n8_; clear hb hbox hg; obtain ⟨Ao16, co16, eo16⟩ := Kd.V_slice HO191.out; subst eo16; have hnb17 := NB193_188.out; have hnc17 := NB188_193.out; have hcz18_0 : w15.cell? ⟨gb193, 0, none⟩ = some (.slice none 0 0) := (blk_cell BK193.out 0).trans rfl; have hfz18_0 := blk_frozen BK193.out 0) | ((with_reducible refine gate_store (t := 26) (p := 3) rfl ?_); refine store_event (t := 26) (p := 3) (v := ?vo_w19) (w1 := (w15.setCell ⟨gb193, 0, none⟩ (.slice Ao16 t189.length co16))) ?hg ?ho ?hn ?hr ?_; (case ho => rfl); (case hg => rfl); (case hn => rfl); (case hr => first | (go_simp; done) | (go_simp; rfl)); intro w19 hw; have n0_ : Aside0 (Kd.V (Kd.int .u32) 79 w19 w.heap.size (fun k_ => k_ ≠ gb188 ∧ k_ ≠ gb193) (.slice Ao10 t184.length co10) t184) := ⟨(by rw [hw]; exact (by (with_reducible repeat (first | apply Kd.V_alloc | apply Kd.V_drewN | apply Kd.V_drew)); exact Kd.V_mono (Kd.V_far (p := ⟨gb193, 0, none⟩) (Kd.V_mono HO186.out (fun k_ hk => (⟨hk, hk.2⟩ : _ ∧ k_ ≠ gb193))) (fun _ hk => hk.2) (.slice Ao16 t189.length co16)) (fun _ hk => ⟨hk.1.1, hk.1.2⟩)))⟩; have n1_ : Aside0 (Kd.V (Kd.int .u32) 79 w19 w.heap.size (fun k_ => k_ ≠ gb188 ∧ k_ ≠ gb193) (.slice Ao16 t189.length co16) t189) := ⟨(by rw [hw]; exact (by (with_reducible repeat (first | apply Kd.V_alloc | apply Kd.V_drewN | apply Kd.V_drew)); exact Kd.V_mono (Kd.V_far (p := ⟨gb193, 0, none⟩) (Kd.V_mono HO191.out (fun k_ hk => (⟨hk, hk.2⟩ : _ ∧ k_ ≠ gb193))) (fun _ hk => hk.2) (.slice Ao16 t189.length co16)) (fun _ hk => ⟨hk.1.1, hk.1.2⟩)))⟩; have n2_ : Aside0 (w19.heap[gb188]? = some (.cells #[.slice Ao10 t184.length co10] 26 (0, 0))) := ⟨(by rw [hw]; exact (by (with_reducible repeat (first | refine blk_drewN ?_ _ | refine blk_drew ?_ | refine blk_alloc ?_ _)); refine blk_far ?_ NB188_193.out _; (with_reducible repeat (first | refine blk_drewN ?_ _ | refine blk_drew ?_ | refine blk_alloc ?_ _)); exact BK188.out))⟩; have n3_ : Aside0 (w19.heap[gb193]? = some (.cells #[.slice Ao16 t189.length co16] 26 (0, 0))) := ⟨(by rw [hw]; exact (by (with_reducible repeat (first | refine blk_drewN ?_ _ | refine blk_drew ?_ | refine blk_alloc ?_ _)); refine blk_put (cs := #[.slice none 0 0]) ?_ 0 _ rfl; (with_reducible repeat (first | refine blk_drewN ?_ _ | refine blk_drew ?_ | refine blk_alloc ?_ _)); exact BK193.out))⟩; have n4_ : Aside0 (Below w.heap.size w w19) := ⟨(by rw [hw]; exact (by repeat (first | (with_reducible first | exact HB.out | apply below_alloc | apply pw_below_drewN | apply below_drew1 | refine below_set ?_ GE188.out | refine below_set ?_ GE193.out) | exact HB.out)))⟩; clear hw; clear HO186; clear HO191; clear BK188; clear BK193; clear HB; have HO186 := n0_; have HO191 := n1_; have BK188 := n2_; have BK193 := n3_; have HB := n4_; clear n0_ n1_ n2_ n3_ n4_; have hcz20_0 : w19.cell? ⟨gb193, 0, none⟩ = some (.slice Ao16 t189.length co16) := (blk_cell BK193.out 0).trans rfl; have hfz20_0 := blk_frozen BK193.out 0) | (go_at_call 20; (with_reducible refine (nat_Nat_Text.calls k (fun k_ => (k_ ≠ gb188 ∧ k_ ≠ gb193)) _ _ t189 t194 _ ?side1 A5.out).mono ?_); (case side1 => exact HO191.out); rintro e w21 ⟨rfl, hb⟩; have n0_ := Aside0.mk (Kd.V_below (by (with_reducible repeat (first | apply Kd.V_alloc | apply Kd.V_drewN | apply Kd.V_drew)); exact HO186.out) hb); have n1_ := Aside0.mk (Kd.V_below (by (with_reducible repeat (first | apply Kd.V_alloc | apply Kd.V_drewN | apply Kd.V_drew)); exact HO191.out) hb); have n2_ := Aside0.mk (blk_below (g := gb188) (o := .cells #[.slice Ao10 t184.length co10] 26 (0, 0)) (by (with_reducible repeat (first | refine blk_drewN ?_ _ | refine blk_drew ?_ | refine blk_alloc ?_ _)); exact BK188.out) hb); have n3_ := Aside0.mk (blk_below (g := gb193) (o := .cells #[.slice Ao16 t189.length co16] 26 (0, 0)) (by (with_reducible repeat (first | refine blk_drewN ?_ _ | refine blk_drew ?_ | refine blk_alloc ?_ _)); exact BK193.out) hb); have n4_ := Aside0.mk (below_step (by repeat (first | (with_reducible first | exact HB.out | apply below_alloc | apply pw_below_drewN | apply below_drew1 | refine below_set ?_ GE188.out | refine below_set ?_ GE193.out) | exact HB.out)) hb); clear HO186; clear HO191; clear BK188; clear BK193; clear HB; have HO186 := n0_; have HO191 := n1_; have BK188 := n2_; have BK193 := n3_; have HB := n4_; clear n0_ n1_ n2_ n3_ n4_; (try clear hb); (try clear hb2); (try clear hk); (try clear hi); have hcz22_0 : w21.cell? ⟨gb193, 0, none⟩ = some (.slice Ao16 t189.length co16) := (blk_cell BK193.out 0).trans rfl; have hfz22_0 := blk_frozen BK193.out 0) | (go_at_call 25; (with_reducible refine (nat_Nat_Bits.calls _ _ t189 t195 _ ?side1 ?side2 A7.out).mono ?_); (case side1 => repeat (first | exact (Kd.V_reads' HO191.out).2.2 | (with_reducible refine Kd.C_alloc ?_ _) | (with_reducible refine Kd.C_drewN ?_ _) | (with_reducible refine Kd.C_drew ?_))); (case side2 => exact (Kd.V_reads' HO191.out).2.1); rintro e w23 ⟨rfl, hb⟩; have n0_ := Aside0.mk (Kd.V_below (by (with_reducible repeat (first | apply Kd.V_alloc | apply Kd.V_drewN | apply Kd.V_drew)); exact HO186.out) hb); have n1_ := Aside0.mk (Kd.V_below (by (with_reducible repeat (first | apply Kd.V_alloc | apply Kd.V_drewN | apply Kd.V_drew)); exact HO191.out) hb); have n2_ := Aside0.mk (blk_below (g := gb188) (o := .cells #[.slice Ao10 t184.length co10] 26 (0, 0)) (by (with_reducible repeat (first | refine blk_drewN ?_ _ | refine blk_drew ?_ | refine blk_alloc ?_ _)); exact BK188.out) hb); have n3_ := Aside0.mk (blk_below (g := gb193) (o := .cells #[.slice Ao16 t189.length co16] 26 (0, 0)) (by (with_reducible repeat (first | refine blk_drewN ?_ _ | refine blk_drew ?_ | refine blk_alloc ?_ _)); exact BK193.out) hb); have n4_ := Aside0.mk (below_step (by repeat (first | (with_reducible first | exact HB.out | apply below_alloc | apply pw_below_drewN | apply below_drew1 | refine below_set ?_ GE188.out | refine below_set ?_ GE193.out) | exact HB.out)) hb); clear HO186; clear HO191; clear BK188; clear BK193; clear HB; have HO186 := n0_; have HO191 := n1_; have BK188 := n2_; have BK193 := n3_; have HB := n4_; clear n0_ n1_ n2_ n3_ n4_; (try clear hb); (try clear hb2); (try clear hk); (try clear hi)))
        go_ret
        exact ⟨by first | rfl | (simp [errW_none, errW_some] <;> rfl) | (simp [*, errW_none, errW_some] <;> rfl), by repeat (first | (with_reducible first | exact HB.out | apply below_alloc | apply pw_below_drewN | apply below_drew1 | refine below_set ?_ GE188.out | refine below_set ?_ GE193.out) | exact HB.out)⟩
      · rw [if_neg c6] at H
        have c6b0 : (t194.toList == ([55, 57, 55, 57, 50, 50, 54, 54, 50, 57, 55, 54, 49, 50, 48, 48, 49] : List UInt8)) = false := beq_eq_false_iff_ne.mpr c6
        have c6b1 : (t194.toList != ([55, 57, 55, 57, 50, 50, 54, 54, 50, 57, 55, 54, 49, 50, 48, 48, 49] : List UInt8)) = true := bne_iff_ne.mpr c6
        obtain rfl := Option.some.inj H
        go_enter Tryd.func12, Tryd.ntmps12
        go_wp2_with (first | ((with_reducible refine gate_callee (f := 13) rfl ?_); refine goesL_ (some 6) rfl rfl Tryd.func13 (by kernel_rfl) rfl #[.int .i64 7] rfl (by (try simp only [List.map_toArray, List.map_cons, List.map_nil]); first | done | rfl | (simp only [List.length_drop, List.length_take]; rfl)) ?_; (with_reducible refine (nat_Of.calls k 7 t184 t187 _ A1.out).mono ?_); rintro e w24 ⟨v185, rfl, ho0, hb⟩; refine ⟨_, rfl, ?_⟩; have n0_ := Aside0.mk (Kd.V_lower (Kd.V_mono (ok' := fun k_ => True) ho0 (fun k_ hk_ => trivial)) (below_size (by repeat (first | (with_reducible first | exact HB.out | apply below_alloc | apply pw_below_drewN | apply below_drew1) | exact HB.out)))); have n1_ := Aside0.mk (below_step (by repeat (first | (with_reducible first | exact HB.out | apply below_alloc | apply pw_below_drewN | apply below_drew1) | exact HB.out)) hb); clear HB; have HO186 := n0_; have HB := n1_; clear n0_ n1_; (try clear hb); (try clear hb2); (try clear hk); (try clear hi); (try clear ho0)) | ((with_reducible refine gate_dst (N := 1) rfl ?_); refine box_event ?hg (N := 1) ?hd (cs := #[.slice none 0 0]) (t := 26) ?hr ?_; (case hd => rfl); (case hg => rfl); (case hr => first | (go_simp; done) | (go_simp; rfl)); intro gb188 hg w25 hbox hb; have n0_ := Aside0.mk (Kd.V_below (Kd.V_elderB (by (with_reducible repeat (first | apply Kd.V_alloc | apply Kd.V_drewN | apply Kd.V_drew)); exact HO186.out) gb188 (Nat.le_of_eq hg.symm)) hb); have n1_ := Aside0.mk (below_step (by repeat (first | (with_reducible first | exact HB.out | apply below_alloc | apply pw_below_drewN | apply below_drew1) | exact HB.out)) hb); have n2_ := Aside0.mk (hbox); have n3_ := Aside0.mk ((by rw [hg]; exact (below_size (by repeat (first | (with_reducible first | exact HB.out | apply below_alloc | apply pw_below_drewN | apply below_drew1) | exact HB.out))) : w.heap.size ≤ gb188)); have n4_ := Aside0.mk ((by rw [hg]; exact (below_size (by repeat (first | (with_reducible first | exact HB.out | apply below_alloc | apply pw_below_drewN | apply below_drew1) | exact HB.out))) : w.heap.size ≤ gb188)); clear HO186; clear HB; have HO186 := n0_; have HB := n1_; have BK188 := n2_; have GW188 := n3_; have GE188 := n4_; clear n0_ n1_ n2_ n3_ n4_; clear hb hbox hg; obtain ⟨Ao26, co26, eo26⟩ := Kd.V_slice HO186.out; subst eo26; have hcz27_0 : w25.cell? ⟨gb188, 0, none⟩ = some (.slice none 0 0) := (blk_cell BK188.out 0).trans rfl; have hfz27_0 := blk_frozen BK188.out 0) | ((with_reducible refine gate_store (t := 26) (p := 1) rfl ?_); refine store_event (t := 26) (p := 1) (v := ?vo_w28) (w1 := (w25.setCell ⟨gb188, 0, none⟩ (.slice Ao26 t184.length co26))) ?hg ?ho ?hn ?hr ?_; (case ho => rfl); (case hg => rfl); (case hn => rfl); (case hr => first | (go_simp; done) | (go_simp; rfl)); intro w28 hw; have n0_ : Aside0 (Kd.V (Kd.int .u32) 79 w28 w.heap.size (fun k_ => k_ ≠ gb188) (.slice Ao26 t184.length co26) t184) := ⟨(by rw [hw]; exact (by (with_reducible repeat (first | apply Kd.V_alloc | apply Kd.V_drewN | apply Kd.V_drew)); exact Kd.V_mono (Kd.V_far (p := ⟨gb188, 0, none⟩) (Kd.V_mono HO186.out (fun k_ hk => (⟨hk, hk.2⟩ : _ ∧ k_ ≠ gb188))) (fun _ hk => hk.2) (.slice Ao26 t184.length co26)) (fun _ hk => hk.1.2)))⟩; have n1_ : Aside0 (w28.heap[gb188]? = some (.cells #[.slice Ao26 t184.length co26] 26 (0, 0))) := ⟨(by rw [hw]; exact (by (with_reducible repeat (first | refine blk_drewN ?_ _ | refine blk_drew ?_ | refine blk_alloc ?_ _)); refine blk_put (cs := #[.slice none 0 0]) ?_ 0 _ rfl; (with_reducible repeat (first | refine blk_drewN ?_ _ | refine blk_drew ?_ | refine blk_alloc ?_ _)); exact BK188.out))⟩; have n2_ : Aside0 (Below w.heap.size w w28) := ⟨(by rw [hw]; exact (by repeat (first | (with_reducible first | exact HB.out | apply below_alloc | apply pw_below_drewN | apply below_drew1 | refine below_set ?_ GE188.out) | exact HB.out)))⟩; clear hw; clear HO186; clear BK188; clear HB; have HO186 := n0_; have BK188 := n1_; have HB := n2_; clear n0_ n1_ n2_; have hcz29_0 : w28.cell? ⟨gb188, 0, none⟩ = some (.slice Ao26 t184.length co26) := (blk_cell BK188.out 0).trans rfl; have hfz29_0 := blk_frozen BK188.out 0) | ((with_reducible refine gate_callee (f := 38) rfl ?_); refine goesL_ (some 11) rfl rfl Tryd.func38 (by kernel_rfl) rfl #[.agg #[.slice Ao26 t184.length co26], .int .i64 20] rfl (by (try simp only [List.map_toArray, List.map_cons, List.map_nil]); first | done | rfl | (simp only [List.length_drop, List.length_take]; rfl)) ?_; (with_reducible refine (nat_Nat_Power.calls k (fun k_ => k_ ≠ gb188) _ _ t184 20 t189 t192 _ ?side1 A2.out).mono ?_); (case side1 => exact HO186.out); rintro e w30 ⟨v190, rfl, ho0, hb⟩; refine ⟨_, rfl, ?_⟩; have n0_ := Aside0.mk (Kd.V_below (by (with_reducible repeat (first | apply Kd.V_alloc | apply Kd.V_drewN | apply Kd.V_drew)); exact HO186.out) hb); have n1_ := Aside0.mk (Kd.V_lower (Kd.V_mono (ok' := fun k_ => k_ ≠ gb188) ho0 (fun k_ hk_ => Or.elim hk_ (fun hs_ => hs_) (fun hn_ => (Kd.freshB (g := gb188) (o := .cells #[.slice Ao26 t184.length co26] 26 (0, 0)) (by (with_reducible repeat (first | refine blk_drewN ?_ _ | refine blk_drew ?_ | refine blk_alloc ?_ _)); exact BK188.out) k_ hn_)))) (below_size (by repeat (first | (with_reducible first | exact HB.out | apply below_alloc | apply pw_below_drewN | apply below_drew1 | refine below_set ?_ GE188.out) | exact HB.out)))); have n2_ := Aside0.mk (blk_below (g := gb188) (o := .cells #[.slice Ao26 t184.length co26] 26 (0, 0)) (by (with_reducible repeat (first | refine blk_drewN ?_ _ | refine blk_drew ?_ | refine blk_alloc ?_ _)); exact BK188.out) hb); have n3_ := Aside0.mk (below_step (by repeat (first | (with_reducible first | exact HB.out | apply below_alloc | apply pw_below_drewN | apply below_drew1 | refine below_set ?_ GE188.out) | exact HB.out)) hb); clear HO186; clear BK188; clear HB; have HO186 := n0_; have HO191 := n1_; have BK188 := n2_; have HB := n3_; clear n0_ n1_ n2_ n3_; (try clear hb); (try clear hb2); (try clear hk); (try clear hi); (try clear ho0)) | ((with_reducible refine gate_dst (N := 3) rfl ?_); refine box_event ?hg (N := 3) ?hd (cs := #[.slice none 0 0]) (t := 26) ?hr ?_; (case hd => rfl); (case hg => rfl); (case hr => first | (go_simp; done) | (go_simp; rfl)); intro gb193 hg w31 hbox hb; have n0_ := Aside0.mk (Kd.V_below (Kd.V_elderB (by (with_reducible repeat (first | apply Kd.V_alloc | apply Kd.V_drewN | apply Kd.V_drew)); exact HO186.out) gb193 (Nat.le_of_eq hg.symm)) hb); have n1_ := Aside0.mk (Kd.V_below (Kd.V_elderB (by (with_reducible repeat (first | apply Kd.V_alloc | apply Kd.V_drewN | apply Kd.V_drew)); exact HO191.out) gb193 (Nat.le_of_eq hg.symm)) hb); have n2_ := Aside0.mk (blk_below (g := gb188) (o := .cells #[.slice Ao26 t184.length co26] 26 (0, 0)) (by (with_reducible repeat (first | refine blk_drewN ?_ _ | refine blk_drew ?_ | refine blk_alloc ?_ _)); exact BK188.out) hb); have n3_ := Aside0.mk (below_step (by repeat (first | (with_reducible first | exact HB.out | apply below_alloc | apply pw_below_drewN | apply below_drew1 | refine below_set ?_ GE188.out) | exact HB.out)) hb); have n4_ := Aside0.mk (hbox); have n5_ := Aside0.mk ((by rw [hg]; exact (below_size (by repeat (first | (with_reducible first | exact HB.out | apply below_alloc | apply pw_below_drewN | apply below_drew1 | refine below_set ?_ GE188.out) | exact HB.out))) : w.heap.size ≤ gb193)); have n6_ := Aside0.mk ((by rw [hg]; exact (below_size (by repeat (first | (with_reducible first | exact HB.out | apply below_alloc | apply pw_below_drewN | apply below_drew1 | refine below_set ?_ GE188.out) | exact HB.out))) : w.heap.size ≤ gb193)); have n7_ := Aside0.mk ((by rw [hg]; exact Nat.ne_of_lt (blk_lt (g := gb188) (o := .cells #[.slice Ao26 t184.length co26] 26 (0, 0)) (by (with_reducible repeat (first | refine blk_drewN ?_ _ | refine blk_drew ?_ | refine blk_alloc ?_ _)); exact BK188.out)) : gb188 ≠ gb193)); have n8_ := Aside0.mk ((by rw [hg]; exact Nat.ne_of_gt (blk_lt (g := gb188) (o := .cells #[.slice Ao26 t184.length co26] 26 (0, 0)) (by (with_reducible repeat (first | refine blk_drewN ?_ _ | refine blk_drew ?_ | refine blk_alloc ?_ _)); exact BK188.out)) : gb193 ≠ gb188)); clear HO186; clear HO191; clear BK188; clear HB; have HO186 := n0_; have HO191 := n1_; have BK188 := n2_; have HB := n3_; have BK193 := n4_; have GW193 := n5_; have GE193 := n6_; have NB188_193 := n7_; have NB193_188 := n8_; clear n0_ n1_ n2_ n3_ n4_ n5_ n6_ n7_ n8_; clear hb hbox hg; obtain ⟨Ao32, co32, eo32⟩ := Kd.V_slice HO191.out; subst eo32; have hnb33 := NB193_188.out; have hnc33 := NB188_193.out; have hcz34_0 : w31.cell? ⟨gb193, 0, none⟩ = some (.slice none 0 0) := (blk_cell BK193.out 0).trans rfl; have hfz34_0 := blk_frozen BK193.out 0) | ((with_reducible refine gate_store (t := 26) (p := 3) rfl ?_); refine store_event (t := 26) (p := 3) (v := ?vo_w35) (w1 := (w31.setCell ⟨gb193, 0, none⟩ (.slice Ao32 t189.length co32))) ?hg ?ho ?hn ?hr ?_; (case ho => rfl); (case hg => rfl); (case hn => rfl); (case hr => first | (go_simp; done) | (go_simp; rfl)); intro w35 hw; have n0_ : Aside0 (Kd.V (Kd.int .u32) 79 w35 w.heap.size (fun k_ => k_ ≠ gb188 ∧ k_ ≠ gb193) (.slice Ao26 t184.length co26) t184) := ⟨(by rw [hw]; exact (by (with_reducible repeat (first | apply Kd.V_alloc | apply Kd.V_drewN | apply Kd.V_drew)); exact Kd.V_mono (Kd.V_far (p := ⟨gb193, 0, none⟩) (Kd.V_mono HO186.out (fun k_ hk => (⟨hk, hk.2⟩ : _ ∧ k_ ≠ gb193))) (fun _ hk => hk.2) (.slice Ao32 t189.length co32)) (fun _ hk => ⟨hk.1.1, hk.1.2⟩)))⟩; have n1_ : Aside0 (Kd.V (Kd.int .u32) 79 w35 w.heap.size (fun k_ => k_ ≠ gb188 ∧ k_ ≠ gb193) (.slice Ao32 t189.length co32) t189) := ⟨(by rw [hw]; exact (by (with_reducible repeat (first | apply Kd.V_alloc | apply Kd.V_drewN | apply Kd.V_drew)); exact Kd.V_mono (Kd.V_far (p := ⟨gb193, 0, none⟩) (Kd.V_mono HO191.out (fun k_ hk => (⟨hk, hk.2⟩ : _ ∧ k_ ≠ gb193))) (fun _ hk => hk.2) (.slice Ao32 t189.length co32)) (fun _ hk => ⟨hk.1.1, hk.1.2⟩)))⟩; have n2_ : Aside0 (w35.heap[gb188]? = some (.cells #[.slice Ao26 t184.length co26] 26 (0, 0))) := ⟨(by rw [hw]; exact (by (with_reducible repeat (first | refine blk_drewN ?_ _ | refine blk_drew ?_ | refine blk_alloc ?_ _)); refine blk_far ?_ NB188_193.out _; (with_reducible repeat (first | refine blk_drewN ?_ _ | refine blk_drew ?_ | refine blk_alloc ?_ _)); exact BK188.out))⟩; have n3_ : Aside0 (w35.heap[gb193]? = some (.cells #[.slice Ao32 t189.length co32] 26 (0, 0))) := ⟨(by rw [hw]; exact (by (with_reducible repeat (first | refine blk_drewN ?_ _ | refine blk_drew ?_ | refine blk_alloc ?_ _)); refine blk_put (cs := #[.slice none 0 0]) ?_ 0 _ rfl; (with_reducible repeat (first | refine blk_drewN ?_ _ | refine blk_drew ?_ | refine blk_alloc ?_ _)); exact BK193.out))⟩; have n4_ : Aside0 (Below w.heap.size w w35) := ⟨(by rw [hw]; exact (by repeat (first | (with_reducible first | exact HB.out | apply below_alloc | apply pw_below_drewN | apply below_drew1 | refine below_set ?_ GE188.out | refine below_set ?_ GE193.out) | exact HB.out)))⟩; clear hw; clear HO186; clear HO191; clear BK188; clear BK193; clear HB; have HO186 := n0_; have HO191 := n1_; have BK188 := n2_; have BK193 := n3_; have HB := n4_; clear n0_ n1_ n2_ n3_ n4_; have hcz36_0 : w35.cell? ⟨gb193, 0, none⟩ = some (.slice Ao32 t189.length co32) := (blk_cell BK193.out 0).trans rfl; have hfz36_0 := blk_frozen BK193.out 0) | (go_at_call 20; (with_reducible refine (nat_Nat_Text.calls k (fun k_ => (k_ ≠ gb188 ∧ k_ ≠ gb193)) _ _ t189 t194 _ ?side1 A5.out).mono ?_); (case side1 => exact HO191.out); rintro e w37 ⟨rfl, hb⟩; have n0_ := Aside0.mk (Kd.V_below (by (with_reducible repeat (first | apply Kd.V_alloc | apply Kd.V_drewN | apply Kd.V_drew)); exact HO186.out) hb); have n1_ := Aside0.mk (Kd.V_below (by (with_reducible repeat (first | apply Kd.V_alloc | apply Kd.V_drewN | apply Kd.V_drew)); exact HO191.out) hb); have n2_ := Aside0.mk (blk_below (g := gb188) (o := .cells #[.slice Ao26 t184.length co26] 26 (0, 0)) (by (with_reducible repeat (first | refine blk_drewN ?_ _ | refine blk_drew ?_ | refine blk_alloc ?_ _)); exact BK188.out) hb); have n3_ := Aside0.mk (blk_below (g := gb193) (o := .cells #[.slice Ao32 t189.length co32] 26 (0, 0)) (by (with_reducible repeat (first | refine blk_drewN ?_ _ | refine blk_drew ?_ | refine blk_alloc ?_ _)); exact BK193.out) hb); have n4_ := Aside0.mk (below_step (by repeat (first | (with_reducible first | exact HB.out | apply below_alloc | apply pw_below_drewN | apply below_drew1 | refine below_set ?_ GE188.out | refine below_set ?_ GE193.out) | exact HB.out)) hb); clear HO186; clear HO191; clear BK188; clear BK193; clear HB; have HO186 := n0_; have HO191 := n1_; have BK188 := n2_; have BK193 := n3_; have HB := n4_; clear n0_ n1_ n2_ n3_ n4_; (try clear hb); (try clear hb2); (try clear hk); (try clear hi)))
        go_ret
        exact ⟨by first | rfl | (simp [errW_none, errW_some] <;> rfl) | (simp [*, errW_none, errW_some] <;> rfl), by repeat (first | (with_reducible first | exact HB.out | apply below_alloc | apply pw_below_drewN | apply below_drew1 | refine below_set ?_ GE188.out | refine below_set ?_ GE193.out) | exact HB.out)⟩
    · rw [if_neg c4] at H
      have c4b0 : (t192 == 0) = false := beq_eq_false_iff_ne.mpr c4
      have c4b1 : (t192 != 0) = true := bne_iff_ne.mpr c4
      obtain rfl := Option.some.inj H
      go_enter Tryd.func12, Tryd.ntmps12
      go_wp2_with (first | ((with_reducible refine gate_callee (f := 13) rfl ?_); refine goesL_ (some 6) rfl rfl Tryd.func13 (by kernel_rfl) rfl #[.int .i64 7] rfl (by (try simp only [List.map_toArray, List.map_cons, List.map_nil]); first | done | rfl | (simp only [List.length_drop, List.length_take]; rfl)) ?_; (with_reducible refine (nat_Of.calls k 7 t184 t187 _ A1.out).mono ?_); rintro e w38 ⟨v185, rfl, ho0, hb⟩; refine ⟨_, rfl, ?_⟩; have n0_ := Aside0.mk (Kd.V_lower (Kd.V_mono (ok' := fun k_ => True) ho0 (fun k_ hk_ => trivial)) (below_size (by repeat (first | (with_reducible first | exact HB.out | apply below_alloc | apply pw_below_drewN | apply below_drew1) | exact HB.out)))); have n1_ := Aside0.mk (below_step (by repeat (first | (with_reducible first | exact HB.out | apply below_alloc | apply pw_below_drewN | apply below_drew1) | exact HB.out)) hb); clear HB; have HO186 := n0_; have HB := n1_; clear n0_ n1_; (try clear hb); (try clear hb2); (try clear hk); (try clear hi); (try clear ho0)) | ((with_reducible refine gate_dst (N := 1) rfl ?_); refine box_event ?hg (N := 1) ?hd (cs := #[.slice none 0 0]) (t := 26) ?hr ?_; (case hd => rfl); (case hg => rfl); (case hr => first | (go_simp; done) | (go_simp; rfl)); intro gb188 hg w39 hbox hb; have n0_ := Aside0.mk (Kd.V_below (Kd.V_elderB (by (with_reducible repeat (first | apply Kd.V_alloc | apply Kd.V_drewN | apply Kd.V_drew)); exact HO186.out) gb188 (Nat.le_of_eq hg.symm)) hb); have n1_ := Aside0.mk (below_step (by repeat (first | (with_reducible first | exact HB.out | apply below_alloc | apply pw_below_drewN | apply below_drew1) | exact HB.out)) hb); have n2_ := Aside0.mk (hbox); have n3_ := Aside0.mk ((by rw [hg]; exact (below_size (by repeat (first | (with_reducible first | exact HB.out | apply below_alloc | apply pw_below_drewN | apply below_drew1) | exact HB.out))) : w.heap.size ≤ gb188)); have n4_ := Aside0.mk ((by rw [hg]; exact (below_size (by repeat (first | (with_reducible first | exact HB.out | apply below_alloc | apply pw_below_drewN | apply below_drew1) | exact HB.out))) : w.heap.size ≤ gb188)); clear HO186; clear HB; have HO186 := n0_; have HB := n1_; have BK188 := n2_; have GW188 := n3_; have GE188 := n4_; clear n0_ n1_ n2_ n3_ n4_; clear hb hbox hg; obtain ⟨Ao40, co40, eo40⟩ := Kd.V_slice HO186.out; subst eo40; have hcz41_0 : w39.cell? ⟨gb188, 0, none⟩ = some (.slice none 0 0) := (blk_cell BK188.out 0).trans rfl; have hfz41_0 := blk_frozen BK188.out 0) | ((with_reducible refine gate_store (t := 26) (p := 1) rfl ?_); refine store_event (t := 26) (p := 1) (v := ?vo_w42) (w1 := (w39.setCell ⟨gb188, 0, none⟩ (.slice Ao40 t184.length co40))) ?hg ?ho ?hn ?hr ?_; (case ho => rfl); (case hg => rfl); (case hn => rfl); (case hr => first | (go_simp; done) | (go_simp; rfl)); intro w42 hw; have n0_ : Aside0 (Kd.V (Kd.int .u32) 79 w42 w.heap.size (fun k_ => k_ ≠ gb188) (.slice Ao40 t184.length co40) t184) := ⟨(by rw [hw]; exact (by (with_reducible repeat (first | apply Kd.V_alloc | apply Kd.V_drewN | apply Kd.V_drew)); exact Kd.V_mono (Kd.V_far (p := ⟨gb188, 0, none⟩) (Kd.V_mono HO186.out (fun k_ hk => (⟨hk, hk.2⟩ : _ ∧ k_ ≠ gb188))) (fun _ hk => hk.2) (.slice Ao40 t184.length co40)) (fun _ hk => hk.1.2)))⟩; have n1_ : Aside0 (w42.heap[gb188]? = some (.cells #[.slice Ao40 t184.length co40] 26 (0, 0))) := ⟨(by rw [hw]; exact (by (with_reducible repeat (first | refine blk_drewN ?_ _ | refine blk_drew ?_ | refine blk_alloc ?_ _)); refine blk_put (cs := #[.slice none 0 0]) ?_ 0 _ rfl; (with_reducible repeat (first | refine blk_drewN ?_ _ | refine blk_drew ?_ | refine blk_alloc ?_ _)); exact BK188.out))⟩; have n2_ : Aside0 (Below w.heap.size w w42) := ⟨(by rw [hw]; exact (by repeat (first | (with_reducible first | exact HB.out | apply below_alloc | apply pw_below_drewN | apply below_drew1 | refine below_set ?_ GE188.out) | exact HB.out)))⟩; clear hw; clear HO186; clear BK188; clear HB; have HO186 := n0_; have BK188 := n1_; have HB := n2_; clear n0_ n1_ n2_; have hcz43_0 : w42.cell? ⟨gb188, 0, none⟩ = some (.slice Ao40 t184.length co40) := (blk_cell BK188.out 0).trans rfl; have hfz43_0 := blk_frozen BK188.out 0) | ((with_reducible refine gate_callee (f := 38) rfl ?_); refine goesL_ (some 11) rfl rfl Tryd.func38 (by kernel_rfl) rfl #[.agg #[.slice Ao40 t184.length co40], .int .i64 20] rfl (by (try simp only [List.map_toArray, List.map_cons, List.map_nil]); first | done | rfl | (simp only [List.length_drop, List.length_take]; rfl)) ?_; (with_reducible refine (nat_Nat_Power.calls k (fun k_ => k_ ≠ gb188) _ _ t184 20 t189 t192 _ ?side1 A2.out).mono ?_); (case side1 => exact HO186.out); rintro e w44 ⟨v190, rfl, ho0, hb⟩; refine ⟨_, rfl, ?_⟩; have n0_ := Aside0.mk (Kd.V_below (by (with_reducible repeat (first | apply Kd.V_alloc | apply Kd.V_drewN | apply Kd.V_drew)); exact HO186.out) hb); have n1_ := Aside0.mk (Kd.V_lower (Kd.V_mono (ok' := fun k_ => k_ ≠ gb188) ho0 (fun k_ hk_ => Or.elim hk_ (fun hs_ => hs_) (fun hn_ => (Kd.freshB (g := gb188) (o := .cells #[.slice Ao40 t184.length co40] 26 (0, 0)) (by (with_reducible repeat (first | refine blk_drewN ?_ _ | refine blk_drew ?_ | refine blk_alloc ?_ _)); exact BK188.out) k_ hn_)))) (below_size (by repeat (first | (with_reducible first | exact HB.out | apply below_alloc | apply pw_below_drewN | apply below_drew1 | refine below_set ?_ GE188.out) | exact HB.out)))); have n2_ := Aside0.mk (blk_below (g := gb188) (o := .cells #[.slice Ao40 t184.length co40] 26 (0, 0)) (by (with_reducible repeat (first | refine blk_drewN ?_ _ | refine blk_drew ?_ | refine blk_alloc ?_ _)); exact BK188.out) hb); have n3_ := Aside0.mk (below_step (by repeat (first | (with_reducible first | exact HB.out | apply below_alloc | apply pw_below_drewN | apply below_drew1 | refine below_set ?_ GE188.out) | exact HB.out)) hb); clear HO186; clear BK188; clear HB; have HO186 := n0_; have HO191 := n1_; have BK188 := n2_; have HB := n3_; clear n0_ n1_ n2_ n3_; (try clear hb); (try clear hb2); (try clear hk); (try clear hi); (try clear ho0)) | ((with_reducible refine gate_dst (N := 3) rfl ?_); refine box_event ?hg (N := 3) ?hd (cs := #[.slice none 0 0]) (t := 26) ?hr ?_; (case hd => rfl); (case hg => rfl); (case hr => first | (go_simp; done) | (go_simp; rfl)); intro gb193 hg w45 hbox hb; have n0_ := Aside0.mk (Kd.V_below (Kd.V_elderB (by (with_reducible repeat (first | apply Kd.V_alloc | apply Kd.V_drewN | apply Kd.V_drew)); exact HO186.out) gb193 (Nat.le_of_eq hg.symm)) hb); have n1_ := Aside0.mk (Kd.V_below (Kd.V_elderB (by (with_reducible repeat (first | apply Kd.V_alloc | apply Kd.V_drewN | apply Kd.V_drew)); exact HO191.out) gb193 (Nat.le_of_eq hg.symm)) hb); have n2_ := Aside0.mk (blk_below (g := gb188) (o := .cells #[.slice Ao40 t184.length co40] 26 (0, 0)) (by (with_reducible repeat (first | refine blk_drewN ?_ _ | refine blk_drew ?_ | refine blk_alloc ?_ _)); exact BK188.out) hb); have n3_ := Aside0.mk (below_step (by repeat (first | (with_reducible first | exact HB.out | apply below_alloc | apply pw_below_drewN | apply below_drew1 | refine below_set ?_ GE188.out) | exact HB.out)) hb); have n4_ := Aside0.mk (hbox); have n5_ := Aside0.mk ((by rw [hg]; exact (below_size (by repeat (first | (with_reducible first | exact HB.out | apply below_alloc | apply pw_below_drewN | apply below_drew1 | refine below_set ?_ GE188.out) | exact HB.out))) : w.heap.size ≤ gb193)); have n6_ := Aside0.mk ((by rw [hg]; exact (below_size (by repeat (first | (with_reducible first | exact HB.out | apply below_alloc | apply pw_below_drewN | apply below_drew1 | refine below_set ?_ GE188.out) | exact HB.out))) : w.heap.size ≤ gb193)); have n7_ := Aside0.mk ((by rw [hg]; exact Nat.ne_of_lt (blk_lt (g := gb188) (o := .cells #[.slice Ao40 t184.length co40] 26 (0, 0)) (by (with_reducible repeat (first | refine blk_drewN ?_ _ | refine blk_drew ?_ | refine blk_alloc ?_ _)); exact BK188.out)) : gb188 ≠ gb193)); have n8_ := Aside0.mk ((by rw [hg]; exact Nat.ne_of_gt (blk_lt (g := gb188) (o := .cells #[.slice Ao40 t184.length co40] 26 (0, 0)) (by (with_reducible repeat (first | refine blk_drewN ?_ _ | refine blk_drew ?_ | refine blk_alloc ?_ _)); exact BK188.out)) : gb193 ≠ gb188)); clear HO186; clear HO191; clear BK188; clear HB; have HO186 := n0_; have HO191 := n1_; have BK188 := n2_; have HB := n3_; have BK193 := n4_; have GW193 := n5_; have GE193 := n6_; have NB188_193 := n7_; have NB193_188 := n8_; clear n0_ n1_ n2_ n3_ n4_ n5_ n6_ n7_ n8_; clear hb hbox hg; obtain ⟨Ao46, co46, eo46⟩ := Kd.V_slice HO191.out; subst eo46; have hnb47 := NB193_188.out; have hnc47 := NB188_193.out; have hcz48_0 : w45.cell? ⟨gb193, 0, none⟩ = some (.slice none 0 0) := (blk_cell BK193.out 0).trans rfl; have hfz48_0 := blk_frozen BK193.out 0))
      go_ret
      exact ⟨by first | rfl | (simp [errW_none, errW_some] <;> rfl) | (simp [*, errW_none, errW_some] <;> rfl), by repeat (first | (with_reducible first | exact HB.out | apply below_alloc | apply pw_below_drewN | apply below_drew1 | refine below_set ?_ GE188.out | refine below_set ?_ GE193.out) | exact HB.out)⟩
  · rw [if_neg c3] at H
    have c3b0 : (t187 == 0) = false := beq_eq_false_iff_ne.mpr c3
    have c3b1 : (t187 != 0) = true := bne_iff_ne.mpr c3
    obtain rfl := Option.some.inj H
    go_enter Tryd.func12, Tryd.ntmps12
    go_wp2_with (first | ((with_reducible refine gate_callee (f := 13) rfl ?_); refine goesL_ (some 6) rfl rfl Tryd.func13 (by kernel_rfl) rfl #[.int .i64 7] rfl (by (try simp only [List.map_toArray, List.map_cons, List.map_nil]); first | done | rfl | (simp only [List.length_drop, List.length_take]; rfl)) ?_; (with_reducible refine (nat_Of.calls k 7 t184 t187 _ A1.out).mono ?_); rintro e w49 ⟨v185, rfl, ho0, hb⟩; refine ⟨_, rfl, ?_⟩; have n0_ := Aside0.mk (Kd.V_lower (Kd.V_mono (ok' := fun k_ => True) ho0 (fun k_ hk_ => trivial)) (below_size (by repeat (first | (with_reducible first | exact HB.out | apply below_alloc | apply pw_below_drewN | apply below_drew1) | exact HB.out)))); have n1_ := Aside0.mk (below_step (by repeat (first | (with_reducible first | exact HB.out | apply below_alloc | apply pw_below_drewN | apply below_drew1) | exact HB.out)) hb); clear HB; have HO186 := n0_; have HB := n1_; clear n0_ n1_; (try clear hb); (try clear hb2); (try clear hk); (try clear hi); (try clear ho0)) | ((with_reducible refine gate_dst (N := 1) rfl ?_); refine box_event ?hg (N := 1) ?hd (cs := #[.slice none 0 0]) (t := 26) ?hr ?_; (case hd => rfl); (case hg => rfl); (case hr => first | (go_simp; done) | (go_simp; rfl)); intro gb188 hg w50 hbox hb; have n0_ := Aside0.mk (Kd.V_below (Kd.V_elderB (by (with_reducible repeat (first | apply Kd.V_alloc | apply Kd.V_drewN | apply Kd.V_drew)); exact HO186.out) gb188 (Nat.le_of_eq hg.symm)) hb); have n1_ := Aside0.mk (below_step (by repeat (first | (with_reducible first | exact HB.out | apply below_alloc | apply pw_below_drewN | apply below_drew1) | exact HB.out)) hb); have n2_ := Aside0.mk (hbox); have n3_ := Aside0.mk ((by rw [hg]; exact (below_size (by repeat (first | (with_reducible first | exact HB.out | apply below_alloc | apply pw_below_drewN | apply below_drew1) | exact HB.out))) : w.heap.size ≤ gb188)); have n4_ := Aside0.mk ((by rw [hg]; exact (below_size (by repeat (first | (with_reducible first | exact HB.out | apply below_alloc | apply pw_below_drewN | apply below_drew1) | exact HB.out))) : w.heap.size ≤ gb188)); clear HO186; clear HB; have HO186 := n0_; have HB := n1_; have BK188 := n2_; have GW188 := n3_; have GE188 := n4_; clear n0_ n1_ n2_ n3_ n4_; clear hb hbox hg; obtain ⟨Ao51, co51, eo51⟩ := Kd.V_slice HO186.out; subst eo51; have hcz52_0 : w50.cell? ⟨gb188, 0, none⟩ = some (.slice none 0 0) := (blk_cell BK188.out 0).trans rfl; have hfz52_0 := blk_frozen BK188.out 0) | ((with_reducible refine gate_store (t := 26) (p := 1) rfl ?_); refine store_event (t := 26) (p := 1) (v := ?vo_w53) (w1 := (w50.setCell ⟨gb188, 0, none⟩ (.slice Ao51 t184.length co51))) ?hg ?ho ?hn ?hr ?_; (case ho => rfl); (case hg => rfl); (case hn => rfl); (case hr => first | (go_simp; done) | (go_simp; rfl)); intro w53 hw; have n0_ : Aside0 (Kd.V (Kd.int .u32) 79 w53 w.heap.size (fun k_ => k_ ≠ gb188) (.slice Ao51 t184.length co51) t184) := ⟨(by rw [hw]; exact (by (with_reducible repeat (first | apply Kd.V_alloc | apply Kd.V_drewN | apply Kd.V_drew)); exact Kd.V_mono (Kd.V_far (p := ⟨gb188, 0, none⟩) (Kd.V_mono HO186.out (fun k_ hk => (⟨hk, hk.2⟩ : _ ∧ k_ ≠ gb188))) (fun _ hk => hk.2) (.slice Ao51 t184.length co51)) (fun _ hk => hk.1.2)))⟩; have n1_ : Aside0 (w53.heap[gb188]? = some (.cells #[.slice Ao51 t184.length co51] 26 (0, 0))) := ⟨(by rw [hw]; exact (by (with_reducible repeat (first | refine blk_drewN ?_ _ | refine blk_drew ?_ | refine blk_alloc ?_ _)); refine blk_put (cs := #[.slice none 0 0]) ?_ 0 _ rfl; (with_reducible repeat (first | refine blk_drewN ?_ _ | refine blk_drew ?_ | refine blk_alloc ?_ _)); exact BK188.out))⟩; have n2_ : Aside0 (Below w.heap.size w w53) := ⟨(by rw [hw]; exact (by repeat (first | (with_reducible first | exact HB.out | apply below_alloc | apply pw_below_drewN | apply below_drew1 | refine below_set ?_ GE188.out) | exact HB.out)))⟩; clear hw; clear HO186; clear BK188; clear HB; have HO186 := n0_; have BK188 := n1_; have HB := n2_; clear n0_ n1_ n2_; have hcz54_0 : w53.cell? ⟨gb188, 0, none⟩ = some (.slice Ao51 t184.length co51) := (blk_cell BK188.out 0).trans rfl; have hfz54_0 := blk_frozen BK188.out 0) | ((with_reducible refine gate_callee (f := 38) rfl ?_); refine goesL_ (some 11) rfl rfl Tryd.func38 (by kernel_rfl) rfl #[.agg #[.slice Ao51 t184.length co51], .int .i64 20] rfl (by (try simp only [List.map_toArray, List.map_cons, List.map_nil]); first | done | rfl | (simp only [List.length_drop, List.length_take]; rfl)) ?_; (with_reducible refine (nat_Nat_Power.calls k (fun k_ => k_ ≠ gb188) _ _ t184 20 t189 t192 _ ?side1 A2.out).mono ?_); (case side1 => exact HO186.out); rintro e w55 ⟨v190, rfl, ho0, hb⟩; refine ⟨_, rfl, ?_⟩; have n0_ := Aside0.mk (Kd.V_below (by (with_reducible repeat (first | apply Kd.V_alloc | apply Kd.V_drewN | apply Kd.V_drew)); exact HO186.out) hb); have n1_ := Aside0.mk (Kd.V_lower (Kd.V_mono (ok' := fun k_ => k_ ≠ gb188) ho0 (fun k_ hk_ => Or.elim hk_ (fun hs_ => hs_) (fun hn_ => (Kd.freshB (g := gb188) (o := .cells #[.slice Ao51 t184.length co51] 26 (0, 0)) (by (with_reducible repeat (first | refine blk_drewN ?_ _ | refine blk_drew ?_ | refine blk_alloc ?_ _)); exact BK188.out) k_ hn_)))) (below_size (by repeat (first | (with_reducible first | exact HB.out | apply below_alloc | apply pw_below_drewN | apply below_drew1 | refine below_set ?_ GE188.out) | exact HB.out)))); have n2_ := Aside0.mk (blk_below (g := gb188) (o := .cells #[.slice Ao51 t184.length co51] 26 (0, 0)) (by (with_reducible repeat (first | refine blk_drewN ?_ _ | refine blk_drew ?_ | refine blk_alloc ?_ _)); exact BK188.out) hb); have n3_ := Aside0.mk (below_step (by repeat (first | (with_reducible first | exact HB.out | apply below_alloc | apply pw_below_drewN | apply below_drew1 | refine below_set ?_ GE188.out) | exact HB.out)) hb); clear HO186; clear BK188; clear HB; have HO186 := n0_; have HO191 := n1_; have BK188 := n2_; have HB := n3_; clear n0_ n1_ n2_ n3_; (try clear hb); (try clear hb2); (try clear hk); (try clear hi); (try clear ho0)) | ((with_reducible refine gate_dst (N := 3) rfl ?_); refine box_event ?hg (N := 3) ?hd (cs := #[.slice none 0 0]) (t := 26) ?hr ?_; (case hd => rfl); (case hg => rfl); (case hr => first | (go_simp; done) | (go_simp; rfl)); intro gb193 hg w56 hbox hb; have n0_ := Aside0.mk (Kd.V_below (Kd.V_elderB (by (with_reducible repeat (first | apply Kd.V_alloc | apply Kd.V_drewN | apply Kd.V_drew)); exact HO186.out) gb193 (Nat.le_of_eq hg.symm)) hb); have n1_ := Aside0.mk (Kd.V_below (Kd.V_elderB (by (with_reducible repeat (first | apply Kd.V_alloc | apply Kd.V_drewN | apply Kd.V_drew)); exact HO191.out) gb193 (Nat.le_of_eq hg.symm)) hb); have n2_ := Aside0.mk (blk_below (g := gb188) (o := .cells #[.slice Ao51 t184.length co51] 26 (0, 0)) (by (with_reducible repeat (first | refine blk_drewN ?_ _ | refine blk_drew ?_ | refine blk_alloc ?_ _)); exact BK188.out) hb); have n3_ := Aside0.mk (below_step (by repeat (first | (with_reducible first | exact HB.out | apply below_alloc | apply pw_below_drewN | apply below_drew1 | refine below_set ?_ GE188.out) | exact HB.out)) hb); have n4_ := Aside0.mk (hbox); have n5_ := Aside0.mk ((by rw [hg]; exact (below_size (by repeat (first | (with_reducible first | exact HB.out | apply below_alloc | apply pw_below_drewN | apply below_drew1 | refine below_set ?_ GE188.out) | exact HB.out))) : w.heap.size ≤ gb193)); have n6_ := Aside0.mk ((by rw [hg]; exact (below_size (by repeat (first | (with_reducible first | exact HB.out | apply below_alloc | apply pw_below_drewN | apply below_drew1 | refine below_set ?_ GE188.out) | exact HB.out))) : w.heap.size ≤ gb193)); have n7_ := Aside0.mk ((by rw [hg]; exact Nat.ne_of_lt (blk_lt (g := gb188) (o := .cells #[.slice Ao51 t184.length co51] 26 (0, 0)) (by (with_reducible repeat (first | refine blk_drewN ?_ _ | refine blk_drew ?_ | refine blk_alloc ?_ _)); exact BK188.out)) : gb188 ≠ gb193)); have n8_ := Aside0.mk ((by rw [hg]; exact Nat.ne_of_gt (blk_lt (g := gb188) (o := .cells #[.slice Ao51 t184.length co51] 26 (0, 0)) (by (with_reducible repeat (first | refine blk_drewN ?_ _ | refine blk_drew ?_ | refine blk_alloc ?_ _)); exact BK188.out)) : gb193 ≠ gb188)); clear HO186; clear HO191; clear BK188; clear HB; have HO186 := n0_; have HO191 := n1_; have BK188 := n2_; have HB := n3_; have BK193 := n4_; have GW193 := n5_; have GE193 := n6_; have NB188_193 := n7_; have NB193_188 := n8_; clear n0_ n1_ n2_ n3_ n4_ n5_ n6_ n7_ n8_; clear hb hbox hg; obtain ⟨Ao57, co57, eo57⟩ := Kd.V_slice HO191.out; subst eo57; have hnb58 := NB193_188.out; have hnc58 := NB188_193.out; have hcz59_0 : w56.cell? ⟨gb193, 0, none⟩ = some (.slice none 0 0) := (blk_cell BK193.out 0).trans rfl; have hfz59_0 := blk_frozen BK193.out 0))
    go_ret
    exact ⟨by first | rfl | (simp [errW_none, errW_some] <;> rfl) | (simp [*, errW_none, errW_some] <;> rfl), by repeat (first | (with_reducible first | exact HB.out | apply below_alloc | apply pw_below_drewN | apply below_drew1 | refine below_set ?_ GE188.out | refine below_set ?_ GE193.out) | exact HB.out)⟩
end Go.Proofs.YtgcngbmkgjphpaaDoor.PAll
end

section
namespace Go.Proofs.YtgcngbmkgjphpaaDoor.Nums
open Go.RowKit Go.Proofs.YtgcngbmkgjphpaaDoor.PAll Go.Proofs.YtgcngbmkgjphpaaDoorW.PrintWords Go.Proofs.YtgcngbmkgjphpaaDoorW.PrintLast Go.Proofs.YtgcngbmkgjphpaaDoorW.PrintMore
set_option linter.unusedVariables false
set_option linter.unusedSimpArgs false
theorem bl_pow {x : Nat} (hx : x ≠ 0) (n : Nat) : (bl x - 1) * n < bl (x ^ n) := by
  have h1 := bl_pos.mpr hx
  have a1 : 2 ^ (bl x - 1) ≤ x := lt_bl.mp (by omega)
  have a2 := Nat.pow_le_pow_left a1 n
  rw [← Nat.pow_mul] at a2
  exact lt_bl.mpr a2
theorem pow_mono {x i n : Nat} (hx : 0 < x) (h : i ≤ n) : x ^ i ≤ x ^ n := Nat.pow_le_pow_right hx h
theorem small_pow {x n : Nat} (hx : bl x ≤ 1) (hn : n ≠ 0) : x ^ n = x := by
  have h : x < 2 := by simpa using bl_le.mp hx
  have : x = 0 ∨ x = 1 := by omega
  rcases this with rfl | rfl
  · exact Nat.zero_pow (by omega)
  · exact Nat.one_pow n
/-- The loop of the program's power. -/
theorem pow_loop (x n : Nat) (hx : 2 ≤ bl x) (hxl : bl x ≤ 65536) (hn : n ≤ 65536) (R : List Int × Int) (hfit : bl (x ^ n) ≤ 65536 → R = (dgs 4294967296 (x ^ n), 0)) (hbig : ¬ bl (x ^ n) ≤ 65536 → R = ([], 41)) : ∀ (m i : Nat), m = n - i → i ≤ n → bl (x ^ i) ≤ 65536 →
    Ev (fun k => nat_Nat_Power.l0 k (n : Int) (i : Int) (dgs 4294967296 x) (dgs 4294967296 (x ^ i))) R := by
  have hx0 : 0 < x := by
    rcases Nat.eq_zero_or_pos x with h | h
    · subst h; rw [bl_zero] at hx; omega
    · exact h
  intro m
  induction m with
  | zero =>
    intro i hm hi hb
    obtain rfl : i = n := by omega
    rw [hfit hb]
    refine Ev.step (f := fun _ => some (dgs 4294967296 (x ^ i), 0)) (fun k => ?_) (Ev.now _)
    rw [nat_Nat_Power.l0, if_neg (by omega)]
  | succ m ih =>
    intro i hm hi hb
    by_cases g : bl (x ^ i * x) ≤ 65536
    · have h1 := ih (i + 1) (by omega) (by omega) (by rw [Nat.pow_succ]; exact g)
      rw [Nat.pow_succ] at h1
      have h2 := (mul_fits hb hxl g).bind (f := fun k bt180 => (if bt180.2 = 0 then (nat_Nat_Power.l0 k (n : Int) ((i + 1 : Nat) : Int) (dgs 4294967296 x) bt180.1) else (some (([] : List Int), bt180.2)))) (r := R) (Ev.congr (fun k => by rw [if_pos rfl]) h1)
      refine Ev.step (fun k => ?_) h2
      rw [nat_Nat_Power.l0, if_pos (by omega), wrap_in (by omega) (by omega)]
      rfl
    · have hnb : ¬ bl (x ^ n) ≤ 65536 := by
        have := bl_mono (pow_mono hx0 (show i + 1 ≤ n by omega))
        rw [Nat.pow_succ] at this
        omega
      rw [hbig hnb]
      have h2 := (mul_big hb hxl g).bind (f := fun k bt180 => (if bt180.2 = 0 then (nat_Nat_Power.l0 k (n : Int) ((i + 1 : Nat) : Int) (dgs 4294967296 x) bt180.1) else (some (([] : List Int), bt180.2)))) (r := ([], 41)) (Ev.congr (fun k => by rw [if_neg (by decide)]) (Ev.now _))
      refine Ev.step (fun k => ?_) h2
      rw [nat_Nat_Power.l0, if_pos (by omega), wrap_in (by omega) (by omega)]
      rfl
theorem pow_head (k : Nat) (l : List Int) (a n : Int) (hb : nat_Nat_Bits.f l = some a) (h0 : ¬ n < 0) (h1 : ¬ n = 0) (h2 : ¬ a < 2) (h3 : ¬ n > 2147483647) (A : Int) (hA : wrap64 (wrap64 (a - 1) * n) = A) (h4 : ¬ A ≥ 65536) : nat_Nat_Power.f k l n = (nat_of.f k 1).bind fun t176 => nat_Nat_Power.l0 k n 0 l t176 := by
  unfold nat_Nat_Power.f
  rw [if_neg h0, if_neg h1, hb, Option.bind_some, if_neg h2, if_neg h3, Option.bind_some, hA, if_neg h4]
theorem pow_head_big (k : Nat) (l : List Int) (a n : Int) (hb : nat_Nat_Bits.f l = some a) (h0 : ¬ n < 0) (h1 : ¬ n = 0) (h2 : ¬ a < 2) (h3 : n > 2147483647 ∨ wrap64 (wrap64 (a - 1) * n) ≥ 65536) : nat_Nat_Power.f k l n = some ([], 41) := by
  unfold nat_Nat_Power.f
  rw [if_neg h0, if_neg h1, hb, Option.bind_some, if_neg h2]
  by_cases c : n > 2147483647
  · rw [if_pos c]
  · rw [if_neg c, Option.bind_some, if_pos (h3.resolve_left c)]
/-- The program's power. -/
theorem pow_ev (x n : Nat) (hxl : bl x ≤ 65536) (hn : n < 9223372036854775808) (R : List Int × Int) (hfit : bl (x ^ n) ≤ 65536 → R = (dgs 4294967296 (x ^ n), 0)) (hbig : ¬ bl (x ^ n) ≤ 65536 → R = ([], 41)) : Ev (fun k => nat_Nat_Power.f k (dgs 4294967296 x) (n : Int)) R := by
  have lx := pd_len (n := x) (k := 2048) (by omega)
  have hb := bits_some (n := x) (by omega)
  by_cases h0 : n = 0
  · subst h0
    rw [Nat.pow_zero] at hfit
    rw [hfit (by rw [bl_one]; omega)]
    refine Ev.congr (fun k => ?_) ((of_ev 1 (by omega)).bind (f := fun _ t171 => some (t171, (0 : Int))) (Ev.now _))
    unfold nat_Nat_Power.f
    rw [if_neg (by omega), if_pos (by omega)]
    rfl
  · by_cases h1 : bl x < 2
    · have e := small_pow (x := x) (n := n) (by omega) h0
      rw [e] at hfit
      rw [hfit hxl]
      refine Ev.congr (fun k => ?_) (Ev.now _)
      unfold nat_Nat_Power.f
      rw [if_neg (by omega), if_neg (by omega), hb, Option.bind_some, if_pos (by omega)]
    · have hx0 : x ≠ 0 := by rintro rfl; rw [bl_zero] at h1; omega
      have hbp := bl_pow hx0 n
      have hge : n ≤ (bl x - 1) * n := Nat.le_mul_of_pos_left n (by omega)
      by_cases h2 : n > 2147483647
      · have hB : ¬ bl (x ^ n) ≤ 65536 := by omega
        rw [hbig hB]
        refine Ev.congr (fun k => ?_) (Ev.now _)
        exact pow_head_big k _ _ _ hb (by omega) (by omega) (by omega) (.inl (by omega))
      · have hprod : (bl x - 1) * n ≤ 65535 * 2147483647 := Nat.mul_le_mul (by omega) (by omega)
        have hw : wrap64 (wrap64 (((bl x : Nat) : Int) - 1) * (n : Int)) = (((bl x - 1) * n : Nat) : Int) := by
          rw [wrap_in (a := ((bl x : Nat) : Int) - 1) (by omega) (by omega), show ((bl x : Nat) : Int) - 1 = ((bl x - 1 : Nat) : Int) by omega, ← Int.natCast_mul]
          generalize (bl x - 1) * n = M at *
          rw [wrap_in (by omega) (by omega)]
        by_cases h3 : (bl x - 1) * n ≥ 65536
        · have hB : ¬ bl (x ^ n) ≤ 65536 := by omega
          rw [hbig hB]
          refine Ev.congr (fun k => ?_) (Ev.now _)
          exact pow_head_big k _ _ _ hb (by omega) (by omega) (by omega) (.inr (by rw [hw]; omega))
        · have hl := pow_loop x n (by omega) hxl (by omega) R hfit hbig n 0 (by omega) (by omega) (by rw [Nat.pow_zero, bl_one]; omega)
          rw [Nat.pow_zero] at hl
          have h4 := (of_ev 1 (by omega)).bind (f := fun k t176 => nat_Nat_Power.l0 k (n : Int) 0 (dgs 4294967296 x) t176) hl
          refine Ev.congr (fun k => ?_) h4
          exact pow_head k _ _ _ hb (by omega) (by omega) (by omega) (by omega) _ hw (by omega)
/-- awake: a small power. -/
theorem seven20 : (7 : Nat) ^ 20 = 79792266297612001 := by decide
theorem bl_seven : bl 79792266297612001 = 57 := by
  apply Nat.le_antisymm
  · rw [bl_le]; decide
  · have : 56 < bl 79792266297612001 := by rw [lt_bl]; decide
    omega
theorem dec_seven : (dec 79792266297612001).toList = ([55, 57, 55, 57, 50, 50, 54, 54, 50, 57, 55, 54, 49, 50, 48, 48, 49] : List UInt8) := by
  have h := dgs_split (b := 10) (by omega) 16 79792266297612001 (by decide)
  rw [show 79792266297612001 / 10 ^ 16 = 7 from by decide, dgs_pos (b := 10) (n := 7) (by omega) (by omega), show 7 / 10 = 0 from rfl, dgs_zero] at h
  unfold dec dd
  rw [if_neg (by omega), h, ByteArray.toList_eq, strOfNums_data]
  decide
theorem awake_ev : Ev (fun k => heraldlaw04_awake.f k) true := by
  have h1 := Of_ev 7 (by omega)
  have b7 : bl 7 ≤ 65536 := by
    have : bl 7 ≤ 3 := bl_le.mpr (by decide)
    omega
  have hs : bl (7 ^ 20) ≤ 65536 := by rw [seven20, bl_seven]; omega
  have h2 := pow_ev 7 20 b7 (by omega) (dgs 4294967296 79792266297612001, 0) (fun _ => by rw [seven20]) (fun h => absurd hs h)
  have l1 := pd_len (n := 79792266297612001) (k := 2) (by rw [bl_seven]; omega)
  have h3 := text_ev (n := 79792266297612001) (by omega)
  have h4 := bits_some (n := 79792266297612001) (by omega)
  rw [bl_seven] at h4
  have q1 : Ev (fun k => (nat_Nat_Text.f k (dgs 4294967296 79792266297612001)).bind fun t194 => (if t194.toList = ([55, 57, 55, 57, 50, 50, 54, 54, 50, 57, 55, 54, 49, 50, 48, 48, 49] : List UInt8) then ((nat_Nat_Bits.f (dgs 4294967296 79792266297612001)).bind fun t195 => (some (t195 == 57))) else (some false))) true := by
    refine h3.bind (f := fun k t194 => (if t194.toList = ([55, 57, 55, 57, 50, 50, 54, 54, 50, 57, 55, 54, 49, 50, 48, 48, 49] : List UInt8) then ((nat_Nat_Bits.f (dgs 4294967296 79792266297612001)).bind fun t195 => (some (t195 == 57))) else (some false))) (Ev.congr (fun k => ?_) (Ev.now _))
    rw [if_pos dec_seven, h4]
    rfl
  have q2 := h2.bind (f := fun k bt189 => (if (0 : Int) = 0 then (if bt189.2 = 0 then ((nat_Nat_Text.f k bt189.1).bind fun t194 => (if t194.toList = ([55, 57, 55, 57, 50, 50, 54, 54, 50, 57, 55, 54, 49, 50, 48, 48, 49] : List UInt8) then ((nat_Nat_Bits.f bt189.1).bind fun t195 => (some (t195 == 57))) else (some false))) else (some false)) else (some false))) (r := true) (Ev.congr (fun k => by rw [if_pos rfl, if_pos rfl]) q1)
  exact h1.bind q2
end Go.Proofs.YtgcngbmkgjphpaaDoor.Nums
end
