/- Texts of this session and printed texts, merged, what is not needed left out: NmD, HConv, PAllx13, PAllx14, NmE, PAllx18, PAllx7, NmF. -/
import Derived.Test.YtgcngbmkgjphpaaDoorNpE0
import Derived.Test.YtgcngbmkgjphpaaDoorNpE1
import Derived.Test.YtgcngbmkgjphpaaDoorNpE2
section
namespace Go.Proofs.YtgcngbmkgjphpaaDoor.Nums
open Go.RowKit Go.Proofs.YtgcngbmkgjphpaaDoor.PAll Go.Proofs.YtgcngbmkgjphpaaDoorW.PrintWords Go.Proofs.YtgcngbmkgjphpaaDoorW.PrintLast Go.Proofs.YtgcngbmkgjphpaaDoorW.PrintMore
set_option linter.unusedVariables false
set_option linter.unusedSimpArgs false
/-- The text of a row of decimal digits, the lowest first. -/
def dd (l : List Int) : ByteArray := strOfNums ((l.map fun d => 48 + d).reverse)
/-- A number's text. -/
def dec (n : Nat) : ByteArray := if n = 0 then ⟨#[48]⟩ else dd (dgs 10 n)
/-- Digits in chunks of nine. -/
def cd (n : Nat) : List Int := if h : n = 0 then [] else dn 10 9 n ++ cd (n / 1000000000)
termination_by n
decreasing_by exact Nat.div_lt_self (by omega) (by omega)
theorem cd_zero : cd 0 = [] := by rw [cd]; simp
theorem cd_pos {n : Nat} (h : n ≠ 0) : cd n = dn 10 9 n ++ cd (n / 1000000000) := by rw [cd]; simp [h]
theorem cd_eq : ∀ n : Nat, ∃ z, z ≤ 9 ∧ cd n = dgs 10 n ++ List.replicate z 0 := by
  intro n
  induction n using Nat.strongRecOn with
  | ind n ih =>
    by_cases h : n = 0
    · subst h; exact ⟨0, by omega, by simp [cd_zero, dgs_zero]⟩
    · rw [cd_pos h]
      by_cases g : n / 1000000000 = 0
      · refine ⟨9 - (dgs 10 n).length, by omega, ?_⟩
        rw [g, cd_zero, List.append_nil]
        exact dn_eq (by omega) 9 n (by rw [show (10 : Nat) ^ 9 = 1000000000 from rfl]; omega)
      · obtain ⟨z, hz, e⟩ := ih (n / 1000000000) (by omega)
        refine ⟨z, hz, ?_⟩
        have := dgs_split (b := 10) (by omega) 9 n (by rw [show (10 : Nat) ^ 9 = 1000000000 from rfl]; exact g)
        rw [show (10 : Nat) ^ 9 = 1000000000 from rfl] at this
        rw [this, e, List.append_assoc]
theorem dec_len {n : Nat} : (dgs 10 n).length ≤ 10 * (dgs 4294967296 n).length := by
  rw [dgs_len_le (by omega), Nat.pow_mul]
  exact Nat.lt_of_lt_of_le (lt_pow_len (b := 4294967296) (by omega)) (Nat.pow_le_pow_left (by omega) _)
theorem rdec_len {n : Nat} : (dgs 10 n).length ≤ 5 * (dgs 65536 n).length := by
  rw [dgs_len_le (by omega), Nat.pow_mul]
  exact Nat.lt_of_lt_of_le (lt_pow_len (b := 65536) (by omega)) (Nat.pow_le_pow_left (by omega) _)
theorem text_l1 (q : List Int) (R : ByteArray) : ∀ (m j r : Nat) (back : List Int), m = 9 - j → j ≤ 9 → r < 4294967296 → back.length + m ≤ 100000000000000 →
    Ev (fun k => nat_Nat_Text.l0 k (back ++ (dn 10 m r).map fun d => 48 + d) q) R → Ev (fun k => nat_Nat_Text.l1 k back (r : Int) (j : Int) q) R := by
  intro m
  induction m with
  | zero =>
    intro j r back hm hj hr hb hR
    obtain rfl : j = 9 := by omega
    refine Ev.step (fun k => ?_) hR
    rw [nat_Nat_Text.l1, if_neg (by omega)]
    simp [dn]
  | succ m ih =>
    intro j r back hm hj hr hb hR
    have h := ih (j + 1) (r / 10) (back ++ [48 + ((r % 10 : Nat) : Int)]) (by omega) (by omega) (by omega) (by rw [List.length_append, List.length_singleton]; omega) (by
      rw [List.append_assoc]
      exact hR)
    refine Ev.step (fun k => ?_) h
    rw [nat_Nat_Text.l1, if_pos (by omega), if_pos (by omega), show (10 : Int) = ((10 : Nat) : Int) from rfl, ← Int.ofNat_tmod, ← Int.ofNat_tdiv, wrap_in (by omega) (by omega)]
    rw [show (48 + ((r % 10 : Nat) : Int) % 256) % 256 = 48 + ((r % 10 : Nat) : Int) by omega, show ((r / 10 : Nat) : Int) % 4294967296 = ((r / 10 : Nat) : Int) by omega]
    rfl
theorem text_l0 (R : ByteArray) : ∀ (n : Nat) (back : List Int), (dgs 4294967296 n).length ≤ 1000000000000 → back.length + (cd n).length ≤ 10000000000000 →
    Ev (fun k => nat_Nat_Text.l0 k (back ++ (cd n).map fun d => 48 + d) []) R → Ev (fun k => nat_Nat_Text.l0 k back (dgs 4294967296 n)) R := by
  intro n
  induction n using Nat.strongRecOn with
  | ind n ih =>
    intro back hl hb hR
    by_cases h : n = 0
    · subst h
      rw [cd_zero, List.map_nil, List.append_nil] at hR
      rw [dgs_zero]; exact hR
    · have hp := dgs_len_pos (b := 4294967296) (n := n) (by omega) h
      have hle : (dgs 4294967296 (n / 1000000000)).length ≤ (dgs 4294967296 n).length := (dgs_len_le (by omega)).mpr (Nat.lt_of_le_of_lt (Nat.div_le_self _ _) (lt_pow_len (by omega)))
      rw [cd_pos h] at hb hR
      rw [List.length_append, dn_length] at hb
      have h1 := ih (n / 1000000000) (by omega) (back ++ (dn 10 9 n).map fun d => 48 + d) (by omega) (by rw [List.length_append, List.length_map, dn_length]; omega) (by
        rw [List.append_assoc, ← List.map_append]; exact hR)
      have hm := dn_mod (b := 10) (by omega) 9 n
      rw [show (10 : Nat) ^ 9 = 1000000000 from rfl] at hm
      rw [← hm] at h1
      have h2 := text_l1 (dgs 4294967296 (n / 1000000000)) R 9 0 (n % 1000000000) back (by omega) (by omega) (by omega) (by omega) h1
      have h3 := (by_ev (n := n) (d := 1000000000) (by omega) (by omega) (by omega)).bind (f := fun k bt130 => nat_Nat_Text.l1 k back bt130.2 0 bt130.1) h2
      refine Ev.step (fun k => ?_) h3
      rw [nat_Nat_Text.l0, if_pos (by omega)]
      rfl
theorem set_rep (m : Nat) (v : Int) (T : List Int) : (List.replicate (m + 1) (0 : Int) ++ T).set m v = List.replicate m 0 ++ v :: T := by
  induction m with
  | zero => rfl
  | succ m ih => rw [List.replicate_succ, List.cons_append, List.set_cons_succ, ih, List.replicate_succ, List.cons_append]
theorem text_l2 (back : List Int) (R : ByteArray) (hb : back.length ≤ 281474976710656) (hR : Ev (fun k => strings_TrimLeft.f k (strOfNums back.reverse) (⟨#[48]⟩ : ByteArray)) R) : ∀ (m i : Nat), m + i = back.length →
    Ev (fun k => nat_Nat_Text.l2 k back (List.replicate m 0 ++ (back.take i).reverse) back (back.length : Int) (i : Int)) R := by
  intro m
  induction m with
  | zero =>
    intro i hi
    obtain rfl : i = back.length := by omega
    have := hR.bind (f := fun _ t => some t) (Ev.now _)
    refine Ev.step (fun k => ?_) this
    rw [nat_Nat_Text.l2, if_neg (by omega)]
    simp only [List.take_length, List.replicate_zero, List.nil_append]
  | succ m ih =>
    intro i hi
    refine Ev.step (fun k => ?_) (ih (i + 1) (by omega))
    have hl : (List.replicate (m + 1) (0 : Int) ++ (back.take i).reverse).length = back.length := by simp; omega
    rw [nat_Nat_Text.l2, if_pos (by omega), if_pos (by omega), if_pos (by omega), wrap_in (a := (back.length : Int) - 1) (by omega) (by omega), wrap_in (a := (back.length : Int) - 1 - (i : Int)) (by omega) (by omega), if_pos (by omega), hl, if_pos (by omega), wrap_in (by omega) (by omega)]
    rw [show ((back.length : Int) - 1 - (i : Int)).toNat = m by omega, set_rep, rd_at _ _ (by omega), List.take_succ_eq_append_getElem (show i < back.length by omega), List.reverse_append]
    rfl
theorem bt_strOf (l : List Int) (i : Nat) (h : i < l.length) (h0 : 0 ≤ l[i]) (h1 : l[i] < 256) : bt (strOfNums l) (i : Int) = l[i] := by
  have hs : (strOfNums l).size = l.length := strOfNums_size l
  unfold bt
  rw [dif_pos (by rw [hs, Int.toNat_natCast]; exact h)]
  have e : ((strOfNums l)[((i : Int)).toNat]'(by rw [hs, Int.toNat_natCast]; exact h)) = UInt8.ofNat (l[i]).toNat := by
    simp only [Int.toNat_natCast]
    show ((l.map fun n => UInt8.ofNat n.toNat).toArray)[i]'(by simpa using h) = _
    simp
  rw [e]
  have : (UInt8.ofNat (l[i]).toNat).toNat = (l[i]).toNat := by
    rw [UInt8.toNat_ofNat']; omega
  rw [this]; omega
theorem extract_one (x : Int) (l : List Int) : (strOfNums (x :: l)).extract 1 (strOfNums (x :: l)).size = strOfNums l := by
  apply ByteArray.ext
  rw [ByteArray.data_extract]
  simp [strOfNums, ByteArray.size]
  exact List.take_of_length_le (by simp)
theorem trim_ev : ∀ l : List Int, (∀ x ∈ l, 0 ≤ x ∧ x < 256) → l.length ≤ 281474976710656 → Ev (fun k => strings_trimLeftByte.l0 k (strOfNums l) 48) (strOfNums (l.dropWhile (· == 48)))
  | [], _, _ => by
    refine Ev.step (f := fun _ => some (strOfNums [])) (fun k => ?_) (Ev.now _)
    rw [strings_trimLeftByte.l0, strOfNums_size, if_neg (by simp)]
  | x :: l, h, hl => by
    have hx := h x (by simp)
    have hb := bt_strOf (x :: l) 0 (by simp) hx.1 hx.2
    have hs : ((strOfNums (x :: l)).size : Int) = (l.length : Int) + 1 := by rw [strOfNums_size]; simp
    have hb0 : bt (strOfNums (x :: l)) 0 = x := hb
    by_cases c : x = 48
    · subst c
      rw [List.length_cons] at hl
      have ih := trim_ev l (fun y hy => h y (by simp [hy])) (by omega)
      rw [show (48 :: l).dropWhile (· == 48) = l.dropWhile (· == 48) from by simp]
      refine Ev.step (fun k => ?_) ih
      rw [strings_trimLeftByte.l0, hs, if_pos (by omega), if_pos (by omega), hb0, if_pos rfl, if_pos (by omega), extract_one]
    · rw [show (x :: l).dropWhile (· == 48) = x :: l from by simp [c]]
      refine Ev.step (f := fun _ => some (strOfNums (x :: l))) (fun k => ?_) (Ev.now _)
      rw [strings_trimLeftByte.l0, hs, if_pos (by omega), if_pos (by omega), hb0, if_neg c]
theorem drop_rep (z : Nat) (l : List Int) : (List.replicate z (48 : Int) ++ l).dropWhile (· == 48) = l.dropWhile (· == 48) := by
  induction z with
  | zero => simp
  | succ z ih => rw [List.replicate_succ, List.cons_append, List.dropWhile_cons_of_pos (by decide)]; exact ih
theorem drop_digits {n : Nat} (hn : n ≠ 0) : (((dgs 10 n).map fun d => 48 + d).reverse).dropWhile (· == 48) = ((dgs 10 n).map fun d => 48 + d).reverse := by
  obtain ⟨a, r, t, e, ht, _⟩ := dgs_top (b := 10) (by omega) hn
  rw [e, List.map_append, List.reverse_append, List.map_singleton, List.reverse_singleton, List.singleton_append, List.dropWhile_cons_of_neg]
  simp only [beq_iff_eq]
  omega
/-- The program's text of a number. -/
theorem text_ev {n : Nat} (hl : (dgs 4294967296 n).length ≤ 100000000000) : Ev (fun k => nat_Nat_Text.f k (dgs 4294967296 n)) (dec n) := by
  by_cases hn : n = 0
  · subst hn
    refine Ev.congr (fun k => ?_) (Ev.now _)
    unfold nat_Nat_Text.f
    rw [if_pos (by simp [dgs_zero])]
    rfl
  · obtain ⟨z, hz, e⟩ := cd_eq n
    have hd := dec_len (n := n)
    have hlen : (cd n).length = (dgs 10 n).length + z := by rw [e]; simp
    have hp := dgs_len_pos (b := 4294967296) (n := n) (by omega) hn
    have hbig : ((cd n).map fun d => 48 + d).length = (cd n).length := List.length_map _
    have hmem : ∀ x ∈ ((cd n).map fun d => 48 + d).reverse, 0 ≤ x ∧ x < 256 := by
      intro x hx
      rw [List.mem_reverse, List.mem_map] at hx
      obtain ⟨d, hd2, rfl⟩ := hx
      have : Dg (10 : Nat) (cd n) := by rw [e]; exact (dgs_dg (by omega) n).append (Dg.zeros (by omega) z)
      have := this d hd2
      omega
    have ht := trim_ev _ hmem (by rw [List.length_reverse, hbig]; omega)
    have hdrop : (((cd n).map fun d => 48 + d).reverse).dropWhile (· == 48) = ((dgs 10 n).map fun d => 48 + d).reverse := by
      rw [e, List.map_append, List.reverse_append, List.map_replicate, List.reverse_replicate]
      rw [show (48 + (0 : Int)) = 48 from rfl, drop_rep, drop_digits hn]
    rw [hdrop] at ht
    have hT : Ev (fun k => strings_TrimLeft.f k (strOfNums ((cd n).map fun d => 48 + d).reverse) (⟨#[48]⟩ : ByteArray)) (dec n) := by
      unfold dec dd
      rw [if_neg hn]
      refine Ev.congr (fun k => ?_) ht
      unfold strings_TrimLeft.f
      rw [if_pos rfl]
      rfl
    have h2 := text_l2 ((cd n).map fun d => 48 + d) (dec n) (by omega) hT ((cd n).map fun d => 48 + d).length 0 (by omega)
    rw [List.take_zero, List.reverse_nil, List.append_nil] at h2
    have h0 : Ev (fun k => nat_Nat_Text.l0 k (([] : List Int) ++ (cd n).map fun d => 48 + d) []) (dec n) := by
      refine Ev.step (fun k => ?_) h2
      rw [nat_Nat_Text.l0, if_neg (by simp), List.nil_append, if_pos (by omega), if_pos (by omega), Int.toNat_natCast]
      rfl
    have h := text_l0 (dec n) n [] (by omega) (by simp only [List.length_nil]; omega) h0
    refine Ev.congr (fun k => ?_) h
    unfold nat_Nat_Text.f
    rw [if_neg (by omega)]
theorem str_append (a c : List Int) : strOfNums a ++ strOfNums c = strOfNums (a ++ c) := by
  apply ByteArray.ext
  rw [ByteArray.data_append]
  simp [strOfNums]
theorem dd_snoc (l : List Int) (d : Int) : strOfNums [48 + d] ++ dd l = dd (l ++ [d]) := by
  unfold dd
  rw [str_append]
  simp
theorem dd_size (l : List Int) : (dd l).size = l.length := by unfold dd; rw [strOfNums_size]; simp
theorem ten_digit (r : Nat) : wrap64 (48 + Int.tmod (r : Int) 10) % 256 = 48 + ((r % 10 : Nat) : Int) := by
  rw [show (10 : Int) = ((10 : Nat) : Int) from rfl, ← Int.ofNat_tmod, wrap_in (by omega) (by omega)]; omega
theorem half_ten (r : Nat) (h : r < 10000) : wrap64 (Int.tdiv (r : Int) 10) = ((r / 10 : Nat) : Int) := by
  rw [show (10 : Int) = ((10 : Nat) : Int) from rfl, ← Int.ofNat_tdiv, wrap_in (by omega) (by omega)]
theorem next_i (i : Nat) (h : i < 1000000000000) : wrap64 ((i : Int) + 1) = ((i + 1 : Nat) : Int) := by rw [wrap_in (by omega) (by omega)]; rfl
theorem fits_one (v : Int) (acc : List Int) (h : 1 + acc.length ≤ 9223372036854775807) : (strOfNums [v]).size + (dd acc).size ≤ 9223372036854775807 := by
  rw [strOfNums_size, dd_size, List.length_singleton]; exact h
theorem rtext_l1 (x : Nat) (R : ByteArray) (hx : (dgs 65536 x).length ≤ 1000000000000) : ∀ (m i r : Nat) (acc : List Int), m = 4 - i → i ≤ 4 → r < 10 ^ m → acc.length + m ≤ 100000000000000 →
    Ev (fun k => heraldref04_Text.l0 k (dgs 65536 x) (dd (acc ++ if x = 0 then dgs 10 r else dn 10 m r))) R → Ev (fun k => heraldref04_Text.l1 k (dgs 65536 x) (dd acc) (r : Int) (i : Int)) R := by
  intro m
  induction m with
  | zero =>
    intro i r acc hm hi hr hl hR
    obtain rfl : i = 4 := by omega
    obtain rfl : r = 0 := by simpa using hr
    refine Ev.step (fun k => ?_) hR
    rw [heraldref04_Text.l1, if_neg (by omega)]
    rw [show (if x = 0 then dgs 10 0 else dn 10 0 0) = [] from by rw [dgs_zero]; simp [dn], List.append_nil]
  | succ m ih =>
    intro i r acc hm hi hr hl hR
    have hlx := dgs_len_zero (b := 65536) (n := x) (by omega)
    rw [Nat.pow_succ] at hr
    have hr4 : r < 10000 := by
      have : (10 : Nat) ^ m ≤ 10 ^ 3 := Nat.pow_le_pow_right (by omega) (by omega)
      have : (10 : Nat) ^ 3 = 1000 := rfl
      omega
    by_cases stop : x = 0 ∧ r = 0
    · obtain ⟨hx0, hr0⟩ := stop
      subst hx0 hr0
      rw [if_pos rfl, dgs_zero 10, List.append_nil] at hR
      refine Ev.step (fun k => ?_) hR
      rw [heraldref04_Text.l1, if_pos (by omega), if_neg (by rw [dgs_zero]; simp), if_neg (by omega)]
    · have hs0 : 1 + acc.length ≤ 9223372036854775807 := by omega
      have h := ih (i + 1) (r / 10) (acc ++ [((r % 10 : Nat) : Int)]) (by omega) (by omega) (by omega) (by rw [List.length_append, List.length_singleton]; omega) (by
        rw [List.append_assoc]
        by_cases hx0 : x = 0
        · rw [if_pos hx0] at hR ⊢
          rw [dgs_pos (b := 10) (by omega) (show r ≠ 0 by omega)] at hR
          exact hR
        · rw [if_neg hx0] at hR ⊢
          exact hR)
      have c0 : (i : Int) < 4 := by omega
      have cx : ¬ x = 0 → ((dgs 65536 x).length : Int) > 0 := by omega
      have cx0 : x = 0 → ¬ ((dgs 65536 x).length : Int) > 0 := by omega
      have cr : x = 0 → (r : Int) > 0 := by omega
      have e1 := ten_digit r
      have e2 := half_ten r (by omega)
      have e3 := next_i i (by omega)
      refine Ev.step (fun k => ?_) h
      rw [heraldref04_Text.l1, if_pos c0, e1, e2, e3]
      by_cases hx0 : x = 0
      · rw [if_neg (cx0 hx0), if_pos (cr hx0), Option.bind_some, if_pos (fits_one _ acc hs0), dd_snoc]
      · rw [if_pos (cx hx0), Option.bind_some, if_pos (fits_one _ acc hs0), dd_snoc]
theorem rtext_l0 : ∀ (n : Nat) (acc : List Int), (dgs 65536 n).length ≤ 1000000000000 → acc.length + (dgs 10 n).length ≤ 10000000000000 →
    Ev (fun k => heraldref04_Text.l0 k (dgs 65536 n) (dd acc)) (dd (acc ++ dgs 10 n)) := by
  intro n
  induction n using Nat.strongRecOn with
  | ind n ih =>
    intro acc hl hb
    by_cases h : n = 0
    · subst h
      refine Ev.step (f := fun _ => some (dd (acc ++ dgs 10 0))) (fun k => ?_) (Ev.now _)
      rw [heraldref04_Text.l0, if_neg (by rw [dgs_zero]; simp), dgs_zero, List.append_nil]
    · have hp := dgs_len_pos (b := 65536) (n := n) (by omega) h
      have hle : (dgs 65536 (n / 10000)).length ≤ (dgs 65536 n).length := (dgs_len_le (by omega)).mpr (Nat.lt_of_le_of_lt (Nat.div_le_self _ _) (lt_pow_len (by omega)))
      have hsp : acc ++ dgs 10 n = (acc ++ if n / 10000 = 0 then dgs 10 (n % 10000) else dn 10 4 (n % 10000)) ++ dgs 10 (n / 10000) := by
        by_cases g : n / 10000 = 0
        · rw [if_pos g, g, dgs_zero, List.append_nil, Nat.mod_eq_of_lt (by omega)]
        · have := dgs_split (b := 10) (by omega) 4 n (by rw [show (10 : Nat) ^ 4 = 10000 from rfl]; exact g)
          have hm := dn_mod (b := 10) (by omega) 4 n
          rw [show (10 : Nat) ^ 4 = 10000 from rfl] at this hm
          rw [if_neg g, this, hm, List.append_assoc]
      have hlen : (acc ++ dgs 10 n).length = acc.length + (dgs 10 n).length := List.length_append
      have h1 := ih (n / 10000) (by omega) (acc ++ if n / 10000 = 0 then dgs 10 (n % 10000) else dn 10 4 (n % 10000)) (by omega) (by
        rw [← List.length_append, ← hsp, hlen]; exact hb)
      rw [← hsp] at h1
      have h2 := rtext_l1 (n / 10000) _ (by omega) 4 0 (n % 10000) acc (by omega) (by omega) (by rw [show (10 : Nat) ^ 4 = 10000 from rfl]; omega) (by omega) h1
      have h3 := (small_ev (n := n) (d := 10000) (by omega) (by omega) (by omega)).bind (f := fun k bt210 => heraldref04_Text.l1 k bt210.1 (dd acc) bt210.2 0) h2
      refine Ev.step (fun k => ?_) h3
      rw [heraldref04_Text.l0, if_pos (by omega)]
      rfl
/-- The reference's text of a number. -/
theorem rtext_ev {n : Nat} (hl : (dgs 65536 n).length ≤ 100000000000) : Ev (fun k => heraldref04_Text.f k (dgs 65536 n)) (dec n) := by
  by_cases hn : n = 0
  · subst hn
    refine Ev.congr (fun k => ?_) (Ev.now _)
    unfold heraldref04_Text.f
    rw [if_pos (by simp [dgs_zero])]
    rfl
  · have hd := rdec_len (n := n)
    have hp := dgs_len_pos (b := 65536) (n := n) (by omega) hn
    have h := rtext_l0 n [] (by omega) (by simp only [List.length_nil]; omega)
    rw [List.nil_append] at h
    unfold dec
    rw [if_neg hn]
    refine Ev.congr (fun k => ?_) h
    unfold heraldref04_Text.f
    rw [if_neg (by omega)]
    rfl
end Go.Proofs.YtgcngbmkgjphpaaDoor.Nums
end

section
namespace Go.Proofs.YtgcngbmkgjphpaaDoor.PAll
open Go.RowKit Go.Proofs.YtgcngbmkgjphpaaDoorW.PrintWords Go.Proofs.YtgcngbmkgjphpaaDoorW.PrintLast Go.Proofs.YtgcngbmkgjphpaaDoorW.PrintMore
set_option linter.unusedVariables false
set_option linter.unusedSimpArgs false
def conv_bytes.f (s : ByteArray) : Option (List Int) := if s.size ≤ 9223372036854775807 then some (bytesOf s) else none
theorem conv_cells (W W' : World) (e : TypeId) (s : ByteArray) {fr : Nat × Nat} (h : W'.heap[W.heap.size]? = some (.cells (Lib.bytesCells W e s) e fr)) (j : Nat) (hj : j < s.size) : W'.cell? ⟨W.heap.size, j, none⟩ = some (.int .u8 ((bytesOf s).getD j 0)) := by
  have h' : j < s.data.toList.length := by rw [data_length]; exact hj
  have h2 : j < s.data.size := hj
  have h3 : s.data[j]? = some s.data[j] := Array.getElem?_eq_getElem h2
  simp [World.cell?, h, Lib.bytesCells, Array.getElem?_append, hj, h3, bytesOf, List.getD_eq_getElem?_getD, List.getElem?_eq_getElem h']
theorem conv_row (W : World) (e : TypeId) (s : ByteArray) (hs : s.size ≤ 9223372036854775807) :
    Kd.V (Kd.int .u8) e (Lib.bytesWorld W e s) W.heap.size (fun k => True ∧ W.heap.size ≤ k ∧ True) (.slice (some ⟨W.heap.size, 0, none⟩) s.size (grownCap W s.size 0 e)) (bytesOf s) := by
  have hlen := bytesOf_length s
  have hcap : s.size ≤ grownCap W s.size 0 e := by
    exact grownCap_ge _ _ _ _
  have hC : ∀ W' : World, W'.heap[W.heap.size]? = (Lib.bytesWorld W e s).heap[W.heap.size]? → (Kd.int .u8).C W' (some ⟨W.heap.size, 0, none⟩) s.size (bytesOf s) := by
    intro W' hW
    rw [Lib.bytesWorld_at_new] at hW
    refine Kd.C_of_reads (d := (0 : Int)) (h1 := fun _ => rfl) ⟨hlen, hs, fun _ => ⟨_, rfl, fun j hj => ?_⟩⟩
    rw [add_plain]
    exact conv_cells W W' e s hW j hj
  refine ⟨_, _, by rw [hlen], by rw [hlen]; exact hcap, ?_⟩
  rw [hlen]
  refine fun W' hW => hC W' (hW _ ⟨trivial, Nat.le_refl _, trivial⟩ ?_)
  rw [Lib.bytesWorld_size]; omega
theorem conv_event {ops : Array Oper} {rest : List Oper} {o : Oper} {a : Act} {Q : Exit → Act → World → Prop} {W : World} {x : Operand} {s : ByteArray} {r : List Int} (ho : o.op = .convert 9 77 x) (hgd : o.guard = none) (hx : a.eval x = .string s) (hf : conv_bytes.f s = some r)
    (h : ∀ v w1, Kd.V (Kd.int .u8) 5 w1 W.heap.size (fun k => True ∧ W.heap.size ≤ k ∧ True) v r → Below W.heap.size W w1 → wpList Tryd.prog ops Q rest (a.put o.dst v) w1) : wpList Tryd.prog ops Q (o :: rest) a W := by
  unfold conv_bytes.f at hf
  split at hf
  case isFalse => simp at hf
  case isTrue hs =>
  obtain rfl := Option.some.inj hf
  refine Kd.event_run hgd (w1 := Lib.bytesWorld W 5 s) (v := .slice (some ⟨W.heap.size, 0, none⟩) s.size (grownCap W s.size 0 5)) ?_ (h _ _ (conv_row W 5 s hs) (bytes_below (Below.refl _ _) (Nat.le_refl _) 5 s))
  unfold execOp
  simp only [ho]
  have := print_bytes (P := Tryd.prog) 9 77 5 Tryd.underlying9 Tryd.underlying77 Tryd.underlying5 s W
  simp [hx, this]
end Go.Proofs.YtgcngbmkgjphpaaDoor.PAll
end

section
namespace Go.Proofs.YtgcngbmkgjphpaaDoor.PAll
open Go.RowKit Go.Proofs.YtgcngbmkgjphpaaDoorW.PrintWords Go.Proofs.YtgcngbmkgjphpaaDoorW.PrintLast Go.Proofs.YtgcngbmkgjphpaaDoorW.PrintMore
attribute [local go_sem] max2_int min2_int max_two min_two max_three min_three max_four min_four   -- for this text's walks alone
set_option linter.unusedVariables false
set_option linter.unusedSimpArgs false
mutual
def nat_Parse.l0 : Nat → ByteArray → Int → Int → Option (List Int × Int × Int)
  | 0, _, _, _ => none
  | k + 1, x0, x13, x14 => if x14 < x13 then (if 0 ≤ x14 then (if x14 < (x0.size : Int) then (if (bt x0 x14) < 48 then (some (([] : List Int), x14, 43)) else (if (bt x0 x14) > 57 then (some (([] : List Int), x14, 43)) else (if x14 = 1 then (if 0 < (x0.size : Int) then (if (bt x0 0) = 48 then (some (([] : List Int), x14, 43)) else (nat_Parse.l0 k x0 x13 (wrap64 (x14 + 1)))) else (none)) else (nat_Parse.l0 k x0 x13 (wrap64 (x14 + 1)))))) else (none)) else (none)) else ((conv_bytes.f x0).bind fun t311 => (nat_Parse.l1 k t311 (t311.length : Int) 0 ([] : List Int)))
def nat_Parse.l1 : Nat → List Int → Int → Int → List Int → Option (List Int × Int × Int)
  | 0, _, _, _, _ => none
  | k + 1, x41, x42, x43, x311000 => if x43 < x42 then (if 0 ≤ x43 then (if x43 < (x41.length : Int) then ((nat_Nat_times.f k x311000 10 (((rd x41 x43) - 48) % 256)).bind fun t315 => ((nat_Nat_Bits.f t315).bind fun t318 => (if t318 > 65536 then (some (([] : List Int), 0, 41)) else (nat_Parse.l1 k x41 x42 (wrap64 (x43 + 1)) t315)))) else (none)) else (none)) else (some (x311000, 0, 0))
end
def nat_Parse.f (k : Nat) (a0 : ByteArray) : Option (List Int × Int × Int) := if a0.toList = ([] : List UInt8) then (some (([] : List Int), 0, 43)) else (nat_Parse.l0 k a0 (a0.size : Int) 0)
set_option maxHeartbeats 8000000 in
set_option maxRecDepth 100000 in
theorem nat_Parse.calls (k : Nat) (a0 : ByteArray) (r1 : List Int) (r2 : Int) (r3 : Int) (w : World) (h : nat_Parse.f k a0 = some (r1, r2, r3)) :
    Calls Tryd.prog 18 #[.string a0] w fun e w' => ∃ v0_ : Value, e = .returned (.tuple #[.agg #[v0_], .int .i64 r2, .int .i64 r3]) ∧ Kd.V (Kd.int .u32) 79 w' w.heap.size (fun k_ => (w.heap.size ≤ k_)) v0_ r1 ∧ Below w.heap.size w w' := by
  have hu26 := Tryd.underlying26
  have HB := Aside0.mk (Below.refl w.heap.size w)
  have H : (if a0.toList = ([] : List UInt8) then (some (([] : List Int), 0, 43)) else (nat_Parse.l0 k a0 (a0.size : Int) 0)) = some (r1, r2, r3) := h
  clear h
  by_cases c2 : a0.toList = ([] : List UInt8)
  · rw [if_pos c2] at H
    have c2b0 : (a0.toList == ([] : List UInt8)) = true := beq_iff_eq.mpr c2
    have c2b1 : (a0.toList != ([] : List UInt8)) = false := bne_eq_false_iff_eq.mpr c2
    clear c2
    simp only [Option.some.injEq, Prod.mk.injEq] at H
    obtain ⟨rfl, rfl, rfl⟩ := H
    go_enter Tryd.func18, Tryd.ntmps18
    go_wp2_with (first | ((with_reducible refine gate_dst (N := 2) rfl ?_); refine box_event ?hg (N := 2) ?hd (cs := #[.slice none 0 0]) (t := 26) ?hr ?_; (case hd => rfl); (case hg => rfl); (case hr => first | (go_simp; done) | (go_simp; rfl)); intro gb309 hg w3 hbox hb; have n0_ := Aside0.mk (below_step (by repeat (first | (with_reducible first | exact HB.out | apply below_alloc | apply pw_below_drewN | apply below_drew1) | exact HB.out)) hb); have n1_ := Aside0.mk (hbox); have n2_ := Aside0.mk ((by rw [hg]; exact (below_size (by repeat (first | (with_reducible first | exact HB.out | apply below_alloc | apply pw_below_drewN | apply below_drew1) | exact HB.out))) : w.heap.size ≤ gb309)); have n3_ := Aside0.mk ((by rw [hg]; exact (below_size (by repeat (first | (with_reducible first | exact HB.out | apply below_alloc | apply pw_below_drewN | apply below_drew1) | exact HB.out))) : w.heap.size ≤ gb309)); clear HB; have HB := n0_; have BK309 := n1_; have GW309 := n2_; have GE309 := n3_; clear n0_ n1_ n2_ n3_; clear hb hbox hg; have hcz4_0 : w3.cell? ⟨gb309, 0, none⟩ = some (.slice none 0 0) := (blk_cell BK309.out 0).trans rfl; have hfz4_0 := blk_frozen BK309.out 0))
    refine bodyPost_ret (results_ctt rfl _ _ gb309 26 #[.slice none 0 0] (0, 0) _ rfl (by (with_reducible repeat (first | refine blk_drewN ?_ _ | refine blk_drew ?_ | refine blk_alloc ?_ _)); refine blk_put (cs := #[.slice none 0 0]) ?_ 0 _ rfl; (with_reducible repeat (first | refine blk_drewN ?_ _ | refine blk_drew ?_ | refine blk_alloc ?_ _)); exact BK309.out) Tryd.underlying26 rfl (by kernel_rfl)) rfl ?_
    exact ⟨_, by first | rfl | (simp [errW_none, errW_some] <;> rfl) | (simp [*, errW_none, errW_some] <;> rfl), Kd.R_V (base := w.heap.size) (by first | exact Kd.R_nil _ _ _ _ (fun _ => False) | exact Kd.R_nil _ _ _ _ _ | exact Kd.N_nil _ _ _ _ _ | exact Kd.V_nil _ _ _ _ _ | exact Kd.Q_nil _ _ _ _ _ | exact Kd.S_nil _ _ _ _ _), by repeat (first | (with_reducible first | exact HB.out | apply below_alloc | apply pw_below_drewN | apply below_drew1 | refine below_set ?_ GE309.out) | exact HB.out)⟩
  · rw [if_neg c2] at H
    have c2b0 : (a0.toList == ([] : List UInt8)) = false := beq_eq_false_iff_ne.mpr c2
    have c2b1 : (a0.toList != ([] : List UInt8)) = true := bne_iff_ne.mpr c2
    have H' := Aside0.mk H
    clear H
    go_enter Tryd.func18, Tryd.ntmps18
    go_wp2_with (first | ((with_reducible refine gate_dst (N := 2) rfl ?_); refine box_event ?hg (N := 2) ?hd (cs := #[.slice none 0 0]) (t := 26) ?hr ?_; (case hd => rfl); (case hg => rfl); (case hr => first | (go_simp; done) | (go_simp; rfl)); intro gb309 hg w5 hbox hb; have n0_ := Aside0.mk (below_step (by repeat (first | (with_reducible first | exact HB.out | apply below_alloc | apply pw_below_drewN | apply below_drew1) | exact HB.out)) hb); have n1_ := Aside0.mk (hbox); have n2_ := Aside0.mk ((by rw [hg]; exact (below_size (by repeat (first | (with_reducible first | exact HB.out | apply below_alloc | apply pw_below_drewN | apply below_drew1) | exact HB.out))) : w.heap.size ≤ gb309)); have n3_ := Aside0.mk ((by rw [hg]; exact (below_size (by repeat (first | (with_reducible first | exact HB.out | apply below_alloc | apply pw_below_drewN | apply below_drew1) | exact HB.out))) : w.heap.size ≤ gb309)); clear HB; have HB := n0_; have BK309 := n1_; have GW309 := n2_; have GE309 := n3_; clear n0_ n1_ n2_ n3_; clear hb hbox hg))
    go_loopg [14] k (fun kq v14 w' => ∃ (x14_1 : Int), v14 = .int .i64 x14_1 ∧ Aside0 (nat_Parse.l0 kq a0 (a0.size : Int) x14_1 = some (r1, r2, r3)) ∧ Aside0 (kq ≤ k) ∧ Aside0 (w'.heap[gb309]? = some (.cells #[(.slice none 0 0)] 26 (0, 0))) ∧ Aside0 (Below w.heap.size w w'))
    case atStart => exact ⟨(0), (by first | rfl | (simp; done) | (simp [*]; done) | (simp [i64_w]; done) | (simp [*, i64_w]; done)), H', ⟨Nat.le_refl _⟩, ⟨by (with_reducible repeat (first | refine blk_drewN ?_ _ | refine blk_drew ?_ | refine blk_alloc ?_ _)); exact BK309.out⟩, ⟨by repeat (first | (with_reducible first | exact HB.out | apply below_alloc | apply pw_below_drewN | apply below_drew1 | refine below_set ?_ GE309.out) | exact HB.out)⟩⟩
    case round =>
      clear H'
      try clear c1
      try clear c2
      try clear c2b0
      try clear c2b1
      try clear p2
      try clear hcz4_0
      try clear hfz4_0
      obtain ⟨x14_1, rfl, HA, HK1, BK309, HB⟩ := hrel
      cases gk with
      | zero => exact absurd HA.out (by simp [nat_Parse.l0])
      | succ k1 =>
        have H := HA.out
        clear HA
        simp only [nat_Parse.l0] at H
        by_cases c6 : x14_1 < (a0.size : Int)
        · rw [if_pos c6] at H
          have c6b0 : decide (x14_1 < (a0.size : Int)) = true := decide_eq_true c6
          clear c6
          by_cases c7 : 0 ≤ x14_1
          · rw [if_pos c7] at H
            have c7b0 : decide (0 ≤ x14_1) = true := decide_eq_true c7
            clear c7
            by_cases c8 : x14_1 < (a0.size : Int)
            · rw [if_pos c8] at H
              have c8b0 : decide (x14_1 < (a0.size : Int)) = true := decide_eq_true c8
              clear c8
              by_cases c10 : (bt a0 x14_1) < 48
              · rw [if_pos c10] at H
                have c10b0 : decide ((bt a0 x14_1) < 48) = true := decide_eq_true c10
                clear c10
                simp only [Option.some.injEq, Prod.mk.injEq] at H
                obtain ⟨rfl, rfl, rfl⟩ := H
                have p9 : 0 ≤ (x14_1 : Int) := of_decide_eq_true (by first | (with_reducible assumption) | assumption)
                have q9 : x14_1 < (a0.size : Int) := of_decide_eq_true (by first | (with_reducible assumption) | assumption)
                have hx9 := bt_at a0 x14_1
                replace p9 := eq_true p9
                replace q9 := eq_true q9
                have hcz11_0 : wr.cell? ⟨gb309, 0, none⟩ = some (.slice none 0 0) := (blk_cell BK309.out 0).trans rfl
                have hfz11_0 := blk_frozen BK309.out 0
                go_wp2
                refine bodyPost_ret (results_ctt rfl _ _ gb309 26 #[.slice none 0 0] (0, 0) _ rfl (by (with_reducible repeat (first | refine blk_drewN ?_ _ | refine blk_drew ?_ | refine blk_alloc ?_ _)); refine blk_put (cs := #[.slice none 0 0]) ?_ 0 _ rfl; (with_reducible repeat (first | refine blk_drewN ?_ _ | refine blk_drew ?_ | refine blk_alloc ?_ _)); exact BK309.out) Tryd.underlying26 rfl (by kernel_rfl)) rfl ?_
                exact ⟨_, by first | rfl | (simp [errW_none, errW_some] <;> rfl) | (simp [*, errW_none, errW_some] <;> rfl), Kd.R_V (base := w.heap.size) (by first | exact Kd.R_nil _ _ _ _ (fun _ => False) | exact Kd.R_nil _ _ _ _ _ | exact Kd.N_nil _ _ _ _ _ | exact Kd.V_nil _ _ _ _ _ | exact Kd.Q_nil _ _ _ _ _ | exact Kd.S_nil _ _ _ _ _), by repeat (first | (with_reducible first | exact HB.out | apply below_alloc | apply pw_below_drewN | apply below_drew1 | refine below_set ?_ GE309.out) | exact HB.out)⟩
              · rw [if_neg c10] at H
                have c10b0 : decide ((bt a0 x14_1) < 48) = false := decide_eq_false c10
                clear c10
                by_cases c13 : (bt a0 x14_1) > 57
                · rw [if_pos c13] at H
                  have c13b0 : decide (57 < (bt a0 x14_1)) = true := decide_eq_true c13
                  clear c13
                  simp only [Option.some.injEq, Prod.mk.injEq] at H
                  obtain ⟨rfl, rfl, rfl⟩ := H
                  have p9 : 0 ≤ (x14_1 : Int) := of_decide_eq_true (by first | (with_reducible assumption) | assumption)
                  have q9 : x14_1 < (a0.size : Int) := of_decide_eq_true (by first | (with_reducible assumption) | assumption)
                  have hx9 := bt_at a0 x14_1
                  replace p9 := eq_true p9
                  replace q9 := eq_true q9
                  have p12 : 0 ≤ (x14_1 : Int) := of_decide_eq_true (by first | (with_reducible assumption) | assumption)
                  have q12 : x14_1 < (a0.size : Int) := of_decide_eq_true (by first | (with_reducible assumption) | assumption)
                  have hx12 := bt_at a0 x14_1
                  replace p12 := eq_true p12
                  replace q12 := eq_true q12
                  have hcz14_0 : wr.cell? ⟨gb309, 0, none⟩ = some (.slice none 0 0) := (blk_cell BK309.out 0).trans rfl
                  have hfz14_0 := blk_frozen BK309.out 0
                  go_wp2
                  refine bodyPost_ret (results_ctt rfl _ _ gb309 26 #[.slice none 0 0] (0, 0) _ rfl (by (with_reducible repeat (first | refine blk_drewN ?_ _ | refine blk_drew ?_ | refine blk_alloc ?_ _)); refine blk_put (cs := #[.slice none 0 0]) ?_ 0 _ rfl; (with_reducible repeat (first | refine blk_drewN ?_ _ | refine blk_drew ?_ | refine blk_alloc ?_ _)); exact BK309.out) Tryd.underlying26 rfl (by kernel_rfl)) rfl ?_
                  exact ⟨_, by first | rfl | (simp [errW_none, errW_some] <;> rfl) | (simp [*, errW_none, errW_some] <;> rfl), Kd.R_V (base := w.heap.size) (by first | exact Kd.R_nil _ _ _ _ (fun _ => False) | exact Kd.R_nil _ _ _ _ _ | exact Kd.N_nil _ _ _ _ _ | exact Kd.V_nil _ _ _ _ _ | exact Kd.Q_nil _ _ _ _ _ | exact Kd.S_nil _ _ _ _ _), by repeat (first | (with_reducible first | exact HB.out | apply below_alloc | apply pw_below_drewN | apply below_drew1 | refine below_set ?_ GE309.out) | exact HB.out)⟩
                · rw [if_neg c13] at H
                  have c13b0 : decide (57 < (bt a0 x14_1)) = false := decide_eq_false c13
                  clear c13
                  by_cases c15 : x14_1 = 1
                  · rw [if_pos c15] at H
                    have c15b0 : (x14_1 == 1) = true := beq_iff_eq.mpr c15
                    have c15b1 : (x14_1 != 1) = false := bne_eq_false_iff_eq.mpr c15
                    clear c15
                    by_cases c16 : 0 < (a0.size : Int)
                    · rw [if_pos c16] at H
                      have c16b0 : decide (0 < (a0.size : Int)) = true := decide_eq_true c16
                      have c16b1 : decide (0 < a0.size) = true := decide_eq_true (by omega)
                      clear c16
                      by_cases c18 : (bt a0 0) = 48
                      · rw [if_pos c18] at H
                        have c18b0 : ((bt a0 0) == 48) = true := beq_iff_eq.mpr c18
                        have c18b1 : ((bt a0 0) != 48) = false := bne_eq_false_iff_eq.mpr c18
                        clear c18
                        simp only [Option.some.injEq, Prod.mk.injEq] at H
                        obtain ⟨rfl, rfl, rfl⟩ := H
                        have p9 : 0 ≤ (x14_1 : Int) := of_decide_eq_true (by first | (with_reducible assumption) | assumption)
                        have q9 : x14_1 < (a0.size : Int) := of_decide_eq_true (by first | (with_reducible assumption) | assumption)
                        have hx9 := bt_at a0 x14_1
                        replace p9 := eq_true p9
                        replace q9 := eq_true q9
                        have p12 : 0 ≤ (x14_1 : Int) := of_decide_eq_true (by first | (with_reducible assumption) | assumption)
                        have q12 : x14_1 < (a0.size : Int) := of_decide_eq_true (by first | (with_reducible assumption) | assumption)
                        have hx12 := bt_at a0 x14_1
                        replace p12 := eq_true p12
                        replace q12 := eq_true q12
                        have p17 : 0 ≤ (0 : Int) := (by omega)
                        have q17 : 0 < a0.size := (by have : (0 : Int) < (a0.size : Int) := of_decide_eq_true (by first | (with_reducible assumption) | assumption); omega)
                        have hx17 : ∀ h : 0 < a0.size, ((a0[0]'h).toNat : Int) = bt a0 0 := bt_at a0 0
                        clear p17
                        have qi17 : (0 < (a0.size : Int)) = True := eq_true (of_decide_eq_true (by first | (with_reducible assumption) | assumption))
                        replace q17 := eq_true q17
                        have hcz19_0 : wr.cell? ⟨gb309, 0, none⟩ = some (.slice none 0 0) := (blk_cell BK309.out 0).trans rfl
                        have hfz19_0 := blk_frozen BK309.out 0
                        go_wp2
                        refine bodyPost_ret (results_ctt rfl _ _ gb309 26 #[.slice none 0 0] (0, 0) _ rfl (by (with_reducible repeat (first | refine blk_drewN ?_ _ | refine blk_drew ?_ | refine blk_alloc ?_ _)); refine blk_put (cs := #[.slice none 0 0]) ?_ 0 _ rfl; (with_reducible repeat (first | refine blk_drewN ?_ _ | refine blk_drew ?_ | refine blk_alloc ?_ _)); exact BK309.out) Tryd.underlying26 rfl (by kernel_rfl)) rfl ?_
                        exact ⟨_, by first | rfl | (simp [errW_none, errW_some] <;> rfl) | (simp [*, errW_none, errW_some] <;> rfl), Kd.R_V (base := w.heap.size) (by first | exact Kd.R_nil _ _ _ _ (fun _ => False) | exact Kd.R_nil _ _ _ _ _ | exact Kd.N_nil _ _ _ _ _ | exact Kd.V_nil _ _ _ _ _ | exact Kd.Q_nil _ _ _ _ _ | exact Kd.S_nil _ _ _ _ _), by repeat (first | (with_reducible first | exact HB.out | apply below_alloc | apply pw_below_drewN | apply below_drew1 | refine below_set ?_ GE309.out) | exact HB.out)⟩
                      · rw [if_neg c18] at H
                        have c18b0 : ((bt a0 0) == 48) = false := beq_eq_false_iff_ne.mpr c18
                        have c18b1 : ((bt a0 0) != 48) = true := bne_iff_ne.mpr c18
                        have H' := Aside0.mk H
                        clear H
                        have p9 : 0 ≤ (x14_1 : Int) := of_decide_eq_true (by first | (with_reducible assumption) | assumption)
                        have q9 : x14_1 < (a0.size : Int) := of_decide_eq_true (by first | (with_reducible assumption) | assumption)
                        have hx9 := bt_at a0 x14_1
                        replace p9 := eq_true p9
                        replace q9 := eq_true q9
                        have p12 : 0 ≤ (x14_1 : Int) := of_decide_eq_true (by first | (with_reducible assumption) | assumption)
                        have q12 : x14_1 < (a0.size : Int) := of_decide_eq_true (by first | (with_reducible assumption) | assumption)
                        have hx12 := bt_at a0 x14_1
                        replace p12 := eq_true p12
                        replace q12 := eq_true q12
                        have p17 : 0 ≤ (0 : Int) := (by omega)
                        have q17 : 0 < a0.size := (by have : (0 : Int) < (a0.size : Int) := of_decide_eq_true (by first | (with_reducible assumption) | assumption); omega)
                        have hx17 : ∀ h : 0 < a0.size, ((a0[0]'h).toNat : Int) = bt a0 0 := bt_at a0 0
                        clear p17
                        have qi17 : (0 < (a0.size : Int)) = True := eq_true (of_decide_eq_true (by first | (with_reducible assumption) | assumption))
                        replace q17 := eq_true q17
                        go_wp2
                        go_roundg k1
                        case measure => have := HK1.out; omega
                        case rel => exact ⟨(wrap64 (x14_1 + 1)), (by first | rfl | (simp; done) | (simp [*]; done) | (simp [i64_w]; done) | (simp [*, i64_w]; done)), H', ⟨by have := HK1.out; omega⟩, ⟨by (with_reducible repeat (first | refine blk_drewN ?_ _ | refine blk_drew ?_ | refine blk_alloc ?_ _)); exact BK309.out⟩, ⟨by repeat (first | (with_reducible first | exact HB.out | apply below_alloc | apply pw_below_drewN | apply below_drew1 | refine below_set ?_ GE309.out) | exact HB.out)⟩⟩
                    · rw [if_neg c16] at H
                      exact absurd H (by simp)
                  · rw [if_neg c15] at H
                    have c15b0 : (x14_1 == 1) = false := beq_eq_false_iff_ne.mpr c15
                    have c15b1 : (x14_1 != 1) = true := bne_iff_ne.mpr c15
                    have H' := Aside0.mk H
                    clear H
                    have p9 : 0 ≤ (x14_1 : Int) := of_decide_eq_true (by first | (with_reducible assumption) | assumption)
                    have q9 : x14_1 < (a0.size : Int) := of_decide_eq_true (by first | (with_reducible assumption) | assumption)
                    have hx9 := bt_at a0 x14_1
                    replace p9 := eq_true p9
                    replace q9 := eq_true q9
                    have p12 : 0 ≤ (x14_1 : Int) := of_decide_eq_true (by first | (with_reducible assumption) | assumption)
                    have q12 : x14_1 < (a0.size : Int) := of_decide_eq_true (by first | (with_reducible assumption) | assumption)
                    have hx12 := bt_at a0 x14_1
                    replace p12 := eq_true p12
                    replace q12 := eq_true q12
                    go_wp2
                    go_roundg k1
                    case measure => have := HK1.out; omega
                    case rel => exact ⟨(wrap64 (x14_1 + 1)), (by first | rfl | (simp; done) | (simp [*]; done) | (simp [i64_w]; done) | (simp [*, i64_w]; done)), H', ⟨by have := HK1.out; omega⟩, ⟨by (with_reducible repeat (first | refine blk_drewN ?_ _ | refine blk_drew ?_ | refine blk_alloc ?_ _)); exact BK309.out⟩, ⟨by repeat (first | (with_reducible first | exact HB.out | apply below_alloc | apply pw_below_drewN | apply below_drew1 | refine below_set ?_ GE309.out) | exact HB.out)⟩⟩
            · rw [if_neg c8] at H
              exact absurd H (by simp)
          · rw [if_neg c7] at H
            exact absurd H (by simp)
        · rw [if_neg c6] at H
          have c6b0 : decide (x14_1 < (a0.size : Int)) = false := decide_eq_false c6
          clear c6
          replace H := Option.bind_eq_some_iff.mp H
          obtain ⟨t311, A200, H⟩ := H
          replace H : (nat_Parse.l1 k1 t311 (t311.length : Int) 0 ([] : List Int)) = some (r1, r2, r3) := H
          have A20 := Aside0.mk A200
          clear A200
          have H' := Aside0.mk H
          clear H
          go_wp2_with (first | ((with_reducible refine gate_dst (N := 6) rfl ?_); refine box_event ?hg (N := 6) ?hd (cs := #[.slice none 0 0]) (t := 26) ?hr ?_; (case hd => rfl); (case hg => rfl); (case hr => first | (go_simp; done) | (go_simp; rfl)); intro gb310 hg w21 hbox hb; have n0_ := Aside0.mk (blk_below (g := gb309) (o := .cells #[.slice none 0 0] 26 (0, 0)) (by (with_reducible repeat (first | refine blk_drewN ?_ _ | refine blk_drew ?_ | refine blk_alloc ?_ _)); exact BK309.out) hb); have n1_ := Aside0.mk (below_step (by repeat (first | (with_reducible first | exact HB.out | apply below_alloc | apply pw_below_drewN | apply below_drew1 | refine below_set ?_ GE309.out) | exact HB.out)) hb); have n2_ := Aside0.mk (hbox); have n3_ := Aside0.mk ((by rw [hg]; exact (below_size (by repeat (first | (with_reducible first | exact HB.out | apply below_alloc | apply pw_below_drewN | apply below_drew1 | refine below_set ?_ GE309.out) | exact HB.out))) : w.heap.size ≤ gb310)); have n4_ := Aside0.mk ((by rw [hg]; exact (below_size (by repeat (first | (with_reducible first | exact HB.out | apply below_alloc | apply pw_below_drewN | apply below_drew1 | refine below_set ?_ GE309.out) | exact HB.out))) : w.heap.size ≤ gb310)); have n5_ := Aside0.mk ((by rw [hg]; exact Nat.ne_of_lt (blk_lt (g := gb309) (o := .cells #[.slice none 0 0] 26 (0, 0)) (by (with_reducible repeat (first | refine blk_drewN ?_ _ | refine blk_drew ?_ | refine blk_alloc ?_ _)); exact BK309.out)) : gb309 ≠ gb310)); have n6_ := Aside0.mk ((by rw [hg]; exact Nat.ne_of_gt (blk_lt (g := gb309) (o := .cells #[.slice none 0 0] 26 (0, 0)) (by (with_reducible repeat (first | refine blk_drewN ?_ _ | refine blk_drew ?_ | refine blk_alloc ?_ _)); exact BK309.out)) : gb310 ≠ gb309)); clear BK309; clear HB; have BK309 := n0_; have HB := n1_; have BK310 := n2_; have GW310 := n3_; have GE310 := n4_; have NB309_310 := n5_; have NB310_309 := n6_; clear n0_ n1_ n2_ n3_ n4_ n5_ n6_; clear hb hbox hg; have hnb22 := NB310_309.out; have hnc22 := NB309_310.out; have hcz23_0 : w21.cell? ⟨gb310, 0, none⟩ = some (.slice none 0 0) := (blk_cell BK310.out 0).trans rfl; have hfz23_0 := blk_frozen BK310.out 0) | ((with_reducible refine gate_ (.convert 9 77 (.tmp 40)) rfl ?_); refine conv_event (s := a0) rfl rfl rfl A20.out ?_; intro v312 w24 ho0 hb; have n0_ := Aside0.mk (Kd.V_lower (Kd.V_mono (ok' := fun k_ => (w.heap.size ≤ k_) ∧ k_ ≠ gb309 ∧ k_ ≠ gb310) (ho0) (fun k_ hk_ => ⟨(Nat.le_trans (below_size (by repeat (first | (with_reducible first | exact HB.out | apply below_alloc | apply pw_below_drewN | apply below_drew1 | refine below_set ?_ GE309.out | refine below_set ?_ GE310.out) | exact HB.out))) hk_.2.1), (Kd.freshB (g := gb309) (o := .cells #[.slice none 0 0] 26 (0, 0)) (by (with_reducible repeat (first | refine blk_drewN ?_ _ | refine blk_drew ?_ | refine blk_alloc ?_ _)); refine blk_far ?_ NB309_310.out _; (with_reducible repeat (first | refine blk_drewN ?_ _ | refine blk_drew ?_ | refine blk_alloc ?_ _)); exact BK309.out) k_ hk_.2.1), (Kd.freshB (g := gb310) (o := .cells #[.slice none 0 0] 26 (0, 0)) (by (with_reducible repeat (first | refine blk_drewN ?_ _ | refine blk_drew ?_ | refine blk_alloc ?_ _)); refine blk_put (cs := #[.slice none 0 0]) ?_ 0 _ rfl; (with_reducible repeat (first | refine blk_drewN ?_ _ | refine blk_drew ?_ | refine blk_alloc ?_ _)); exact BK310.out) k_ hk_.2.1)⟩)) (below_size (by repeat (first | (with_reducible first | exact HB.out | apply below_alloc | apply pw_below_drewN | apply below_drew1 | refine below_set ?_ GE309.out | refine below_set ?_ GE310.out) | exact HB.out)))); have n1_ := Aside0.mk (blk_below (g := gb309) (o := .cells #[.slice none 0 0] 26 (0, 0)) (by (with_reducible repeat (first | refine blk_drewN ?_ _ | refine blk_drew ?_ | refine blk_alloc ?_ _)); refine blk_far ?_ NB309_310.out _; (with_reducible repeat (first | refine blk_drewN ?_ _ | refine blk_drew ?_ | refine blk_alloc ?_ _)); exact BK309.out) hb); have n2_ := Aside0.mk (blk_below (g := gb310) (o := .cells #[.slice none 0 0] 26 (0, 0)) (by (with_reducible repeat (first | refine blk_drewN ?_ _ | refine blk_drew ?_ | refine blk_alloc ?_ _)); refine blk_put (cs := #[.slice none 0 0]) ?_ 0 _ rfl; (with_reducible repeat (first | refine blk_drewN ?_ _ | refine blk_drew ?_ | refine blk_alloc ?_ _)); exact BK310.out) hb); have n3_ := Aside0.mk (below_step (by repeat (first | (with_reducible first | exact HB.out | apply below_alloc | apply pw_below_drewN | apply below_drew1 | refine below_set ?_ GE309.out | refine below_set ?_ GE310.out) | exact HB.out)) hb); clear BK309; clear BK310; clear HB; have HO313 := n0_; have BK309 := n1_; have BK310 := n2_; have HB := n3_; clear n0_ n1_ n2_ n3_; (try clear hb); (try clear hb2); (try clear hk); (try clear hi); (try clear ho0); obtain ⟨Ao25, co25, eo25⟩ := Kd.V_slice HO313.out; subst eo25))
          go_loopg [43] k1 (fun kq v43 w' => ∃ (x43_2 : Int) (x311000_2 : List Int) (u311000 : Value), v43 = .int .i64 x43_2 ∧ Aside0 (nat_Parse.l1 kq t311 (t311.length : Int) x43_2 x311000_2 = some (r1, r2, r3)) ∧ Aside0 (kq ≤ k1) ∧ Aside0 (Kd.V (Kd.int .u8) 5 w' w.heap.size (fun k_ => (w.heap.size ≤ k_) ∧ k_ ≠ gb309 ∧ k_ ≠ gb310) (.slice Ao25 t311.length co25) t311) ∧ Aside0 (Kd.V (Kd.int .u32) 79 w' w.heap.size (fun k_ => (w.heap.size ≤ k_) ∧ k_ ≠ gb309 ∧ k_ ≠ gb310) u311000 x311000_2) ∧ Aside0 (w'.heap[gb309]? = some (.cells #[(.slice none 0 0)] 26 (0, 0))) ∧ Aside0 (w'.heap[gb310]? = some (.cells #[u311000] 26 (0, 0))) ∧ Aside0 (Below w.heap.size w w'))
          case atStart => exact ⟨(0), (([] : List Int)), (.slice none 0 0), (by first | rfl | (simp; done) | (simp [*]; done) | (simp [i64_w]; done) | (simp [*, i64_w]; done)), H', ⟨Nat.le_refl _⟩, ⟨by (with_reducible repeat (first | apply Kd.V_alloc | apply Kd.V_drewN | apply Kd.V_drew)); exact HO313.out⟩, ⟨Kd.R_V (base := w.heap.size) (by first | exact Kd.R_nil _ _ _ _ (fun _ => False) | exact Kd.R_nil _ _ _ _ _ | exact Kd.N_nil _ _ _ _ _ | exact Kd.V_nil _ _ _ _ _ | exact Kd.Q_nil _ _ _ _ _ | exact Kd.S_nil _ _ _ _ _)⟩, ⟨by (with_reducible repeat (first | refine blk_drewN ?_ _ | refine blk_drew ?_ | refine blk_alloc ?_ _)); exact BK309.out⟩, ⟨by (with_reducible repeat (first | refine blk_drewN ?_ _ | refine blk_drew ?_ | refine blk_alloc ?_ _)); exact BK310.out⟩, ⟨by repeat (first | (with_reducible first | exact HB.out | apply below_alloc | apply pw_below_drewN | apply below_drew1 | refine below_set ?_ GE309.out | refine below_set ?_ GE310.out) | exact HB.out)⟩⟩
          case round =>
            clear H'
            try clear c1
            try clear p1
            try clear q1
            try clear hx1
            try clear qi1
            try clear c2
            try clear c2b0
            try clear c2b1
            try clear p2
            try clear c6
            try clear c6b0
            try clear p6
            try clear c7
            try clear c7b0
            try clear c8
            try clear c8b0
            try clear c9
            try clear p9
            try clear q9
            try clear hx9
            try clear c10
            try clear c10b0
            try clear p12
            try clear q12
            try clear hx12
            try clear c13
            try clear c13b0
            try clear c15
            try clear c15b0
            try clear c15b1
            try clear c16
            try clear c16b0
            try clear c16b1
            try clear p17
            try clear q17
            try clear hx17
            try clear qi17
            try clear c18
            try clear c18b0
            try clear c18b1
            try clear c22
            try clear hcz11_0
            try clear hcz14_0
            try clear hcz19_0
            try clear hcz23_0
            try clear hcz4_0
            try clear hfz11_0
            try clear hfz14_0
            try clear hfz19_0
            try clear hfz23_0
            try clear hfz4_0
            try clear p12
            try clear p17
            try clear p2
            try clear p9
            try clear q12
            try clear q17
            try clear q9
            obtain ⟨x43_2, x311000_2, u311000, rfl, HA, HK2, HO_41, HO_311000, BK309, BK310, HB⟩ := hrel
            cases gk with
            | zero => exact absurd HA.out (by simp [nat_Parse.l1])
            | succ k2 =>
              have H := HA.out
              clear HA
              simp only [nat_Parse.l1] at H
              by_cases c26 : x43_2 < (t311.length : Int)
              · rw [if_pos c26] at H
                have c26b0 : decide (x43_2 < (t311.length : Int)) = true := decide_eq_true c26
                clear c26
                by_cases c27 : 0 ≤ x43_2
                · rw [if_pos c27] at H
                  have c27b0 : decide (0 ≤ x43_2) = true := decide_eq_true c27
                  clear c27
                  by_cases c28 : x43_2 < (t311.length : Int)
                  · rw [if_pos c28] at H
                    have c28b0 : decide (x43_2 < (t311.length : Int)) = true := decide_eq_true c28
                    clear c28
                    replace H := Option.bind_eq_some_iff.mp H
                    obtain ⟨t315, A290, H⟩ := H
                    replace H : ((nat_Nat_Bits.f t315).bind fun t318 => (if t318 > 65536 then (some (([] : List Int), 0, 41)) else (nat_Parse.l1 k2 t311 (t311.length : Int) (wrap64 (x43_2 + 1)) t315))) = some (r1, r2, r3) := H
                    have A29 := Aside0.mk A290
                    clear A290
                    replace H := Option.bind_eq_some_iff.mp H
                    obtain ⟨t318, A300, H⟩ := H
                    replace H : (if t318 > 65536 then (some (([] : List Int), 0, 41)) else (nat_Parse.l1 k2 t311 (t311.length : Int) (wrap64 (x43_2 + 1)) t315)) = some (r1, r2, r3) := H
                    have A30 := Aside0.mk A300
                    clear A300
                    by_cases c31 : t318 > 65536
                    · rw [if_pos c31] at H
                      have c31b0 : decide (65536 < t318) = true := decide_eq_true c31
                      clear c31
                      simp only [Option.some.injEq, Prod.mk.injEq] at H
                      obtain ⟨rfl, rfl, rfl⟩ := H
                      have p314 : 0 ≤ (x43_2 : Int) := of_decide_eq_true (by first | (with_reducible assumption) | assumption)
                      have q314 : x43_2 < (t311.length : Int) := of_decide_eq_true (by first | (with_reducible assumption) | assumption)
                      obtain ⟨ad314, e314, hx314_0⟩ := Kd.at_int (Kd.V_reads' HO_41.out).2.2 x43_2 p314 q314
                      cases e314
                      replace p314 := eq_true p314
                      replace q314 := eq_true q314
                      have hnb32 := NB310_309.out
                      have hnc32 := NB309_310.out
                      have hcz33_0 : wr.cell? ⟨gb310, 0, none⟩ = some (u311000) := (blk_cell BK310.out 0).trans rfl
                      have hfz33_0 := blk_frozen BK310.out 0
                      obtain ⟨Ao34, co34, eo34⟩ := Kd.V_slice HO_311000.out
                      subst eo34
                      go_wp2_with (first | ((with_reducible refine gate_callee (f := 49) rfl ?_); refine goesL_ (some 51) rfl rfl Tryd.func49 (by kernel_rfl) rfl #[.agg #[.slice Ao34 x311000_2.length co34], .int .u32 10, .int .u32 (((rd t311 x43_2) - 48) % 256)] rfl (by (try simp only [List.map_toArray, List.map_cons, List.map_nil]); first | done | rfl | (simp only [List.length_drop, List.length_take]; rfl)) ?_; (with_reducible refine (nat_Nat_times.calls k2 _ _ x311000_2 10 (((rd t311 x43_2) - 48) % 256) t315 _ ?side1 ?side2 A29.out).mono ?_); (case side1 => repeat (first | exact (Kd.V_reads' HO_311000.out).2.2 | (with_reducible refine Kd.C_alloc ?_ _) | (with_reducible refine Kd.C_drewN ?_ _) | (with_reducible refine Kd.C_drew ?_))); (case side2 => exact (Kd.V_reads' HO_311000.out).2.1); rintro e w35 ⟨v316, rfl, ho0, hb⟩; refine ⟨_, rfl, ?_⟩; have n0_ := Aside0.mk (Kd.V_below (by (with_reducible repeat (first | apply Kd.V_alloc | apply Kd.V_drewN | apply Kd.V_drew)); exact HO_41.out) hb); have n1_ := Aside0.mk (Kd.V_below (by (with_reducible repeat (first | apply Kd.V_alloc | apply Kd.V_drewN | apply Kd.V_drew)); exact HO_311000.out) hb); have n2_ := Aside0.mk (Kd.V_lower (Kd.V_mono (ok' := fun k_ => (w.heap.size ≤ k_) ∧ k_ ≠ gb309 ∧ k_ ≠ gb310) ho0 (fun k_ hk_ => ⟨(Nat.le_trans (below_size (by repeat (first | (with_reducible first | exact HB.out | apply below_alloc | apply pw_below_drewN | apply below_drew1 | refine below_set ?_ GE309.out | refine below_set ?_ GE310.out) | exact HB.out))) hk_), (Kd.freshB (g := gb309) (o := .cells #[.slice none 0 0] 26 (0, 0)) (by (with_reducible repeat (first | refine blk_drewN ?_ _ | refine blk_drew ?_ | refine blk_alloc ?_ _)); exact BK309.out) k_ hk_), (Kd.freshB (g := gb310) (o := .cells #[.slice Ao34 x311000_2.length co34] 26 (0, 0)) (by (with_reducible repeat (first | refine blk_drewN ?_ _ | refine blk_drew ?_ | refine blk_alloc ?_ _)); exact BK310.out) k_ hk_)⟩)) (below_size (by repeat (first | (with_reducible first | exact HB.out | apply below_alloc | apply pw_below_drewN | apply below_drew1 | refine below_set ?_ GE309.out | refine below_set ?_ GE310.out) | exact HB.out)))); have n3_ := Aside0.mk (blk_below (g := gb309) (o := .cells #[.slice none 0 0] 26 (0, 0)) (by (with_reducible repeat (first | refine blk_drewN ?_ _ | refine blk_drew ?_ | refine blk_alloc ?_ _)); exact BK309.out) hb); have n4_ := Aside0.mk (blk_below (g := gb310) (o := .cells #[.slice Ao34 x311000_2.length co34] 26 (0, 0)) (by (with_reducible repeat (first | refine blk_drewN ?_ _ | refine blk_drew ?_ | refine blk_alloc ?_ _)); exact BK310.out) hb); have n5_ := Aside0.mk (below_step (by repeat (first | (with_reducible first | exact HB.out | apply below_alloc | apply pw_below_drewN | apply below_drew1 | refine below_set ?_ GE309.out | refine below_set ?_ GE310.out) | exact HB.out)) hb); clear HO_41; clear HO_311000; clear BK309; clear BK310; clear HB; have HO_41 := n0_; have HO_311000 := n1_; have HO317 := n2_; have BK309 := n3_; have BK310 := n4_; have HB := n5_; clear n0_ n1_ n2_ n3_ n4_ n5_; (try clear hb); (try clear hb2); (try clear hk); (try clear hi); (try clear ho0); obtain ⟨Ao36, co36, eo36⟩ := Kd.V_slice HO317.out; subst eo36; have hcz37_0 : w35.cell? ⟨gb310, 0, none⟩ = some (.slice Ao34 x311000_2.length co34) := (blk_cell BK310.out 0).trans rfl; have hfz37_0 := blk_frozen BK310.out 0) | ((with_reducible refine gate_callee (f := 25) rfl ?_); refine goesL_ (some 53) rfl rfl Tryd.func25 (by kernel_rfl) rfl #[.agg #[.slice Ao36 t315.length co36]] rfl (by (try simp only [List.map_toArray, List.map_cons, List.map_nil]); first | done | rfl | (simp only [List.length_drop, List.length_take]; rfl)) ?_; (with_reducible refine (nat_Nat_Bits.calls _ _ t315 t318 _ ?side1 ?side2 A30.out).mono ?_); (case side1 => refine (Kd.V_reads' (e := 79) (base := w.heap.size) (ok := fun k_ => ((w.heap.size ≤ k_) ∧ (k_ ≠ gb309 ∧ k_ ≠ gb310))) (n := t315.length) (c := co36) ?_).2.2; exact (by (with_reducible repeat (first | apply Kd.V_alloc | apply Kd.V_drewN | apply Kd.V_drew)); exact (Kd.V_mono (Kd.V_far (p := ⟨gb310, 0, none⟩) (Kd.V_mono HO317.out (fun k_ hk => (⟨hk, hk.2.2⟩ : _ ∧ k_ ≠ gb310))) (fun _ hk => hk.2) (.slice Ao36 t315.length co36)) (fun _ h_ => h_.1)))); (case side2 => exact (Kd.V_reads' HO317.out).2.1); rintro e w38 ⟨rfl, hb⟩; refine ⟨_, rfl, ?_⟩; have n0_ := Aside0.mk (Kd.V_below (by (with_reducible repeat (first | apply Kd.V_alloc | apply Kd.V_drewN | apply Kd.V_drew)); exact (Kd.V_mono (Kd.V_far (p := ⟨gb310, 0, none⟩) (Kd.V_mono HO_41.out (fun k_ hk => (⟨hk, hk.2.2⟩ : _ ∧ k_ ≠ gb310))) (fun _ hk => hk.2) (.slice Ao36 t315.length co36)) (fun _ h_ => h_.1))) hb); have n1_ := Aside0.mk (Kd.V_below (by (with_reducible repeat (first | apply Kd.V_alloc | apply Kd.V_drewN | apply Kd.V_drew)); exact (Kd.V_mono (Kd.V_far (p := ⟨gb310, 0, none⟩) (Kd.V_mono HO_311000.out (fun k_ hk => (⟨hk, hk.2.2⟩ : _ ∧ k_ ≠ gb310))) (fun _ hk => hk.2) (.slice Ao36 t315.length co36)) (fun _ h_ => h_.1))) hb); have n2_ := Aside0.mk (Kd.V_below (by (with_reducible repeat (first | apply Kd.V_alloc | apply Kd.V_drewN | apply Kd.V_drew)); exact (Kd.V_mono (Kd.V_far (p := ⟨gb310, 0, none⟩) (Kd.V_mono HO317.out (fun k_ hk => (⟨hk, hk.2.2⟩ : _ ∧ k_ ≠ gb310))) (fun _ hk => hk.2) (.slice Ao36 t315.length co36)) (fun _ h_ => h_.1))) hb); have n3_ := Aside0.mk (blk_below (g := gb309) (o := .cells #[.slice none 0 0] 26 (0, 0)) (by (with_reducible repeat (first | refine blk_drewN ?_ _ | refine blk_drew ?_ | refine blk_alloc ?_ _)); refine blk_far ?_ NB309_310.out _; (with_reducible repeat (first | refine blk_drewN ?_ _ | refine blk_drew ?_ | refine blk_alloc ?_ _)); exact BK309.out) hb); have n4_ := Aside0.mk (blk_below (g := gb310) (o := .cells #[.slice Ao36 t315.length co36] 26 (0, 0)) (by (with_reducible repeat (first | refine blk_drewN ?_ _ | refine blk_drew ?_ | refine blk_alloc ?_ _)); refine blk_put (cs := #[.slice Ao34 x311000_2.length co34]) ?_ 0 _ rfl; (with_reducible repeat (first | refine blk_drewN ?_ _ | refine blk_drew ?_ | refine blk_alloc ?_ _)); exact BK310.out) hb); have n5_ := Aside0.mk (below_step (by repeat (first | (with_reducible first | exact HB.out | apply below_alloc | apply pw_below_drewN | apply below_drew1 | refine below_set ?_ GE309.out | refine below_set ?_ GE310.out) | exact HB.out)) hb); clear HO_41; clear HO_311000; clear HO317; clear BK309; clear BK310; clear HB; have HO_41 := n0_; have HO_311000 := n1_; have HO317 := n2_; have BK309 := n3_; have BK310 := n4_; have HB := n5_; clear n0_ n1_ n2_ n3_ n4_ n5_; (try clear hb); (try clear hb2); (try clear hk); (try clear hi); have hcz39_0 : w38.cell? ⟨gb309, 0, none⟩ = some (.slice none 0 0) := (blk_cell BK309.out 0).trans rfl; have hfz39_0 := blk_frozen BK309.out 0))
                      refine bodyPost_ret (results_ctt rfl _ _ gb309 26 #[.slice none 0 0] (0, 0) _ rfl (by (with_reducible repeat (first | refine blk_drewN ?_ _ | refine blk_drew ?_ | refine blk_alloc ?_ _)); refine blk_put (cs := #[.slice none 0 0]) ?_ 0 _ rfl; (with_reducible repeat (first | refine blk_drewN ?_ _ | refine blk_drew ?_ | refine blk_alloc ?_ _)); exact BK309.out) Tryd.underlying26 rfl (by kernel_rfl)) rfl ?_
                      exact ⟨_, by first | rfl | (simp [errW_none, errW_some] <;> rfl) | (simp [*, errW_none, errW_some] <;> rfl), Kd.R_V (base := w.heap.size) (by first | exact Kd.R_nil _ _ _ _ (fun _ => False) | exact Kd.R_nil _ _ _ _ _ | exact Kd.N_nil _ _ _ _ _ | exact Kd.V_nil _ _ _ _ _ | exact Kd.Q_nil _ _ _ _ _ | exact Kd.S_nil _ _ _ _ _), by repeat (first | (with_reducible first | exact HB.out | apply below_alloc | apply pw_below_drewN | apply below_drew1 | refine below_set ?_ GE309.out | refine below_set ?_ GE310.out) | exact HB.out)⟩
                    · rw [if_neg c31] at H
                      have c31b0 : decide (65536 < t318) = false := decide_eq_false c31
                      clear c31
                      have H' := Aside0.mk H
                      clear H
                      have p314 : 0 ≤ (x43_2 : Int) := of_decide_eq_true (by first | (with_reducible assumption) | assumption)
                      have q314 : x43_2 < (t311.length : Int) := of_decide_eq_true (by first | (with_reducible assumption) | assumption)
                      obtain ⟨ad314, e314, hx314_0⟩ := Kd.at_int (Kd.V_reads' HO_41.out).2.2 x43_2 p314 q314
                      cases e314
                      replace p314 := eq_true p314
                      replace q314 := eq_true q314
                      have hnb40 := NB310_309.out
                      have hnc40 := NB309_310.out
                      have hcz41_0 : wr.cell? ⟨gb310, 0, none⟩ = some (u311000) := (blk_cell BK310.out 0).trans rfl
                      have hfz41_0 := blk_frozen BK310.out 0
                      obtain ⟨Ao42, co42, eo42⟩ := Kd.V_slice HO_311000.out
                      subst eo42
                      go_wp2_with (first | ((with_reducible refine gate_callee (f := 49) rfl ?_); refine goesL_ (some 51) rfl rfl Tryd.func49 (by kernel_rfl) rfl #[.agg #[.slice Ao42 x311000_2.length co42], .int .u32 10, .int .u32 (((rd t311 x43_2) - 48) % 256)] rfl (by (try simp only [List.map_toArray, List.map_cons, List.map_nil]); first | done | rfl | (simp only [List.length_drop, List.length_take]; rfl)) ?_; (with_reducible refine (nat_Nat_times.calls k2 _ _ x311000_2 10 (((rd t311 x43_2) - 48) % 256) t315 _ ?side1 ?side2 A29.out).mono ?_); (case side1 => repeat (first | exact (Kd.V_reads' HO_311000.out).2.2 | (with_reducible refine Kd.C_alloc ?_ _) | (with_reducible refine Kd.C_drewN ?_ _) | (with_reducible refine Kd.C_drew ?_))); (case side2 => exact (Kd.V_reads' HO_311000.out).2.1); rintro e w43 ⟨v316, rfl, ho0, hb⟩; refine ⟨_, rfl, ?_⟩; have n0_ := Aside0.mk (Kd.V_below (by (with_reducible repeat (first | apply Kd.V_alloc | apply Kd.V_drewN | apply Kd.V_drew)); exact HO_41.out) hb); have n1_ := Aside0.mk (Kd.V_below (by (with_reducible repeat (first | apply Kd.V_alloc | apply Kd.V_drewN | apply Kd.V_drew)); exact HO_311000.out) hb); have n2_ := Aside0.mk (Kd.V_lower (Kd.V_mono (ok' := fun k_ => (w.heap.size ≤ k_) ∧ k_ ≠ gb309 ∧ k_ ≠ gb310) ho0 (fun k_ hk_ => ⟨(Nat.le_trans (below_size (by repeat (first | (with_reducible first | exact HB.out | apply below_alloc | apply pw_below_drewN | apply below_drew1 | refine below_set ?_ GE309.out | refine below_set ?_ GE310.out) | exact HB.out))) hk_), (Kd.freshB (g := gb309) (o := .cells #[.slice none 0 0] 26 (0, 0)) (by (with_reducible repeat (first | refine blk_drewN ?_ _ | refine blk_drew ?_ | refine blk_alloc ?_ _)); exact BK309.out) k_ hk_), (Kd.freshB (g := gb310) (o := .cells #[.slice Ao42 x311000_2.length co42] 26 (0, 0)) (by (with_reducible repeat (first | refine blk_drewN ?_ _ | refine blk_drew ?_ | refine blk_alloc ?_ _)); exact BK310.out) k_ hk_)⟩)) (below_size (by repeat (first | (with_reducible first | exact HB.out | apply below_alloc | apply pw_below_drewN | apply below_drew1 | refine below_set ?_ GE309.out | refine below_set ?_ GE310.out) | exact HB.out)))); have n3_ := Aside0.mk (blk_below (g := gb309) (o := .cells #[.slice none 0 0] 26 (0, 0)) (by (with_reducible repeat (first | refine blk_drewN ?_ _ | refine blk_drew ?_ | refine blk_alloc ?_ _)); exact BK309.out) hb); have n4_ := Aside0.mk (blk_below (g := gb310) (o := .cells #[.slice Ao42 x311000_2.length co42] 26 (0, 0)) (by (with_reducible repeat (first | refine blk_drewN ?_ _ | refine blk_drew ?_ | refine blk_alloc ?_ _)); exact BK310.out) hb); have n5_ := Aside0.mk (below_step (by repeat (first | (with_reducible first | exact HB.out | apply below_alloc | apply pw_below_drewN | apply below_drew1 | refine below_set ?_ GE309.out | refine below_set ?_ GE310.out) | exact HB.out)) hb); clear HO_41; clear HO_311000; clear BK309; clear BK310; clear HB; have HO_41 := n0_; have HO_311000 := n1_; have HO317 := n2_; have BK309 := n3_; have BK310 := n4_; have HB := n5_; clear n0_ n1_ n2_ n3_ n4_ n5_; (try clear hb); (try clear hb2); (try clear hk); (try clear hi); (try clear ho0); obtain ⟨Ao44, co44, eo44⟩ := Kd.V_slice HO317.out; subst eo44; have hcz45_0 : w43.cell? ⟨gb310, 0, none⟩ = some (.slice Ao42 x311000_2.length co42) := (blk_cell BK310.out 0).trans rfl; have hfz45_0 := blk_frozen BK310.out 0) | ((with_reducible refine gate_callee (f := 25) rfl ?_); refine goesL_ (some 53) rfl rfl Tryd.func25 (by kernel_rfl) rfl #[.agg #[.slice Ao44 t315.length co44]] rfl (by (try simp only [List.map_toArray, List.map_cons, List.map_nil]); first | done | rfl | (simp only [List.length_drop, List.length_take]; rfl)) ?_; (with_reducible refine (nat_Nat_Bits.calls _ _ t315 t318 _ ?side1 ?side2 A30.out).mono ?_); (case side1 => refine (Kd.V_reads' (e := 79) (base := w.heap.size) (ok := fun k_ => ((w.heap.size ≤ k_) ∧ (k_ ≠ gb309 ∧ k_ ≠ gb310))) (n := t315.length) (c := co44) ?_).2.2; exact (by (with_reducible repeat (first | apply Kd.V_alloc | apply Kd.V_drewN | apply Kd.V_drew)); exact (Kd.V_mono (Kd.V_far (p := ⟨gb310, 0, none⟩) (Kd.V_mono HO317.out (fun k_ hk => (⟨hk, hk.2.2⟩ : _ ∧ k_ ≠ gb310))) (fun _ hk => hk.2) (.slice Ao44 t315.length co44)) (fun _ h_ => h_.1)))); (case side2 => exact (Kd.V_reads' HO317.out).2.1); rintro e w46 ⟨rfl, hb⟩; refine ⟨_, rfl, ?_⟩; have n0_ := Aside0.mk (Kd.V_below (by (with_reducible repeat (first | apply Kd.V_alloc | apply Kd.V_drewN | apply Kd.V_drew)); exact (Kd.V_mono (Kd.V_far (p := ⟨gb310, 0, none⟩) (Kd.V_mono HO_41.out (fun k_ hk => (⟨hk, hk.2.2⟩ : _ ∧ k_ ≠ gb310))) (fun _ hk => hk.2) (.slice Ao44 t315.length co44)) (fun _ h_ => h_.1))) hb); have n1_ := Aside0.mk (Kd.V_below (by (with_reducible repeat (first | apply Kd.V_alloc | apply Kd.V_drewN | apply Kd.V_drew)); exact (Kd.V_mono (Kd.V_far (p := ⟨gb310, 0, none⟩) (Kd.V_mono HO_311000.out (fun k_ hk => (⟨hk, hk.2.2⟩ : _ ∧ k_ ≠ gb310))) (fun _ hk => hk.2) (.slice Ao44 t315.length co44)) (fun _ h_ => h_.1))) hb); have n2_ := Aside0.mk (Kd.V_below (by (with_reducible repeat (first | apply Kd.V_alloc | apply Kd.V_drewN | apply Kd.V_drew)); exact (Kd.V_mono (Kd.V_far (p := ⟨gb310, 0, none⟩) (Kd.V_mono HO317.out (fun k_ hk => (⟨hk, hk.2.2⟩ : _ ∧ k_ ≠ gb310))) (fun _ hk => hk.2) (.slice Ao44 t315.length co44)) (fun _ h_ => h_.1))) hb); have n3_ := Aside0.mk (blk_below (g := gb309) (o := .cells #[.slice none 0 0] 26 (0, 0)) (by (with_reducible repeat (first | refine blk_drewN ?_ _ | refine blk_drew ?_ | refine blk_alloc ?_ _)); refine blk_far ?_ NB309_310.out _; (with_reducible repeat (first | refine blk_drewN ?_ _ | refine blk_drew ?_ | refine blk_alloc ?_ _)); exact BK309.out) hb); have n4_ := Aside0.mk (blk_below (g := gb310) (o := .cells #[.slice Ao44 t315.length co44] 26 (0, 0)) (by (with_reducible repeat (first | refine blk_drewN ?_ _ | refine blk_drew ?_ | refine blk_alloc ?_ _)); refine blk_put (cs := #[.slice Ao42 x311000_2.length co42]) ?_ 0 _ rfl; (with_reducible repeat (first | refine blk_drewN ?_ _ | refine blk_drew ?_ | refine blk_alloc ?_ _)); exact BK310.out) hb); have n5_ := Aside0.mk (below_step (by repeat (first | (with_reducible first | exact HB.out | apply below_alloc | apply pw_below_drewN | apply below_drew1 | refine below_set ?_ GE309.out | refine below_set ?_ GE310.out) | exact HB.out)) hb); clear HO_41; clear HO_311000; clear HO317; clear BK309; clear BK310; clear HB; have HO_41 := n0_; have HO_311000 := n1_; have HO317 := n2_; have BK309 := n3_; have BK310 := n4_; have HB := n5_; clear n0_ n1_ n2_ n3_ n4_ n5_; (try clear hb); (try clear hb2); (try clear hk); (try clear hi)))
                      go_roundg k2
                      case measure => have := HK1.out; have := HK2.out; omega
                      case rel => exact ⟨(wrap64 (x43_2 + 1)), (t315), (.slice Ao44 t315.length co44), (by first | rfl | (simp; done) | (simp [*]; done) | (simp [i64_w]; done) | (simp [*, i64_w]; done)), H', ⟨by have := HK1.out; have := HK2.out; omega⟩, ⟨by (with_reducible repeat (first | apply Kd.V_alloc | apply Kd.V_drewN | apply Kd.V_drew)); exact HO_41.out⟩, ⟨by (with_reducible repeat (first | apply Kd.V_alloc | apply Kd.V_drewN | apply Kd.V_drew)); exact HO317.out⟩, ⟨by (with_reducible repeat (first | refine blk_drewN ?_ _ | refine blk_drew ?_ | refine blk_alloc ?_ _)); exact BK309.out⟩, ⟨by (with_reducible repeat (first | refine blk_drewN ?_ _ | refine blk_drew ?_ | refine blk_alloc ?_ _)); exact BK310.out⟩, ⟨by repeat (first | (with_reducible first | exact HB.out | apply below_alloc | apply pw_below_drewN | apply below_drew1 | refine below_set ?_ GE309.out | refine below_set ?_ GE310.out) | exact HB.out)⟩⟩
                  · rw [if_neg c28] at H
                    exact absurd H (by simp)
                · rw [if_neg c27] at H
                  exact absurd H (by simp)
              · rw [if_neg c26] at H
                have c26b0 : decide (x43_2 < (t311.length : Int)) = false := decide_eq_false c26
                clear c26
                simp only [Option.some.injEq, Prod.mk.injEq] at H
                obtain ⟨rfl, rfl, rfl⟩ := H
                have hnb47 := NB310_309.out
                have hnc47 := NB309_310.out
                have hcz48_0 : wr.cell? ⟨gb310, 0, none⟩ = some (u311000) := (blk_cell BK310.out 0).trans rfl
                have hfz48_0 := blk_frozen BK310.out 0
                obtain ⟨Ao49, co49, eo49⟩ := Kd.V_slice HO_311000.out
                subst eo49
                have hcz50_0 : wr.cell? ⟨gb309, 0, none⟩ = some (.slice none 0 0) := (blk_cell BK309.out 0).trans rfl
                have hfz50_0 := blk_frozen BK309.out 0
                go_wp2
                refine bodyPost_ret (results_ctt rfl _ _ gb309 26 #[.slice Ao49 x311000_2.length co49] (0, 0) _ rfl (by (with_reducible repeat (first | refine blk_drewN ?_ _ | refine blk_drew ?_ | refine blk_alloc ?_ _)); refine blk_put (cs := #[.slice none 0 0]) ?_ 0 _ rfl; (with_reducible repeat (first | refine blk_drewN ?_ _ | refine blk_drew ?_ | refine blk_alloc ?_ _)); exact BK309.out) Tryd.underlying26 rfl (by kernel_rfl)) rfl ?_
                exact ⟨_, by first | rfl | (simp [errW_none, errW_some] <;> rfl) | (simp [*, errW_none, errW_some] <;> rfl), by (with_reducible repeat (first | apply Kd.V_alloc | apply Kd.V_drewN | apply Kd.V_drew)); exact Kd.V_mono (Kd.V_far (p := ⟨gb309, 0, none⟩) (Kd.V_mono HO_311000.out (fun k_ hk => (⟨hk, hk.2.1⟩ : _ ∧ k_ ≠ gb309))) (fun _ hk => hk.2) (.slice Ao49 x311000_2.length co49)) (fun _ hk => hk.1.1), by repeat (first | (with_reducible first | exact HB.out | apply below_alloc | apply pw_below_drewN | apply below_drew1 | refine below_set ?_ GE309.out | refine below_set ?_ GE310.out) | exact HB.out)⟩
end Go.Proofs.YtgcngbmkgjphpaaDoor.PAll
end

section
namespace Go.Proofs.YtgcngbmkgjphpaaDoor.PAll
open Go.RowKit Go.Proofs.YtgcngbmkgjphpaaDoorW.PrintWords Go.Proofs.YtgcngbmkgjphpaaDoorW.PrintLast Go.Proofs.YtgcngbmkgjphpaaDoorW.PrintMore
attribute [local go_sem] max2_int min2_int max_two min_two max_three min_three max_four min_four   -- for this text's walks alone
set_option linter.unusedVariables false
set_option linter.unusedSimpArgs false
mutual
def heraldref04_Add.l0 : Nat → List Int → List Int → List Int → Int → Int → Option (List Int)
  | 0, _, _, _, _, _ => none
  | k + 1, x0, x1, x5, x6, x7 => if x7 < (x0.length : Int) then (heraldref04_Add.j1 k x0 x1 x5 x6 x7 true) else (if x7 < (x1.length : Int) then (heraldref04_Add.j1 k x0 x1 x5 x6 x7 true) else (heraldref04_Add.j1 k x0 x1 x5 x6 x7 (decide (x6 > 0))))
def heraldref04_Add.j1 : Nat → List Int → List Int → List Int → Int → Int → Bool → Option (List Int)
  | 0, _, _, _, _, _, _ => none
  | k + 1, x0, x1, x5, x6, x7, x23 => if x23 = true then ((heraldref04_at.f x0 x7).bind fun t322 => ((heraldref04_at.f x1 x7).bind fun t323 => (if x5.length < 17592186044416 then (heraldref04_Add.l0 k x0 x1 (x5 ++ [Int.tmod (wrap64 ((wrap64 (t322 + t323)) + x6)) 65536]) (wrap64 (Int.tdiv (wrap64 ((wrap64 (t322 + t323)) + x6)) 65536)) (wrap64 (x7 + 1))) else (none)))) else (some x5)
end
def heraldref04_Add.f (k : Nat) (l0 : List Int) (l1 : List Int) : Option (List Int) := heraldref04_Add.l0 k l0 l1 (([] : List Int)) 0 0
set_option maxHeartbeats 8000000 in
set_option maxRecDepth 100000 in
theorem heraldref04_Add.calls (k : Nat) (A0 : Option Addr) (c0 : Nat) (l0 : List Int) (A1 : Option Addr) (c1 : Nat) (l1 : List Int) (r : List Int) (w : World) (hr0 : Kd.C (Kd.int .i64) w A0 l0.length l0) (hc0 : l0.length ≤ c0) (hr1 : Kd.C (Kd.int .i64) w A1 l1.length l1) (hc1 : l1.length ≤ c1) (h : heraldref04_Add.f k l0 l1 = some r) :
    Calls Tryd.prog 41 #[.slice A0 l0.length c0, .slice A1 l1.length c1] w fun e w' => ∃ v0_ : Value, e = .returned (v0_) ∧ Kd.R (Kd.int .i64) 3 w' w.heap.size (fun _ => True) v0_ r ∧ Below w.heap.size w w' := by
  have HR0 := Aside0.mk hr0
  have HC0 := Aside0.mk hc0
  clear hr0 hc0
  have HR1 := Aside0.mk hr1
  have HC1 := Aside0.mk hc1
  clear hr1 hc1
  have HB := Aside0.mk (Below.refl w.heap.size w)
  have H : (heraldref04_Add.l0 k l0 l1 (([] : List Int)) 0 0) = some r := h
  clear h
  obtain ⟨y319, hy319⟩ : ∃ y_ : List Int, y_ = (([] : List Int)) := ⟨_, rfl⟩
  replace H : (heraldref04_Add.l0 k l0 l1 y319 0 0) = some r := by first | (rw [hy319]; with_reducible exact H) | (have H2_ := (Option.bind_some _ _).symm.trans H; rw [hy319]; with_reducible exact H2_) | (have H2_ := (Option.bind_some _ _).symm.trans H; with_reducible exact H2_) | with_reducible exact H | (rw [hy319]; exact H) | exact H
  have Ny319 := Aside0.mk hy319
  clear hy319
  have H' := Aside0.mk H
  clear H
  go_enter Tryd.func41, Tryd.ntmps41
  go_wp2_with (first | ((with_reducible refine gate_dst (N := 9) rfl ?_); (try (refine gate_guard (by rfl) ?_; dsimp only)); refine Kd.R_lit (Kd.int .i64) _ 3 ?hg (N := 9) ?hd (xs := ([] : List Int)) (inner := []) (ok := fun _ => True) (okp := fun _ => True) ?hr ?hp (fun _ hk => hk) trivial (Below.refl _ _) (Nat.le_refl _) (by simp) ?_; (case hd => rfl); (case hg => rfl); (case hr => first | (go_simp; done) | (go_simp; rfl)); (case hp => exact (Reps.none _ _)); intro v320 w3 ho4 hb hg_ hnew_; clear hg_ hnew_; (first | rw [← Ny319.out] at ho4 | (simp only [Int.reduceToNat] at ho4; rw [← Ny319.out] at ho4)); have n0_ := Aside0.mk (Kd.R_lower ho4 (below_size (by repeat (first | (with_reducible first | exact HB.out | apply below_alloc | apply pw_below_drewN | apply below_drew1) | exact HB.out)))); have n1_ := Aside0.mk (below_step (by repeat (first | (with_reducible first | exact HB.out | apply below_alloc | apply pw_below_drewN | apply below_drew1) | exact HB.out)) hb); clear HB; have HO321 := n0_; have HB := n1_; clear n0_ n1_; clear hb ho4))
  go_loopg [5, 6, 7] k (fun kq v5 v6 v7 w' => ∃ (x5_1 : List Int) (x6_1 : Int) (x7_1 : Int), v6 = .int .i64 x6_1 ∧ v7 = .int .i64 x7_1 ∧ Aside0 (heraldref04_Add.l0 kq l0 l1 x5_1 x6_1 x7_1 = some r) ∧ Aside0 (kq ≤ k) ∧ Aside0 (Kd.R (Kd.int .i64) 3 w' w.heap.size (fun _ => True) v5 x5_1) ∧ Aside0 (Below w.heap.size w w'))
  case atStart => exact ⟨(y319), (0), (0), (by first | rfl | (simp; done) | (simp [*]; done) | (simp [i64_w]; done) | (simp [*, i64_w]; done)), (by first | rfl | (simp; done) | (simp [*]; done) | (simp [i64_w]; done) | (simp [*, i64_w]; done)), H', ⟨Nat.le_refl _⟩, ⟨by (with_reducible repeat (first | apply Kd.R_alloc | apply Kd.R_drewN | apply Kd.R_drew)); exact HO321.out⟩, ⟨by repeat (first | (with_reducible first | exact HB.out | apply below_alloc | apply pw_below_drewN | apply below_drew1) | exact HB.out)⟩⟩
  case round =>
    clear H'
    try clear c1
    try clear p2
    try clear c4
    obtain ⟨x5_1, x6_1, x7_1, rfl, rfl, HA, HK1, HO_5, HB⟩ := hrel
    cases gk with
    | zero => exact absurd HA.out (by simp [heraldref04_Add.l0])
    | succ k1 =>
      have H := HA.out
      clear HA
      simp only [heraldref04_Add.l0] at H
      have HC5 := Aside0.mk H
      clear H
      go_upto_region 4 with (fail)
      go_cut [23] (fun v23 wc => ∃ (kq : Nat) (x23_4 : Bool), v23 = .bool x23_4 ∧ Aside0 (heraldref04_Add.j1 kq l0 l1 x5_1 x6_1 x7_1 x23_4 = some r) ∧ Aside0 (kq ≤ k1) ∧ Aside0 (Kd.R (Kd.int .i64) 3 wc w.heap.size (fun _ => True) u5 x5_1) ∧ Aside0 (Below w.heap.size w wc))
      case first =>
        have H := HC5.out
        clear HC5
        by_cases c6 : x7_1 < (l0.length : Int)
        · rw [if_pos c6] at H
          have c6b0 : decide (x7_1 < (l0.length : Int)) = true := decide_eq_true c6
          clear c6
          (first | rw [c6b0] | (simp only [i64_w, i32_w]; rw [c6b0]) | skip)
          have H' := Aside0.mk H
          clear H
          go_wp2
          go_meet
          case rel => exact ⟨_, (true), (by first | rfl | (simp; done) | (simp [*]; done) | (simp [i64_w]; done) | (simp [*, i64_w]; done)), H', ⟨by have := HK1.out; first | omega | exact Nat.le_refl _⟩, ⟨by (with_reducible repeat (first | apply Kd.R_alloc | apply Kd.R_drewN | apply Kd.R_drew)); exact HO_5.out⟩, ⟨by repeat (first | (with_reducible first | exact HB.out | apply below_alloc | apply pw_below_drewN | apply below_drew1) | exact HB.out)⟩⟩
        · rw [if_neg c6] at H
          have c6b0 : decide (x7_1 < (l0.length : Int)) = false := decide_eq_false c6
          clear c6
          (first | rw [c6b0] | (simp only [i64_w, i32_w]; rw [c6b0]) | skip)
          by_cases c7 : x7_1 < (l1.length : Int)
          · rw [if_pos c7] at H
            have c7b0 : decide (x7_1 < (l1.length : Int)) = true := decide_eq_true c7
            clear c7
            have H' := Aside0.mk H
            clear H
            go_wp2
            go_meet
            case rel => exact ⟨_, (true), (by first | rfl | (simp; done) | (simp [*]; done) | (simp [i64_w]; done) | (simp [*, i64_w]; done)), H', ⟨by have := HK1.out; first | omega | exact Nat.le_refl _⟩, ⟨by (with_reducible repeat (first | apply Kd.R_alloc | apply Kd.R_drewN | apply Kd.R_drew)); exact HO_5.out⟩, ⟨by repeat (first | (with_reducible first | exact HB.out | apply below_alloc | apply pw_below_drewN | apply below_drew1) | exact HB.out)⟩⟩
          · rw [if_neg c7] at H
            have c7b0 : decide (x7_1 < (l1.length : Int)) = false := decide_eq_false c7
            clear c7
            have H' := Aside0.mk H
            clear H
            go_wp2
            go_meet
            case rel => exact ⟨_, (decide (x6_1 > 0)), (by first | rfl | (simp; done) | (simp [*]; done) | (simp [i64_w]; done) | (simp [*, i64_w]; done)), H', ⟨by have := HK1.out; first | omega | exact Nat.le_refl _⟩, ⟨by (with_reducible repeat (first | apply Kd.R_alloc | apply Kd.R_drewN | apply Kd.R_drew)); exact HO_5.out⟩, ⟨by repeat (first | (with_reducible first | exact HB.out | apply below_alloc | apply pw_below_drewN | apply below_drew1) | exact HB.out)⟩⟩
      case rest =>
        clear HC5
        try clear c1
        try clear p2
        try clear c4
        try clear c6
        try clear c6b0
        try clear c7
        try clear c7b0
        try clear p2
        obtain ⟨kq, x23_4, rfl, HA, HJ4, HO_5, HB⟩ := hcut
        cases kq with
        | zero => exact absurd HA.out (by simp [heraldref04_Add.j1])
        | succ kj4 =>
          have H := HA.out
          clear HA
          simp only [heraldref04_Add.j1] at H
          by_cases c8 : x23_4 = true
          · subst c8
            have H1 : ((heraldref04_at.f l0 x7_1).bind fun t322 => ((heraldref04_at.f l1 x7_1).bind fun t323 => (if x5_1.length < 17592186044416 then (heraldref04_Add.l0 kj4 l0 l1 (x5_1 ++ [Int.tmod (wrap64 ((wrap64 (t322 + t323)) + x6_1)) 65536]) (wrap64 (Int.tdiv (wrap64 ((wrap64 (t322 + t323)) + x6_1)) 65536)) (wrap64 (x7_1 + 1))) else (none)))) = some r := by rw [if_pos rfl] at H; exact H
            clear H
            have H := H1
            clear H1
            replace H := Option.bind_eq_some_iff.mp H
            obtain ⟨t322, A90, H⟩ := H
            replace H : ((heraldref04_at.f l1 x7_1).bind fun t323 => (if x5_1.length < 17592186044416 then (heraldref04_Add.l0 kj4 l0 l1 (x5_1 ++ [Int.tmod (wrap64 ((wrap64 (t322 + t323)) + x6_1)) 65536]) (wrap64 (Int.tdiv (wrap64 ((wrap64 (t322 + t323)) + x6_1)) 65536)) (wrap64 (x7_1 + 1))) else (none))) = some r := H
            have A9 := Aside0.mk A90
            clear A90
            replace H := Option.bind_eq_some_iff.mp H
            obtain ⟨t323, A100, H⟩ := H
            replace H : (if x5_1.length < 17592186044416 then (heraldref04_Add.l0 kj4 l0 l1 (x5_1 ++ [Int.tmod (wrap64 ((wrap64 (t322 + t323)) + x6_1)) 65536]) (wrap64 (Int.tdiv (wrap64 ((wrap64 (t322 + t323)) + x6_1)) 65536)) (wrap64 (x7_1 + 1))) else (none)) = some r := H
            have A10 := Aside0.mk A100
            clear A100
            by_cases c11 : x5_1.length < 17592186044416
            · rw [if_pos c11] at H
              have LMc11 := Aside0.mk c11
              clear c11
              obtain ⟨y324, hy324⟩ : ∃ y_ : List Int, y_ = (x5_1 ++ [Int.tmod (wrap64 ((wrap64 (t322 + t323)) + x6_1)) 65536]) := ⟨_, rfl⟩
              replace H : (heraldref04_Add.l0 kj4 l0 l1 y324 (wrap64 (Int.tdiv (wrap64 ((wrap64 (t322 + t323)) + x6_1)) 65536)) (wrap64 (x7_1 + 1))) = some r := by first | (rw [hy324]; with_reducible exact H) | (have H2_ := (Option.bind_some _ _).symm.trans H; rw [hy324]; with_reducible exact H2_) | (have H2_ := (Option.bind_some _ _).symm.trans H; with_reducible exact H2_) | with_reducible exact H | (rw [hy324]; exact H) | exact H
              have Ny324 := Aside0.mk hy324
              clear hy324
              have H' := Aside0.mk H
              clear H
              go_wp2_with (first | ((with_reducible refine gate_callee (f := 61) rfl ?_); refine goesL_ (some 28) rfl rfl Tryd.func61 (by kernel_rfl) rfl #[.slice A0 l0.length c0, .int .i64 x7_1] rfl (by (try simp only [List.map_toArray, List.map_cons, List.map_nil]); first | done | rfl | (simp only [List.length_drop, List.length_take]; rfl)) ?_; (with_reducible refine (heraldref04_at.calls _ _ l0 x7_1 t322 _ ?side1 ?side2 A9.out).mono ?_); (case side1 => repeat (first | exact (Kd.C_below HR0.out HB.out) | (with_reducible refine Kd.C_alloc ?_ _) | (with_reducible refine Kd.C_drewN ?_ _) | (with_reducible refine Kd.C_drew ?_))); (case side2 => exact HC0.out); rintro e w' ⟨rfl, ⟨nd, rfl⟩⟩; refine ⟨_, rfl, ?_⟩) | ((with_reducible refine gate_callee (f := 61) rfl ?_); refine goesL_ (some 31) rfl rfl Tryd.func61 (by kernel_rfl) rfl #[.slice A1 l1.length c1, .int .i64 x7_1] rfl (by (try simp only [List.map_toArray, List.map_cons, List.map_nil]); first | done | rfl | (simp only [List.length_drop, List.length_take]; rfl)) ?_; (with_reducible refine (heraldref04_at.calls _ _ l1 x7_1 t323 _ ?side1 ?side2 A10.out).mono ?_); (case side1 => repeat (first | exact (Kd.C_below HR1.out (by repeat (first | (with_reducible first | exact HB.out | apply below_alloc | apply pw_below_drewN | apply below_drew1) | exact HB.out))) | (with_reducible refine Kd.C_alloc ?_ _) | (with_reducible refine Kd.C_drewN ?_ _) | (with_reducible refine Kd.C_drew ?_))); (case side2 => exact HC1.out); rintro e w' ⟨rfl, ⟨nd, rfl⟩⟩; refine ⟨_, rfl, ?_⟩) | ((with_reducible refine gate_builtin (b := .append) (xs := #[.tmp 35, .tmp 38]) rfl ?_); (try (refine gate_guard (by rfl) ?_; dsimp only)); at_builtin; refine Kd.R_append (Kd.int .i64) (w0 := w) w.heap.size rfl (.tmp 35) (.tmp 38) 32 3 (.int .i64 0) 8 rfl Tryd.underlying32 info3 rfl (by decide) (by omega) u5 x5_1 (Int.tmod (wrap64 ((wrap64 (t322 + t323)) + x6_1)) 65536) [.int .i64 (Int.tmod (wrap64 ((wrap64 (t322 + t323)) + x6_1)) 65536)] (fun _ => True) (fun _ => False) rfl rfl ?aP (fun _ hk => hk.elim) ?aF ?aO ?aB ?aS ?aL ?_; (case aP => exact rfl); (case aB => exact (by repeat (first | (with_reducible first | exact HB.out | apply below_alloc | apply pw_below_drewN | apply below_drew1) | exact HB.out))); (case aF => exact (fun _ _ => trivial)); (case aO => exact (by (with_reducible repeat (first | apply Kd.R_alloc | apply Kd.R_drewN | apply Kd.R_drew)); exact HO_5.out)); (case aS => exact (below_size (by repeat (first | (with_reducible first | exact HB.out | apply below_alloc | apply pw_below_drewN | apply below_drew1) | exact HB.out)))); (case aL => have := LMc11.out; omega); intro v325 w12 ho hb hg hat; rw [← Ny324.out] at ho; have n0_ := Aside0.mk (hb); have n1_ := Aside0.mk (ho); clear HB; clear HO_5; have HB := n0_; have HO326 := n1_; clear n0_ n1_; clear ho hb hg hat))
              go_roundg kj4
              case measure => have := HK1.out; have := HJ4.out; omega
              case rel => exact ⟨(y324), (wrap64 (Int.tdiv (wrap64 ((wrap64 (t322 + t323)) + x6_1)) 65536)), (wrap64 (x7_1 + 1)), (by first | rfl | (simp; done) | (simp [*]; done) | (simp [i64_w]; done) | (simp [*, i64_w]; done)), (by first | rfl | (simp; done) | (simp [*]; done) | (simp [i64_w]; done) | (simp [*, i64_w]; done)), H', ⟨by have := HK1.out; have := HJ4.out; omega⟩, ⟨by (with_reducible repeat (first | apply Kd.R_alloc | apply Kd.R_drewN | apply Kd.R_drew)); exact HO326.out⟩, ⟨by repeat (first | (with_reducible first | exact HB.out | apply below_alloc | apply pw_below_drewN | apply below_drew1) | exact HB.out)⟩⟩
            · rw [if_neg c11] at H
              exact absurd H (by simp)
          · replace c8 := Bool.eq_false_iff.mpr c8
            subst c8
            have H1 : (some x5_1) = some r := by rw [if_neg (show ¬ (false = true) by decide)] at H; exact H
            clear H
            have H := H1
            clear H1
            obtain rfl := Option.some.inj H
            go_wp2
            go_ret
            exact ⟨_, by first | rfl | (simp [errW_none, errW_some] <;> rfl) | (simp [*, errW_none, errW_some] <;> rfl), by (with_reducible repeat (first | apply Kd.R_alloc | apply Kd.R_drewN | apply Kd.R_drew)); exact HO_5.out, by repeat (first | (with_reducible first | exact HB.out | apply below_alloc | apply pw_below_drewN | apply below_drew1) | exact HB.out)⟩
end Go.Proofs.YtgcngbmkgjphpaaDoor.PAll
end

section
namespace Go.Proofs.YtgcngbmkgjphpaaDoor.Nums
open Go.RowKit Go.Proofs.YtgcngbmkgjphpaaDoor.PAll Go.Proofs.YtgcngbmkgjphpaaDoorW.PrintWords Go.Proofs.YtgcngbmkgjphpaaDoorW.PrintLast Go.Proofs.YtgcngbmkgjphpaaDoorW.PrintMore
set_option linter.unusedVariables false
set_option linter.unusedSimpArgs false
/-- The reference's sum. -/
theorem sum_digit (x y c : Nat) (hx : x < 65536) (hy : y < 65536) (hc : c ≤ 1) : Int.tmod (wrap64 (wrap64 ((x : Int) + (y : Int)) + (c : Int))) 65536 = (((x + y + c) % 65536 : Nat) : Int) ∧ wrap64 (Int.tdiv (wrap64 (wrap64 ((x : Int) + (y : Int)) + (c : Int))) 65536) = (((x + y + c) / 65536 : Nat) : Int) := by
  rw [wrap_in (a := (x : Int) + (y : Int)) (by omega) (by omega), wrap_in (a := (x : Int) + (y : Int) + (c : Int)) (by omega) (by omega), show (x : Int) + (y : Int) + (c : Int) = ((x + y + c : Nat) : Int) by omega, show (65536 : Int) = ((65536 : Nat) : Int) from rfl, ← Int.ofNat_tmod, ← Int.ofNat_tdiv, wrap_in (by omega) (by omega)]
  exact ⟨rfl, rfl⟩
theorem add_three (a b c : Nat) : (a + b + c) % 65536 = (a % 65536 + b % 65536 + c) % 65536 ∧ (a + b + c) / 65536 = a / 65536 + b / 65536 + (a % 65536 + b % 65536 + c) / 65536 := by omega
theorem radd_loop (a b : Nat) (ha : (dgs 65536 a).length ≤ 1000000000000) (hb : (dgs 65536 b).length ≤ 1000000000000) : ∀ (v i c : Nat) (out : List Int), v = a / 65536 ^ i + b / 65536 ^ i + c → c ≤ 1 → c = 0 ∨ i ≤ 1000000000000 → i ≤ 1000000000001 → out.length = i →
    Ev (fun k => heraldref04_Add.l0 k (dgs 65536 a) (dgs 65536 b) out (c : Int) (i : Int)) (out ++ dgs 65536 v) := by
  intro v
  induction v using Nat.strongRecOn with
  | ind v ih =>
    intro i c out hv hc hci hi ho
    have la := dgs_lt_len (b := 65536) (n := a) (i := i) (by omega)
    have lb := dgs_lt_len (b := 65536) (n := b) (i := i) (by omega)
    have za : ¬ i < (dgs 65536 a).length → a / 65536 ^ i = 0 := fun g => Decidable.byContradiction fun e => g (la.mpr e)
    have zb : ¬ i < (dgs 65536 b).length → b / 65536 ^ i = 0 := fun g => Decidable.byContradiction fun e => g (lb.mpr e)
    by_cases h : v = 0
    · subst h
      have hA0 : a / 65536 ^ i = 0 := by revert hv; generalize a / 65536 ^ i = A; generalize b / 65536 ^ i = B; omega
      have hB0 : b / 65536 ^ i = 0 := by revert hv; generalize a / 65536 ^ i = A; generalize b / 65536 ^ i = B; omega
      have h1 : ¬ (i : Int) < ((dgs 65536 a).length : Int) := fun g => la.mp (by omega) hA0
      have h2 : ¬ (i : Int) < ((dgs 65536 b).length : Int) := fun g => lb.mp (by omega) hB0
      have h3 : decide ((c : Int) > 0) = false := decide_eq_false (by omega)
      refine Ev.step (f := fun k => heraldref04_Add.j1 k (dgs 65536 a) (dgs 65536 b) out (c : Int) (i : Int) false) (fun k => ?_) (Ev.step (f := fun _ => some (out ++ dgs 65536 0)) (fun k => ?_) (Ev.now _))
      · rw [heraldref04_Add.l0, if_neg h1, if_neg h2, h3]
      · rw [heraldref04_Add.j1, if_neg (by simp), dgs_zero, List.append_nil]
    · obtain ⟨s1, s2⟩ := add_three (a / 65536 ^ i) (b / 65536 ^ i) c
      rw [← hv] at s1 s2
      rw [Nat.div_div_eq_div_mul, Nat.div_div_eq_div_mul, ← Nat.pow_succ] at s2
      have hx := Nat.mod_lt (a / 65536 ^ i) (show 0 < 65536 by omega)
      have hy := Nat.mod_lt (b / 65536 ^ i) (show 0 < 65536 by omega)
      have hi2 : i ≤ 1000000000000 := by
        by_cases g : i ≤ 1000000000000
        · exact g
        · have e1 := za (by omega)
          have e2 := zb (by omega)
          rw [e1, e2] at hv
          exfalso
          clear s1 s2 hx hy la lb za zb e1 e2 ih
          omega
      have hci2 : (a / 65536 ^ i % 65536 + b / 65536 ^ i % 65536 + c) / 65536 = 0 ∨ i + 1 ≤ 1000000000000 := by
        by_cases g : i + 1 ≤ 1000000000000
        · exact .inr g
        · have e1 := za (by omega)
          have e2 := zb (by omega)
          left
          rw [e1, e2]
          clear s1 s2 hx hy la lb za zb e1 e2 ih
          omega
      have h1 := ih (v / 65536) (by omega) (i + 1) ((a / 65536 ^ i % 65536 + b / 65536 ^ i % 65536 + c) / 65536) (out ++ [((v % 65536 : Nat) : Int)]) s2 (by omega) hci2 (by omega) (by rw [List.length_append, List.length_singleton]; omega)
      rw [List.append_assoc, List.singleton_append, ← dgs_pos (by omega) h] at h1
      have h2 : Ev (fun k => heraldref04_Add.j1 k (dgs 65536 a) (dgs 65536 b) out (c : Int) (i : Int) true) (out ++ dgs 65536 v) := by
        refine Ev.step (fun k => ?_) h1
        have hlen : out.length < 17592186044416 := by omega
        have hw := next_i i
        obtain ⟨d1, d2⟩ := sum_digit _ _ c hx hy hc
        rw [heraldref04_Add.j1, if_pos rfl, at_some, at_some, Option.bind_some, Option.bind_some, if_pos hlen, d1, d2, ← s1, wrap_in (by omega) (by omega)]
        rfl
      refine Ev.step (fun k => ?_) h2
      rw [heraldref04_Add.l0]
      by_cases g1 : (i : Int) < ((dgs 65536 a).length : Int)
      · rw [if_pos g1]
      · rw [if_neg g1]
        by_cases g2 : (i : Int) < ((dgs 65536 b).length : Int)
        · rw [if_pos g2]
        · rw [if_neg g2]
          have e1 := za (by omega)
          have e2 := zb (by omega)
          rw [e1, e2] at hv
          rw [decide_eq_true (show (c : Int) > 0 by omega)]
theorem radd_ev (a b : Nat) (ha : (dgs 65536 a).length ≤ 1000000000000) (hb : (dgs 65536 b).length ≤ 1000000000000) : Ev (fun k => heraldref04_Add.f k (dgs 65536 a) (dgs 65536 b)) (dgs 65536 (a + b)) := by
  have h := radd_loop a b ha hb (a + b) 0 0 [] (by simp) (by omega) (.inl rfl) (by omega) rfl
  exact h
/-- The reference's digits of the words. -/
def halves : List Int → List Int
  | [] => []
  | w :: l => w % 65536 :: w / 65536 :: halves l
theorem halves_len : ∀ l : List Int, (halves l).length = 2 * l.length
  | [] => rfl
  | w :: l => by simp [halves, halves_len l]; omega
theorem halves_dg : ∀ l : List Int, Dg (4294967296 : Nat) l → Dg (65536 : Nat) (halves l)
  | [], _ => Dg.nil _
  | w :: l, h => by
    have := h.head
    exact Dg.cons (by omega) (by omega) (Dg.cons (by omega) (by omega) (halves_dg l h.tail))
theorem halves_vl : ∀ l : List Int, vl (65536 : Nat) (halves l) = vl (4294967296 : Nat) l
  | [] => rfl
  | w :: l => by
    have := halves_vl l
    simp only [halves, vl] at *
    omega
theorem words_loop (l : List Int) (hd : Dg (4294967296 : Nat) l) (hl : l.length ≤ 1000000000000) (R : List Int) : ∀ (m i : Nat) (acc : List Int), m = l.length - i → i ≤ l.length → acc.length = 2 * i →
    Ev (fun k => heraldref04_cut.f k (acc ++ halves (l.drop i))) R → Ev (fun k => heraldref04_Words.l0 k acc l (l.length : Int) (i : Int)) R := by
  intro m
  induction m with
  | zero =>
    intro i acc hm hi ha hR
    obtain rfl : i = l.length := by omega
    rw [List.drop_length, halves, List.append_nil] at hR
    refine Ev.step (fun k => ?_) (hR.bind (f := fun _ t => some t) (Ev.now _))
    rw [heraldref04_Words.l0, if_neg (by omega)]
  | succ m ih =>
    intro i acc hm hi ha hR
    have hlt : i < l.length := by omega
    have hx := hd l[i] (List.getElem_mem hlt)
    have h1 := ih (i + 1) (acc ++ [l[i] % 65536, l[i] / 65536]) (by omega) (by omega) (by simp; omega) (by
      rw [List.append_assoc]
      rw [List.drop_eq_getElem_cons hlt, halves] at hR
      exact hR)
    refine Ev.step (fun k => ?_) h1
    have hlen : acc.length + [wrap64 (Int.tmod (rd l (i : Int)) 65536), (Int.tdiv (rd l (i : Int)) 65536) % 4294967296].length < 17592186044416 := by simp; omega
    have e1 : wrap64 (Int.tmod (rd l (i : Int)) 65536) = l[i] % 65536 := by
      rw [rd_at l i hlt, Int.tmod_eq_emod_of_nonneg hx.1, wrap_in (by omega) (by omega)]
    have e2 : (Int.tdiv (rd l (i : Int)) 65536) % 4294967296 = l[i] / 65536 := by
      rw [rd_at l i hlt, Int.tdiv_eq_ediv_of_nonneg hx.1]; omega
    rw [heraldref04_Words.l0, if_pos (by omega), if_pos (by omega), if_pos (by omega), Option.bind_some, if_pos hlen, e1, e2, wrap_in (by omega) (by omega)]
    rfl
theorem words_ev (l : List Int) (v : Nat) (hd : Dg (4294967296 : Nat) l) (hl : l.length ≤ 1000000000000) (hv : vl (4294967296 : Nat) l = v) : Ev (fun k => heraldref04_Words.f k l) (dgs 65536 v) := by
  refine words_loop l hd hl (dgs 65536 v) l.length 0 [] (by omega) (by omega) rfl ?_
  rw [List.drop_zero, List.nil_append]
  exact rcut_ev _ _ v rfl (by rw [halves_len]; omega) (halves_dg l hd) (by rw [halves_vl, hv])
/-- A byte that may stand at a place of a number's text. -/
def Good (s : ByteArray) (i : Nat) : Prop := 48 ≤ bt s (i : Int) ∧ bt s (i : Int) ≤ 57 ∧ ¬ (i = 1 ∧ bt s 0 = 48)
theorem scan_good (s : ByteArray) (hs : s.size ≤ 140737488351232) (hg : ∀ j, j < s.size → Good s j) (R : List Int × Int × Int) (hR : Ev (fun k => nat_Parse.l1 k (bytesOf s) ((bytesOf s).length : Int) 0 []) R) : ∀ (m i : Nat), m = s.size - i → i ≤ s.size →
    Ev (fun k => nat_Parse.l0 k s (s.size : Int) (i : Int)) R := by
  intro m
  induction m with
  | zero =>
    intro i hm hi
    refine Ev.step (fun k => ?_) hR
    have hc : conv_bytes.f s = some (bytesOf s) := by unfold conv_bytes.f; rw [if_pos (by omega)]
    rw [nat_Parse.l0, if_neg (by omega), hc, Option.bind_some]
  | succ m ih =>
    intro i hm hi
    obtain ⟨g1, g2, g3⟩ := hg i (by omega)
    refine Ev.step (fun k => ?_) (ih (i + 1) (by omega) (by omega))
    rw [nat_Parse.l0, if_pos (by omega), if_pos (by omega), if_pos (by omega), if_neg (by omega), if_neg (by omega), wrap_in (by omega) (by omega)]
    by_cases c : i = 1
    · rw [if_pos (by omega), if_pos (by omega), if_neg (fun e => g3 ⟨c, e⟩)]; rfl
    · rw [if_neg (by omega)]; rfl
/-- The number that digits come to, from a number on. -/
def pv (v : Nat) (l : List Int) : Nat := l.foldl (fun v c => 10 * v + (c - 48).toNat) v
theorem pv_cons (v : Nat) (c : Int) (l : List Int) : pv v (c :: l) = pv (10 * v + (c - 48).toNat) l := rfl
theorem pv_le (l : List Int) : ∀ v, v ≤ pv v l := by
  induction l with
  | nil => intro v; exact Nat.le_refl _
  | cons c l ih => intro v; rw [pv_cons]; have := ih (10 * v + (c - 48).toNat); omega
theorem pv_digits : ∀ (l : List Int) (v : Nat), Dg (10 : Nat) l → (pv v ((l.map fun d => 48 + d).reverse) : Int) = v * 10 ^ l.length + vl (10 : Nat) l
  | [], v, _ => by simp [pv, vl]
  | x :: l, v, h => by
    have ih := pv_digits l v h.tail
    have hx := h.head
    have e : pv v (((x :: l).map fun d => 48 + d).reverse) = 10 * pv v ((l.map fun d => 48 + d).reverse) + x.toNat := by
      rw [List.map_cons, List.reverse_cons]
      unfold pv
      rw [List.foldl_append]
      simp only [List.foldl_cons, List.foldl_nil]
      congr 2
      omega
    obtain ⟨V, hV⟩ : ∃ V, vl ((10 : Nat) : Int) l = V := ⟨_, rfl⟩
    rw [hV] at ih
    rw [e, List.length_cons, vl, Int.pow_succ, hV]
    push_cast
    rw [ih]
    have : max x 0 = x := by omega
    rw [Int.mul_add, Int.mul_left_comm]
    have e2 : (v : Int) * (10 ^ l.length * 10) = v * (10 * 10 ^ l.length) := by rw [Int.mul_comm (10 ^ l.length)]
    rw [e2]
    omega
theorem len_ten {b v d k : Nat} (hb : 10 ≤ b) (h : (dgs b v).length ≤ k) (hd : d < 10) : (dgs b (10 * v + d)).length ≤ k + 1 := by
  rw [dgs_len_le (by omega)] at h ⊢
  rw [Nat.pow_succ]
  have h2 := Nat.mul_le_mul_left (b ^ k) hb
  omega
theorem parse_l1 (t : List Int) (hg : ∀ x ∈ t, 48 ≤ x ∧ x ≤ 57) (ht : t.length ≤ 140737488351232) (w : Nat) (R : List Int × Int × Int) (hfit : bl w ≤ 65536 → R = (dgs 4294967296 w, 0, 0)) (hbig : ¬ bl w ≤ 65536 → R = ([], 0, 41)) : ∀ (m i v : Nat), m = t.length - i → i ≤ t.length → bl v ≤ 65536 → pv v (t.drop i) = w →
    Ev (fun k => nat_Parse.l1 k t (t.length : Int) (i : Int) (dgs 4294967296 v)) R := by
  intro m
  induction m with
  | zero =>
    intro i v hm hi hv hw
    rw [List.drop_eq_nil_of_le (by omega)] at hw
    have hw2 : v = w := hw
    subst hw2
    rw [hfit hv]
    refine Ev.step (f := fun _ => some (dgs 4294967296 v, 0, 0)) (fun k => ?_) (Ev.now _)
    rw [nat_Parse.l1, if_neg (by omega)]
  | succ m ih =>
    intro i v hm hi hv hw
    have hlt : i < t.length := by omega
    have hx := hg t[i] (List.getElem_mem hlt)
    rw [List.drop_eq_getElem_cons hlt, pv_cons] at hw
    have lv := pd_len (n := v) (k := 2048) (by omega)
    have hd : ((rd t (i : Int)) - 48) % 256 = (((t[i] - 48).toNat : Nat) : Int) := by rw [rd_at t i hlt]; omega
    have ht2 := times_ev (n := v) (m := 10) (a := (t[i] - 48).toNat) (by omega) (by omega) (by omega)
    have hlen : (dgs 4294967296 (10 * v + (t[i] - 48).toNat)).length ≤ 2048 + 1 := len_ten (by omega) lv (by omega)
    have hb := bits_some (n := 10 * v + (t[i] - 48).toNat) (by omega)
    by_cases g : bl (10 * v + (t[i] - 48).toNat) ≤ 65536
    · have h1 := ih (i + 1) (10 * v + (t[i] - 48).toNat) (by omega) (by omega) g hw
      have h2 : Ev (fun k => (nat_Nat_Bits.f (dgs 4294967296 (10 * v + (t[i] - 48).toNat))).bind fun t318 => (if t318 > 65536 then (some (([] : List Int), 0, 41)) else (nat_Parse.l1 k t (t.length : Int) ((i + 1 : Nat) : Int) (dgs 4294967296 (10 * v + (t[i] - 48).toNat))))) R := by
        refine Ev.congr (fun k => ?_) h1
        rw [hb, Option.bind_some, if_neg (by omega)]
      refine Ev.step (fun k => ?_) (ht2.bind (f := fun k t315 => (nat_Nat_Bits.f t315).bind fun t318 => (if t318 > 65536 then (some (([] : List Int), 0, 41)) else (nat_Parse.l1 k t (t.length : Int) ((i + 1 : Nat) : Int) t315))) h2)
      rw [nat_Parse.l1, if_pos (by omega), if_pos (by omega), if_pos (by omega), hd, wrap_in (by omega) (by omega)]
      rfl
    · have hwb : ¬ bl w ≤ 65536 := by
        have := bl_mono (pv_le (t.drop (i + 1)) (10 * v + (t[i] - 48).toNat))
        rw [hw] at this
        omega
      rw [hbig hwb]
      have h2 : Ev (fun k => (nat_Nat_Bits.f (dgs 4294967296 (10 * v + (t[i] - 48).toNat))).bind fun t318 => (if t318 > 65536 then (some (([] : List Int), 0, 41)) else (nat_Parse.l1 k t (t.length : Int) ((i + 1 : Nat) : Int) (dgs 4294967296 (10 * v + (t[i] - 48).toNat))))) (([] : List Int), 0, 41) := by
        refine Ev.congr (fun k => ?_) (Ev.now _)
        rw [hb, Option.bind_some, if_pos (by omega)]
      refine Ev.step (fun k => ?_) (ht2.bind (f := fun k t315 => (nat_Nat_Bits.f t315).bind fun t318 => (if t318 > 65536 then (some (([] : List Int), 0, 41)) else (nat_Parse.l1 k t (t.length : Int) ((i + 1 : Nat) : Int) t315))) h2)
      rw [nat_Parse.l1, if_pos (by omega), if_pos (by omega), if_pos (by omega), hd, wrap_in (by omega) (by omega)]
      rfl
end Go.Proofs.YtgcngbmkgjphpaaDoor.Nums
end

section
namespace Go.Proofs.YtgcngbmkgjphpaaDoor.PAll
open Go.RowKit Go.Proofs.YtgcngbmkgjphpaaDoorW.PrintWords Go.Proofs.YtgcngbmkgjphpaaDoorW.PrintLast Go.Proofs.YtgcngbmkgjphpaaDoorW.PrintMore
attribute [local go_sem] max2_int min2_int max_two min_two max_three min_three max_four min_four   -- for this text's walks alone
set_option linter.unusedVariables false
set_option linter.unusedSimpArgs false
def heraldlaw04_given.f (k : Nat) (l0 : List Int) : Option (List Int × List Int × Bool × Bool) := (heraldref04_Words.f k l0).bind fun t375 => ((heraldref04_Fit.f k t375).bind fun bt378 => ((heraldref04_Text.f k t375).bind fun t382 => ((nat_Parse.f k t382).bind fun bt383 => (if bt383.2.2 = bt378.2 then (some (t375, bt383.1, (bt378.2 == 0), (bt383.2.1 == 0))) else (some (t375, bt383.1, (bt378.2 == 0), false))))))
def heraldlaw04_given.T4 : Bool × List (List Nat × List Nat) := (true, [([], []), ([], []), ([], []), ([2], [2]), ([], []), ([], []), ([4, 5], [4, 5]), ([6], [6]), ([7], [7]), ([8, 7], [7, 8]), ([7, 9], [7, 9]), ([0, 7, 0], [0]), ([1, 11, 0, 1, 11], [1]), ([3, 12, 0, 1, 2, 3, 11, 12], [3]), ([10, 13, 0, 1, 2, 3, 4, 5, 6, 7, 8, 9, 10, 11, 12, 13], [10])])
def heraldlaw04_given.B4 : List Nat := [0, 0, 0, 4, 0, 0, 48, 112, 240, 496, 1008, 241, 2291, 6399, 16383]
theorem heraldlaw04_given.tab4 : rtab .any (opsOf Tryd.f21 4) = heraldlaw04_given.T4 := by kernel_rfl
theorem heraldlaw04_given.bits4 : waitsOk heraldlaw04_given.T4.2 heraldlaw04_given.B4 = true := by kernel_rfl
set_option maxHeartbeats 8000000 in
set_option maxRecDepth 100000 in
theorem heraldlaw04_given.calls (k : Nat) (A0 : Option Addr) (c0 : Nat) (l0 : List Int) (r1 : List Int) (r2 : List Int) (r3 : Bool) (r4 : Bool) (w : World) (hr0 : Kd.C (Kd.int .u32) w A0 l0.length l0) (hc0 : l0.length ≤ c0) (h : heraldlaw04_given.f k l0 = some (r1, r2, r3, r4)) :
    Calls Tryd.prog 21 #[.slice A0 l0.length c0] w fun e w' => ∃ v0_ v1_ : Value, e = .returned (.tuple #[v0_, .agg #[v1_], .bool r3, .bool r4]) ∧ Kd.V (Kd.int .i64) 3 w' w.heap.size (fun k_ => (w.heap.size ≤ k_)) v0_ r1 ∧ Kd.V (Kd.int .u32) 79 w' w.heap.size (fun k_ => (w.heap.size ≤ k_)) v1_ r2 ∧ Below w.heap.size w w' := by
  have hu26 := Tryd.underlying26
  have HR0 := Aside0.mk hr0
  have HC0 := Aside0.mk hc0
  clear hr0 hc0
  have HB := Aside0.mk (Below.refl w.heap.size w)
  have H : ((heraldref04_Words.f k l0).bind fun t375 => ((heraldref04_Fit.f k t375).bind fun bt378 => ((heraldref04_Text.f k t375).bind fun t382 => ((nat_Parse.f k t382).bind fun bt383 => (if bt383.2.2 = bt378.2 then (some (t375, bt383.1, (bt378.2 == 0), (bt383.2.1 == 0))) else (some (t375, bt383.1, (bt378.2 == 0), false))))))) = some (r1, r2, r3, r4) := h
  clear h
  replace H := Option.bind_eq_some_iff.mp H
  obtain ⟨t375, A20, H⟩ := H
  replace H : ((heraldref04_Fit.f k t375).bind fun bt378 => ((heraldref04_Text.f k t375).bind fun t382 => ((nat_Parse.f k t382).bind fun bt383 => (if bt383.2.2 = bt378.2 then (some (t375, bt383.1, (bt378.2 == 0), (bt383.2.1 == 0))) else (some (t375, bt383.1, (bt378.2 == 0), false)))))) = some (r1, r2, r3, r4) := H
  have A2 := Aside0.mk A20
  clear A20
  replace H := Option.bind_eq_some_iff.mp H
  obtain ⟨⟨t378, t381⟩, A30, H⟩ := H
  replace H : ((heraldref04_Text.f k t375).bind fun t382 => ((nat_Parse.f k t382).bind fun bt383 => (if bt383.2.2 = t381 then (some (t375, bt383.1, (t381 == 0), (bt383.2.1 == 0))) else (some (t375, bt383.1, (t381 == 0), false))))) = some (r1, r2, r3, r4) := H
  have A3 := Aside0.mk A30
  clear A30
  replace H := Option.bind_eq_some_iff.mp H
  obtain ⟨t382, A40, H⟩ := H
  replace H : ((nat_Parse.f k t382).bind fun bt383 => (if bt383.2.2 = t381 then (some (t375, bt383.1, (t381 == 0), (bt383.2.1 == 0))) else (some (t375, bt383.1, (t381 == 0), false)))) = some (r1, r2, r3, r4) := H
  have A4 := Aside0.mk A40
  clear A40
  replace H := Option.bind_eq_some_iff.mp H
  obtain ⟨⟨t383, t386, t387⟩, A50, H⟩ := H
  replace H : (if t387 = t381 then (some (t375, t383, (t381 == 0), (t386 == 0))) else (some (t375, t383, (t381 == 0), false))) = some (r1, r2, r3, r4) := H
  have A5 := Aside0.mk A50
  clear A50
  by_cases c6 : t387 = t381
  · rw [if_pos c6] at H
    have c6b0 : (t387 == t381) = true := beq_iff_eq.mpr c6
    have c6b1 : (t387 != t381) = false := bne_eq_false_iff_eq.mpr c6
    clear c6
    simp only [Option.some.injEq, Prod.mk.injEq] at H
    obtain ⟨rfl, rfl, rfl, rfl⟩ := H
    go_enter Tryd.func21, Tryd.ntmps21
    try go_wp2_with (first | ((with_reducible refine gate_dst (N := 3) rfl ?_); refine box_event ?hg (N := 3) ?hd (cs := #[.slice none 0 0]) (t := 26) ?hr ?_; (case hd => rfl); (case hg => rfl); (case hr => first | (go_simp; done) | (go_simp; rfl)); intro gb374 hg w7 hbox hb; have n0_ := Aside0.mk (below_step (by repeat (first | (with_reducible first | exact HB.out | apply below_alloc | apply pw_below_drewN | apply below_drew1) | exact HB.out)) hb); have n1_ := Aside0.mk (hbox); have n2_ := Aside0.mk ((by rw [hg]; exact (below_size (by repeat (first | (with_reducible first | exact HB.out | apply below_alloc | apply pw_below_drewN | apply below_drew1) | exact HB.out))) : w.heap.size ≤ gb374)); have n3_ := Aside0.mk ((by rw [hg]; exact (below_size (by repeat (first | (with_reducible first | exact HB.out | apply below_alloc | apply pw_below_drewN | apply below_drew1) | exact HB.out))) : w.heap.size ≤ gb374)); clear HB; have HB := n0_; have BK374 := n1_; have GW374 := n2_; have GE374 := n3_; clear n0_ n1_ n2_ n3_; clear hb hbox hg) | ((with_reducible refine gate_callee (f := 53) rfl ?_); refine goesL_ (some 13) rfl rfl Tryd.func53 (by kernel_rfl) rfl #[.slice A0 l0.length c0] rfl (by (try simp only [List.map_toArray, List.map_cons, List.map_nil]); first | done | rfl | (simp only [List.length_drop, List.length_take]; rfl)) ?_; (with_reducible refine (heraldref04_Words.calls k _ _ l0 t375 _ ?side1 ?side2 A2.out).mono ?_); (case side1 => repeat (first | exact (Kd.C_below HR0.out HB.out) | (with_reducible refine Kd.C_alloc ?_ _) | (with_reducible refine Kd.C_drewN ?_ _) | (with_reducible refine Kd.C_drew ?_))); (case side2 => exact HC0.out); rintro e w8 ⟨v376, rfl, ho0, hb⟩; refine ⟨_, rfl, ?_⟩; have n0_ := Aside0.mk (Kd.V_lower (Kd.V_mono (ok' := fun k_ => (w.heap.size ≤ k_) ∧ k_ ≠ gb374) ho0 (fun k_ hk_ => ⟨(Nat.le_trans (below_size (by repeat (first | (with_reducible first | exact HB.out | apply below_alloc | apply pw_below_drewN | apply below_drew1 | refine below_set ?_ GE374.out) | exact HB.out))) hk_), (Kd.freshB (g := gb374) (o := .cells #[.slice none 0 0] 26 (0, 0)) (by (with_reducible repeat (first | refine blk_drewN ?_ _ | refine blk_drew ?_ | refine blk_alloc ?_ _)); exact BK374.out) k_ hk_)⟩)) (below_size (by repeat (first | (with_reducible first | exact HB.out | apply below_alloc | apply pw_below_drewN | apply below_drew1 | refine below_set ?_ GE374.out) | exact HB.out)))); have n1_ := Aside0.mk (blk_below (g := gb374) (o := .cells #[.slice none 0 0] 26 (0, 0)) (by (with_reducible repeat (first | refine blk_drewN ?_ _ | refine blk_drew ?_ | refine blk_alloc ?_ _)); exact BK374.out) hb); have n2_ := Aside0.mk (below_step (by repeat (first | (with_reducible first | exact HB.out | apply below_alloc | apply pw_below_drewN | apply below_drew1 | refine below_set ?_ GE374.out) | exact HB.out)) hb); clear BK374; clear HB; have HO377 := n0_; have BK374 := n1_; have HB := n2_; clear n0_ n1_ n2_; (try clear hb); (try clear hb2); (try clear hk); (try clear hi); (try clear ho0); obtain ⟨Ao9, co9, eo9⟩ := Kd.V_slice HO377.out; subst eo9) | ((with_reducible refine gate_callee (f := 54) rfl ?_); refine goesL_ (some 16) rfl rfl Tryd.func54 (by kernel_rfl) rfl #[.slice Ao9 t375.length co9] rfl (by (try simp only [List.map_toArray, List.map_cons, List.map_nil]); first | done | rfl | (simp only [List.length_drop, List.length_take]; rfl)) ?_; (with_reducible refine (heraldref04_Fit.calls k (fun k_ => ((w.heap.size ≤ k_) ∧ k_ ≠ gb374)) _ _ t375 t378 t381 _ ?side1 A3.out).mono ?_); (case side1 => exact HO377.out); rintro e w10 ⟨v379, rfl, ho0, hb⟩; refine ⟨_, rfl, ?_⟩; have n0_ := Aside0.mk (Kd.V_below (by (with_reducible repeat (first | apply Kd.V_alloc | apply Kd.V_drewN | apply Kd.V_drew)); exact HO377.out) hb); have n1_ := Aside0.mk (Kd.V_lower (Kd.V_mono (ok' := fun k_ => (w.heap.size ≤ k_) ∧ k_ ≠ gb374) ho0 (fun k_ hk_ => ⟨Or.elim hk_ (fun hs_ => hs_.1) (fun hn_ => (Nat.le_trans (below_size (by repeat (first | (with_reducible first | exact HB.out | apply below_alloc | apply pw_below_drewN | apply below_drew1 | refine below_set ?_ GE374.out) | exact HB.out))) hn_)), Or.elim hk_ (fun hs_ => hs_.2) (fun hn_ => (Kd.freshB (g := gb374) (o := .cells #[.slice none 0 0] 26 (0, 0)) (by (with_reducible repeat (first | refine blk_drewN ?_ _ | refine blk_drew ?_ | refine blk_alloc ?_ _)); exact BK374.out) k_ hn_))⟩)) (below_size (by repeat (first | (with_reducible first | exact HB.out | apply below_alloc | apply pw_below_drewN | apply below_drew1 | refine below_set ?_ GE374.out) | exact HB.out)))); have n2_ := Aside0.mk (blk_below (g := gb374) (o := .cells #[.slice none 0 0] 26 (0, 0)) (by (with_reducible repeat (first | refine blk_drewN ?_ _ | refine blk_drew ?_ | refine blk_alloc ?_ _)); exact BK374.out) hb); have n3_ := Aside0.mk (below_step (by repeat (first | (with_reducible first | exact HB.out | apply below_alloc | apply pw_below_drewN | apply below_drew1 | refine below_set ?_ GE374.out) | exact HB.out)) hb); clear HO377; clear BK374; clear HB; have HO377 := n0_; have HO380 := n1_; have BK374 := n2_; have HB := n3_; clear n0_ n1_ n2_ n3_; (try clear hb); (try clear hb2); (try clear hk); (try clear hi); (try clear ho0)) | ((with_reducible refine gate_callee (f := 24) rfl ?_); refine goesL_ (some 21) rfl rfl Tryd.func24 (by kernel_rfl) rfl #[.slice Ao9 t375.length co9] rfl (by (try simp only [List.map_toArray, List.map_cons, List.map_nil]); first | done | rfl | (simp only [List.length_drop, List.length_take]; rfl)) ?_; (with_reducible refine (heraldref04_Text.calls k (fun k_ => ((w.heap.size ≤ k_) ∧ k_ ≠ gb374)) _ _ t375 t382 _ ?side1 A4.out).mono ?_); (case side1 => exact HO377.out); rintro e w11 ⟨rfl, hb⟩; refine ⟨_, rfl, ?_⟩; have n0_ := Aside0.mk (Kd.V_below (by (with_reducible repeat (first | apply Kd.V_alloc | apply Kd.V_drewN | apply Kd.V_drew)); exact HO377.out) hb); have n1_ := Aside0.mk (Kd.V_below (by (with_reducible repeat (first | apply Kd.V_alloc | apply Kd.V_drewN | apply Kd.V_drew)); exact HO380.out) hb); have n2_ := Aside0.mk (blk_below (g := gb374) (o := .cells #[.slice none 0 0] 26 (0, 0)) (by (with_reducible repeat (first | refine blk_drewN ?_ _ | refine blk_drew ?_ | refine blk_alloc ?_ _)); exact BK374.out) hb); have n3_ := Aside0.mk (below_step (by repeat (first | (with_reducible first | exact HB.out | apply below_alloc | apply pw_below_drewN | apply below_drew1 | refine below_set ?_ GE374.out) | exact HB.out)) hb); clear HO377; clear HO380; clear BK374; clear HB; have HO377 := n0_; have HO380 := n1_; have BK374 := n2_; have HB := n3_; clear n0_ n1_ n2_ n3_; (try clear hb); (try clear hb2); (try clear hk); (try clear hi)) | ((with_reducible refine gate_callee (f := 18) rfl ?_); refine goesL_ (some 22) rfl rfl Tryd.func18 (by kernel_rfl) rfl #[.string t382] rfl (by (try simp only [List.map_toArray, List.map_cons, List.map_nil]); first | done | rfl | (simp only [List.length_drop, List.length_take]; rfl)) ?_; (with_reducible refine (nat_Parse.calls k t382 t383 t386 t387 _ A5.out).mono ?_); rintro e w12 ⟨v384, rfl, ho0, hb⟩; refine ⟨_, rfl, ?_⟩; have n0_ := Aside0.mk (Kd.V_below (by (with_reducible repeat (first | apply Kd.V_alloc | apply Kd.V_drewN | apply Kd.V_drew)); exact HO377.out) hb); have n1_ := Aside0.mk (Kd.V_below (by (with_reducible repeat (first | apply Kd.V_alloc | apply Kd.V_drewN | apply Kd.V_drew)); exact HO380.out) hb); have n2_ := Aside0.mk (Kd.V_lower (Kd.V_mono (ok' := fun k_ => (w.heap.size ≤ k_) ∧ k_ ≠ gb374) ho0 (fun k_ hk_ => ⟨(Nat.le_trans (below_size (by repeat (first | (with_reducible first | exact HB.out | apply below_alloc | apply pw_below_drewN | apply below_drew1 | refine below_set ?_ GE374.out) | exact HB.out))) hk_), (Kd.freshB (g := gb374) (o := .cells #[.slice none 0 0] 26 (0, 0)) (by (with_reducible repeat (first | refine blk_drewN ?_ _ | refine blk_drew ?_ | refine blk_alloc ?_ _)); exact BK374.out) k_ hk_)⟩)) (below_size (by repeat (first | (with_reducible first | exact HB.out | apply below_alloc | apply pw_below_drewN | apply below_drew1 | refine below_set ?_ GE374.out) | exact HB.out)))); have n3_ := Aside0.mk (blk_below (g := gb374) (o := .cells #[.slice none 0 0] 26 (0, 0)) (by (with_reducible repeat (first | refine blk_drewN ?_ _ | refine blk_drew ?_ | refine blk_alloc ?_ _)); exact BK374.out) hb); have n4_ := Aside0.mk (below_step (by repeat (first | (with_reducible first | exact HB.out | apply below_alloc | apply pw_below_drewN | apply below_drew1 | refine below_set ?_ GE374.out) | exact HB.out)) hb); clear HO377; clear HO380; clear BK374; clear HB; have HO377 := n0_; have HO380 := n1_; have HO385 := n2_; have BK374 := n3_; have HB := n4_; clear n0_ n1_ n2_ n3_ n4_; (try clear hb); (try clear hb2); (try clear hk); (try clear hi); (try clear ho0)) | ((with_reducible refine gate_dst (N := 9) rfl ?_); refine box_event ?hg (N := 9) ?hd (cs := #[.slice none 0 0]) (t := 26) ?hr ?_; (case hd => rfl); (case hg => rfl); (case hr => first | (go_simp; done) | (go_simp; rfl)); intro gb388 hg w13 hbox hb; have n0_ := Aside0.mk (Kd.V_below (Kd.V_elderB (by (with_reducible repeat (first | apply Kd.V_alloc | apply Kd.V_drewN | apply Kd.V_drew)); exact HO377.out) gb388 (Nat.le_of_eq hg.symm)) hb); have n1_ := Aside0.mk (Kd.V_below (Kd.V_elderB (by (with_reducible repeat (first | apply Kd.V_alloc | apply Kd.V_drewN | apply Kd.V_drew)); exact HO380.out) gb388 (Nat.le_of_eq hg.symm)) hb); have n2_ := Aside0.mk (Kd.V_below (Kd.V_elderB (by (with_reducible repeat (first | apply Kd.V_alloc | apply Kd.V_drewN | apply Kd.V_drew)); exact HO385.out) gb388 (Nat.le_of_eq hg.symm)) hb); have n3_ := Aside0.mk (blk_below (g := gb374) (o := .cells #[.slice none 0 0] 26 (0, 0)) (by (with_reducible repeat (first | refine blk_drewN ?_ _ | refine blk_drew ?_ | refine blk_alloc ?_ _)); exact BK374.out) hb); have n4_ := Aside0.mk (below_step (by repeat (first | (with_reducible first | exact HB.out | apply below_alloc | apply pw_below_drewN | apply below_drew1 | refine below_set ?_ GE374.out) | exact HB.out)) hb); have n5_ := Aside0.mk (hbox); have n6_ := Aside0.mk ((by rw [hg]; exact (below_size (by repeat (first | (with_reducible first | exact HB.out | apply below_alloc | apply pw_below_drewN | apply below_drew1 | refine below_set ?_ GE374.out) | exact HB.out))) : w.heap.size ≤ gb388)); have n7_ := Aside0.mk ((by rw [hg]; exact (below_size (by repeat (first | (with_reducible first | exact HB.out | apply below_alloc | apply pw_below_drewN | apply below_drew1 | refine below_set ?_ GE374.out) | exact HB.out))) : w.heap.size ≤ gb388)); have n8_ := Aside0.mk ((by rw [hg]; exact Nat.ne_of_lt (blk_lt (g := gb374) (o := .cells #[.slice none 0 0] 26 (0, 0)) (by (with_reducible repeat (first | refine blk_drewN ?_ _ | refine blk_drew ?_ | refine blk_alloc ?_ _)); exact BK374.out)) : gb374 ≠ gb388)); have n9_ := Aside0.mk ((by rw [hg]; exact Nat.ne_of_gt (blk_lt (g := gb374) (o := .cells #[.slice none 0 0] 26 (0, 0)) (by (with_reducible repeat (first | refine blk_drewN ?_ _ | refine blk_drew ?_ | refine blk_alloc ?_ _)); exact BK374.out)) : gb388 ≠ gb374)); clear HO377; clear HO380; clear HO385; clear BK374; clear HB; have HO377 := n0_; have HO380 := n1_; have HO385 := n2_; have BK374 := n3_; have HB := n4_; have BK388 := n5_; have GW388 := n6_; have GE388 := n7_; have NB374_388 := n8_; have NB388_374 := n9_; clear n0_ n1_ n2_ n3_ n4_ n5_ n6_ n7_ n8_ n9_; clear hb hbox hg; obtain ⟨Ao14, co14, eo14⟩ := Kd.V_slice HO385.out; subst eo14; have hnb15 := NB388_374.out; have hnc15 := NB374_388.out; have hcz16_0 : w13.cell? ⟨gb388, 0, none⟩ = some (.slice none 0 0) := (blk_cell BK388.out 0).trans rfl; have hfz16_0 := blk_frozen BK388.out 0))
    have n0_ : Aside0 (Kd.V (Kd.int .i64) 3 (w13.setCell ⟨gb388, 0, none⟩ (.slice Ao14 t383.length co14)) w.heap.size (fun k_ => (w.heap.size ≤ k_) ∧ k_ ≠ gb374 ∧ k_ ≠ gb388) (.slice Ao9 t375.length co9) t375) := ⟨by (with_reducible repeat (first | apply Kd.V_alloc | apply Kd.V_drewN | apply Kd.V_drew)); exact Kd.V_mono (Kd.V_far (p := ⟨gb388, 0, none⟩) (Kd.V_mono HO377.out (fun k_ hk => (⟨hk, hk.2⟩ : _ ∧ k_ ≠ gb388))) (fun _ hk => hk.2) (.slice Ao14 t383.length co14)) (fun _ hk => ⟨hk.1.1.1, ⟨hk.1.1.2, hk.1.2⟩⟩)⟩
    have n1_ : Aside0 (Kd.V (Kd.int .i64) 3 (w13.setCell ⟨gb388, 0, none⟩ (.slice Ao14 t383.length co14)) w.heap.size (fun k_ => (w.heap.size ≤ k_) ∧ k_ ≠ gb374 ∧ k_ ≠ gb388) v379 t378) := ⟨by (with_reducible repeat (first | apply Kd.V_alloc | apply Kd.V_drewN | apply Kd.V_drew)); exact Kd.V_mono (Kd.V_far (p := ⟨gb388, 0, none⟩) (Kd.V_mono HO380.out (fun k_ hk => (⟨hk, hk.2⟩ : _ ∧ k_ ≠ gb388))) (fun _ hk => hk.2) (.slice Ao14 t383.length co14)) (fun _ hk => ⟨hk.1.1.1, ⟨hk.1.1.2, hk.1.2⟩⟩)⟩
    have n2_ : Aside0 (Kd.V (Kd.int .u32) 79 (w13.setCell ⟨gb388, 0, none⟩ (.slice Ao14 t383.length co14)) w.heap.size (fun k_ => (w.heap.size ≤ k_) ∧ k_ ≠ gb374 ∧ k_ ≠ gb388) (.slice Ao14 t383.length co14) t383) := ⟨by (with_reducible repeat (first | apply Kd.V_alloc | apply Kd.V_drewN | apply Kd.V_drew)); exact Kd.V_mono (Kd.V_far (p := ⟨gb388, 0, none⟩) (Kd.V_mono HO385.out (fun k_ hk => (⟨hk, hk.2⟩ : _ ∧ k_ ≠ gb388))) (fun _ hk => hk.2) (.slice Ao14 t383.length co14)) (fun _ hk => ⟨hk.1.1.1, ⟨hk.1.1.2, hk.1.2⟩⟩)⟩
    have n3_ : Aside0 ((w13.setCell ⟨gb388, 0, none⟩ (.slice Ao14 t383.length co14)).heap[gb374]? = some (.cells #[.slice none 0 0] 26 (0, 0))) := ⟨by (with_reducible repeat (first | refine blk_drewN ?_ _ | refine blk_drew ?_ | refine blk_alloc ?_ _)); refine blk_far ?_ NB374_388.out _; (with_reducible repeat (first | refine blk_drewN ?_ _ | refine blk_drew ?_ | refine blk_alloc ?_ _)); exact BK374.out⟩
    have n4_ : Aside0 ((w13.setCell ⟨gb388, 0, none⟩ (.slice Ao14 t383.length co14)).heap[gb388]? = some (.cells #[.slice Ao14 t383.length co14] 26 (0, 0))) := ⟨by (with_reducible repeat (first | refine blk_drewN ?_ _ | refine blk_drew ?_ | refine blk_alloc ?_ _)); refine blk_put (cs := #[.slice none 0 0]) ?_ 0 _ rfl; (with_reducible repeat (first | refine blk_drewN ?_ _ | refine blk_drew ?_ | refine blk_alloc ?_ _)); exact BK388.out⟩
    have n5_ : Aside0 (Below w.heap.size w (w13.setCell ⟨gb388, 0, none⟩ (.slice Ao14 t383.length co14))) := ⟨by repeat (first | (with_reducible first | exact HB.out | apply below_alloc | apply pw_below_drewN | apply below_drew1 | refine below_set ?_ GE374.out | refine below_set ?_ GE388.out) | exact HB.out)⟩
    (try clear HO377)
    (try clear HO380)
    (try clear HO385)
    (try clear BK374)
    (try clear BK388)
    (try clear HB)
    generalize (w13.setCell ⟨gb388, 0, none⟩ (.slice Ao14 t383.length co14)) = w17 at n0_ n1_ n2_ n3_ n4_ n5_ ⊢
    have HO377 := n0_
    have HO380 := n1_
    have HO385 := n2_
    have BK374 := n3_
    have BK388 := n4_
    have HB := n5_
    clear n0_ n1_ n2_ n3_ n4_ n5_
    have n0_ := Aside0.mk (Kd.V_drew HO377.out)
    have n1_ := Aside0.mk (Kd.V_drew HO380.out)
    have n2_ := Aside0.mk (Kd.V_drew HO385.out)
    have n3_ := Aside0.mk (blk_drew BK374.out)
    have n4_ := Aside0.mk (blk_drew BK388.out)
    have n5_ := Aside0.mk (below_drew1 HB.out)
    clear HO377
    clear HO380
    clear HO385
    clear BK374
    clear BK388
    clear HB
    have HO377 := n0_
    have HO380 := n1_
    have HO385 := n2_
    have BK374 := n3_
    have BK388 := n4_
    have HB := n5_
    clear n0_ n1_ n2_ n3_ n4_ n5_
    refine start_ (n := 15) (S := fun w' => w'.cell? ⟨gb388, 0, none⟩ = some (.slice Ao14 t383.length co14)) (ds := []) #[false, false, false, false, false, false, false, false, false, false, false, false, false, false, false] (by kernel_rfl) rfl rfl ((blk_cell BK388.out 0).trans rfl) (fun hHeld => ?_); refine with_tabW heraldlaw04_given.tab4 heraldlaw04_given.bits4 (fun HT_ HW_ => ?_)
    generalize w17.drew = w18 at HO377 HO380 HO385 BK374 BK388 HB hHeld ⊢
    refine pure_ (i := 0) (N := some 26) (v := ?_) (a' := ?_) #[true, false, false, false, false, false, false, false, false, false, false, false, false, false, false] rfl rfl (any_of HT_.out (by kernel_rfl)) (fun _ _ _ h => h) (Or.inl ⟨by rfl, ?_⟩) ?_ ?_
    rotate_left
    · intro w'
      go_simp
      with_reducible rfl
    rotate_left
    · simp only [Act.put, List.setIfInBounds_toArray, List.set_cons_zero, List.set_cons_succ, i64_w, i32_w]
      rfl
    refine pure_ (i := 2) (N := some 28) (v := ?_) (a' := ?_) #[true, false, true, false, false, false, false, false, false, false, false, false, false, false, false] rfl rfl (any_of HT_.out (by kernel_rfl)) (fun _ _ _ h => h) (Or.inl ⟨by rfl, ?_⟩) ?_ ?_
    rotate_left
    · intro w'
      go_simp
      with_reducible rfl
    rotate_left
    · simp only [Act.put, List.setIfInBounds_toArray, List.set_cons_zero, List.set_cons_succ, i64_w, i32_w]
      rfl
    refine pure_ (i := 3) (N := some 29) (v := ?_) (a' := ?_) #[true, false, true, true, false, false, false, false, false, false, false, false, false, false, false] rfl rfl (any_of HT_.out (by kernel_rfl)) (fun _ _ _ h => h) (Or.inl ⟨by rfl, ?_⟩) ?_ ?_
    rotate_left
    · intro w'
      go_simp
      with_reducible rfl
    rotate_left
    · simp only [Act.put, List.setIfInBounds_toArray, List.set_cons_zero, List.set_cons_succ, i64_w, i32_w]
      rfl
    refine pure_ (i := 4) (N := some 30) (v := ?_) (a' := ?_) #[true, false, true, true, true, false, false, false, false, false, false, false, false, false, false] rfl rfl (any_of HT_.out (by kernel_rfl)) (fun _ _ _ h => h) (Or.inl ⟨by rfl, ?_⟩) ?_ ?_
    rotate_left
    · intro w'
      go_simp
      with_reducible rfl
    rotate_left
    · simp only [Act.put, List.setIfInBounds_toArray, List.set_cons_zero, List.set_cons_succ, i64_w, i32_w]
      rfl
    refine pure_ (i := 5) (N := some 31) (v := ?_) (a' := ?_) #[true, false, true, true, true, true, false, false, false, false, false, false, false, false, false] rfl rfl (any_of HT_.out (by kernel_rfl)) (fun _ _ _ h => h) (Or.inl ⟨by rfl, ?_⟩) ?_ ?_
    rotate_left
    · intro w'
      go_simp
      with_reducible rfl
    rotate_left
    · simp only [Act.put, List.setIfInBounds_toArray, List.set_cons_zero, List.set_cons_succ, i64_w, i32_w]
      rfl
    refine pure_ (i := 6) (N := some 32) (v := ?_) (a' := ?_) #[true, false, true, true, true, true, true, false, false, false, false, false, false, false, false] rfl rfl (any_of HT_.out (by kernel_rfl)) (fun _ _ _ h => h) (Or.inl ⟨by rfl, ?_⟩) ?_ ?_
    rotate_left
    · intro w'
      go_simp
      with_reducible rfl
    rotate_left
    · simp only [Act.put, List.setIfInBounds_toArray, List.set_cons_zero, List.set_cons_succ, i64_w, i32_w]
      rfl
    refine pure_ (i := 7) (N := some 33) (v := ?_) (a' := ?_) #[true, false, true, true, true, true, true, true, false, false, false, false, false, false, false] rfl rfl (any_of HT_.out (by kernel_rfl)) (fun _ _ _ h => h) (Or.inl ⟨by rfl, ?_⟩) ?_ ?_
    rotate_left
    · intro w'
      go_simp
      with_reducible rfl
    rotate_left
    · simp only [Act.put, List.setIfInBounds_toArray, List.set_cons_zero, List.set_cons_succ, i64_w, i32_w]
      rfl
    refine pure_ (i := 8) (N := some 34) (v := ?_) (a' := ?_) #[true, false, true, true, true, true, true, true, true, false, false, false, false, false, false] rfl rfl (any_of HT_.out (by kernel_rfl)) (fun _ _ _ h => h) (Or.inl ⟨by rfl, ?_⟩) ?_ ?_
    rotate_left
    · intro w'
      go_simp
      with_reducible rfl
    rotate_left
    · simp only [Act.put, List.setIfInBounds_toArray, List.set_cons_zero, List.set_cons_succ, i64_w, i32_w]
      rfl
    refine pure_ (i := 9) (N := some 35) (v := ?_) (a' := ?_) #[true, false, true, true, true, true, true, true, true, true, false, false, false, false, false] rfl rfl (any_of HT_.out (by kernel_rfl)) (fun _ _ _ h => h) (Or.inl ⟨by rfl, ?_⟩) ?_ ?_
    rotate_left
    · intro w'
      go_simp
      with_reducible rfl
    rotate_left
    · simp only [Act.put, List.setIfInBounds_toArray, List.set_cons_zero, List.set_cons_succ, i64_w, i32_w]
      rfl
    refine pure_ (i := 10) (N := some 36) (v := ?_) (a' := ?_) #[true, false, true, true, true, true, true, true, true, true, true, false, false, false, false] rfl rfl (any_of HT_.out (by kernel_rfl)) (fun _ _ _ h => h) (Or.inl ⟨by rfl, ?_⟩) ?_ ?_
    rotate_left
    · intro w'
      go_simp
      with_reducible rfl
    rotate_left
    · simp only [Act.put, List.setIfInBounds_toArray, List.set_cons_zero, List.set_cons_succ, i64_w, i32_w]
      rfl
    refine pure_ (i := 11) (N := some 2) (v := ?_) (a' := ?_) #[true, false, true, true, true, true, true, true, true, true, true, true, false, false, false] rfl rfl (any_of HT_.out (by kernel_rfl)) (fun _ _ _ h => h) (Or.inl ⟨by rfl, ?_⟩) ?_ ?_
    rotate_left
    · intro w'
      go_simp
      with_reducible rfl
    rotate_left
    · simp only [Act.put, List.setIfInBounds_toArray, List.set_cons_zero, List.set_cons_succ, i64_w, i32_w]
      rfl
    refine take_ (i := 1) (N := some 27) (v := ?_) (a' := ?_) #[true, true, true, true, true, true, true, true, true, true, true, true, false, false, false] rfl rfl (take_ofW HT_.out HW_.out (by kernel_rfl)) (fun _ _ _ h => h) (Or.inl ⟨by rfl, ?_⟩) hHeld ?_ ?_
    rotate_left
    · intro w' s0
      go_simp
      with_reducible rfl
    rotate_left
    · simp only [Act.put, List.setIfInBounds_toArray, List.set_cons_zero, List.set_cons_succ, i64_w, i32_w]
      rfl
    refine one_ (i := 12) (N := none) #[true, true, true, true, true, true, true, true, true, true, true, true, true, false, false] rfl rfl (one_of HT_.out (by kernel_rfl)) (by decide) (fun K hK => ?_)
    have hs19 : w18.cell? ⟨gb374, 0, none⟩ = some (.slice none 0 0) := (blk_cell BK374.out 0).trans rfl
    have hfs19 := blk_frozen BK374.out 0
    have hns19_1 := NB388_374.out
    have hms19_1 := NB374_388.out
    refine skip_ (w1 := ?_) (by rfl) rfl ?_ ?_
    rotate_left
    · go_simp
      rfl
    refine hK.out _ _ (((cell_far (p := ⟨gb374, _, none⟩) NB388_374.out _).trans (hHeld))) (fun hHeld => ?_)
    clear hK K
    refine pure_ (i := 13) (N := some 4) (v := ?_) (a' := ?_) #[true, true, true, true, true, true, true, true, true, true, true, true, true, true, false] rfl rfl (any_of HT_.out (by kernel_rfl)) (fun _ _ _ h => h) (Or.inl ⟨by rfl, ?_⟩) ?_ ?_
    rotate_left
    · intro w'
      go_simp
      with_reducible rfl
    rotate_left
    · simp only [Act.put, List.setIfInBounds_toArray, List.set_cons_zero, List.set_cons_succ, i64_w, i32_w]
      rfl
    refine pure_ (i := 14) (N := some 5) (v := ?_) (a' := ?_) #[true, true, true, true, true, true, true, true, true, true, true, true, true, true, true] rfl rfl (any_of HT_.out (by kernel_rfl)) (fun _ _ _ h => h) (Or.inl ⟨by rfl, ?_⟩) ?_ ?_
    rotate_left
    · intro w'
      go_simp
      with_reducible rfl
    rotate_left
    · simp only [Act.put, List.setIfInBounds_toArray, List.set_cons_zero, List.set_cons_succ, i64_w, i32_w]
      rfl
    refine done_ (done_of HT_.out (by kernel_rfl)) ?_
    try go_wp2
    refine bodyPost_ret (results_list (rs := [.tmp 2, .cell 3 26, .tmp 4, .tmp 5]) rfl (by simp) (.tmp (.cell gb374 26 #[.slice Ao14 t383.length co14] (0, 0) _ rfl (by (with_reducible repeat (first | refine blk_drewN ?_ _ | refine blk_drew ?_ | refine blk_alloc ?_ _)); refine blk_put (cs := #[.slice none 0 0]) ?_ 0 _ rfl; (with_reducible repeat (first | refine blk_drewN ?_ _ | refine blk_drew ?_ | refine blk_alloc ?_ _)); exact BK374.out) Tryd.underlying26 rfl (by kernel_rfl) (.tmp (.tmp .nil))))) rfl ?_
    exact ⟨_, _, by first | rfl | (simp [errW_none, errW_some] <;> rfl) | (simp [*, errW_none, errW_some] <;> rfl), by (with_reducible repeat (first | apply Kd.V_alloc | apply Kd.V_drewN | apply Kd.V_drew)); exact Kd.V_mono (Kd.V_far (p := ⟨gb374, 0, none⟩) (Kd.V_mono HO377.out (fun k_ hk => (⟨hk, hk.2.1⟩ : _ ∧ k_ ≠ gb374))) (fun _ hk => hk.2) (.slice Ao14 t383.length co14)) (fun _ hk => hk.1.1), by (with_reducible repeat (first | apply Kd.V_alloc | apply Kd.V_drewN | apply Kd.V_drew)); exact Kd.V_mono (Kd.V_far (p := ⟨gb374, 0, none⟩) (Kd.V_mono HO385.out (fun k_ hk => (⟨hk, hk.2.1⟩ : _ ∧ k_ ≠ gb374))) (fun _ hk => hk.2) (.slice Ao14 t383.length co14)) (fun _ hk => hk.1.1), by repeat (first | (with_reducible first | exact HB.out | apply below_alloc | apply pw_below_drewN | apply below_drew1 | refine below_set ?_ GE374.out | refine below_set ?_ GE388.out) | exact HB.out)⟩
  · rw [if_neg c6] at H
    have c6b0 : (t387 == t381) = false := beq_eq_false_iff_ne.mpr c6
    have c6b1 : (t387 != t381) = true := bne_iff_ne.mpr c6
    simp only [Option.some.injEq, Prod.mk.injEq] at H
    obtain ⟨rfl, rfl, rfl, rfl⟩ := H
    go_enter Tryd.func21, Tryd.ntmps21
    try go_wp2_with (first | ((with_reducible refine gate_dst (N := 3) rfl ?_); refine box_event ?hg (N := 3) ?hd (cs := #[.slice none 0 0]) (t := 26) ?hr ?_; (case hd => rfl); (case hg => rfl); (case hr => first | (go_simp; done) | (go_simp; rfl)); intro gb374 hg w20 hbox hb; have n0_ := Aside0.mk (below_step (by repeat (first | (with_reducible first | exact HB.out | apply below_alloc | apply pw_below_drewN | apply below_drew1) | exact HB.out)) hb); have n1_ := Aside0.mk (hbox); have n2_ := Aside0.mk ((by rw [hg]; exact (below_size (by repeat (first | (with_reducible first | exact HB.out | apply below_alloc | apply pw_below_drewN | apply below_drew1) | exact HB.out))) : w.heap.size ≤ gb374)); have n3_ := Aside0.mk ((by rw [hg]; exact (below_size (by repeat (first | (with_reducible first | exact HB.out | apply below_alloc | apply pw_below_drewN | apply below_drew1) | exact HB.out))) : w.heap.size ≤ gb374)); clear HB; have HB := n0_; have BK374 := n1_; have GW374 := n2_; have GE374 := n3_; clear n0_ n1_ n2_ n3_; clear hb hbox hg) | ((with_reducible refine gate_callee (f := 53) rfl ?_); refine goesL_ (some 13) rfl rfl Tryd.func53 (by kernel_rfl) rfl #[.slice A0 l0.length c0] rfl (by (try simp only [List.map_toArray, List.map_cons, List.map_nil]); first | done | rfl | (simp only [List.length_drop, List.length_take]; rfl)) ?_; (with_reducible refine (heraldref04_Words.calls k _ _ l0 t375 _ ?side1 ?side2 A2.out).mono ?_); (case side1 => repeat (first | exact (Kd.C_below HR0.out HB.out) | (with_reducible refine Kd.C_alloc ?_ _) | (with_reducible refine Kd.C_drewN ?_ _) | (with_reducible refine Kd.C_drew ?_))); (case side2 => exact HC0.out); rintro e w21 ⟨v376, rfl, ho0, hb⟩; refine ⟨_, rfl, ?_⟩; have n0_ := Aside0.mk (Kd.V_lower (Kd.V_mono (ok' := fun k_ => (w.heap.size ≤ k_) ∧ k_ ≠ gb374) ho0 (fun k_ hk_ => ⟨(Nat.le_trans (below_size (by repeat (first | (with_reducible first | exact HB.out | apply below_alloc | apply pw_below_drewN | apply below_drew1 | refine below_set ?_ GE374.out) | exact HB.out))) hk_), (Kd.freshB (g := gb374) (o := .cells #[.slice none 0 0] 26 (0, 0)) (by (with_reducible repeat (first | refine blk_drewN ?_ _ | refine blk_drew ?_ | refine blk_alloc ?_ _)); exact BK374.out) k_ hk_)⟩)) (below_size (by repeat (first | (with_reducible first | exact HB.out | apply below_alloc | apply pw_below_drewN | apply below_drew1 | refine below_set ?_ GE374.out) | exact HB.out)))); have n1_ := Aside0.mk (blk_below (g := gb374) (o := .cells #[.slice none 0 0] 26 (0, 0)) (by (with_reducible repeat (first | refine blk_drewN ?_ _ | refine blk_drew ?_ | refine blk_alloc ?_ _)); exact BK374.out) hb); have n2_ := Aside0.mk (below_step (by repeat (first | (with_reducible first | exact HB.out | apply below_alloc | apply pw_below_drewN | apply below_drew1 | refine below_set ?_ GE374.out) | exact HB.out)) hb); clear BK374; clear HB; have HO377 := n0_; have BK374 := n1_; have HB := n2_; clear n0_ n1_ n2_; (try clear hb); (try clear hb2); (try clear hk); (try clear hi); (try clear ho0); obtain ⟨Ao22, co22, eo22⟩ := Kd.V_slice HO377.out; subst eo22) | ((with_reducible refine gate_callee (f := 54) rfl ?_); refine goesL_ (some 16) rfl rfl Tryd.func54 (by kernel_rfl) rfl #[.slice Ao22 t375.length co22] rfl (by (try simp only [List.map_toArray, List.map_cons, List.map_nil]); first | done | rfl | (simp only [List.length_drop, List.length_take]; rfl)) ?_; (with_reducible refine (heraldref04_Fit.calls k (fun k_ => ((w.heap.size ≤ k_) ∧ k_ ≠ gb374)) _ _ t375 t378 t381 _ ?side1 A3.out).mono ?_); (case side1 => exact HO377.out); rintro e w23 ⟨v379, rfl, ho0, hb⟩; refine ⟨_, rfl, ?_⟩; have n0_ := Aside0.mk (Kd.V_below (by (with_reducible repeat (first | apply Kd.V_alloc | apply Kd.V_drewN | apply Kd.V_drew)); exact HO377.out) hb); have n1_ := Aside0.mk (Kd.V_lower (Kd.V_mono (ok' := fun k_ => (w.heap.size ≤ k_) ∧ k_ ≠ gb374) ho0 (fun k_ hk_ => ⟨Or.elim hk_ (fun hs_ => hs_.1) (fun hn_ => (Nat.le_trans (below_size (by repeat (first | (with_reducible first | exact HB.out | apply below_alloc | apply pw_below_drewN | apply below_drew1 | refine below_set ?_ GE374.out) | exact HB.out))) hn_)), Or.elim hk_ (fun hs_ => hs_.2) (fun hn_ => (Kd.freshB (g := gb374) (o := .cells #[.slice none 0 0] 26 (0, 0)) (by (with_reducible repeat (first | refine blk_drewN ?_ _ | refine blk_drew ?_ | refine blk_alloc ?_ _)); exact BK374.out) k_ hn_))⟩)) (below_size (by repeat (first | (with_reducible first | exact HB.out | apply below_alloc | apply pw_below_drewN | apply below_drew1 | refine below_set ?_ GE374.out) | exact HB.out)))); have n2_ := Aside0.mk (blk_below (g := gb374) (o := .cells #[.slice none 0 0] 26 (0, 0)) (by (with_reducible repeat (first | refine blk_drewN ?_ _ | refine blk_drew ?_ | refine blk_alloc ?_ _)); exact BK374.out) hb); have n3_ := Aside0.mk (below_step (by repeat (first | (with_reducible first | exact HB.out | apply below_alloc | apply pw_below_drewN | apply below_drew1 | refine below_set ?_ GE374.out) | exact HB.out)) hb); clear HO377; clear BK374; clear HB; have HO377 := n0_; have HO380 := n1_; have BK374 := n2_; have HB := n3_; clear n0_ n1_ n2_ n3_; (try clear hb); (try clear hb2); (try clear hk); (try clear hi); (try clear ho0)) | ((with_reducible refine gate_callee (f := 24) rfl ?_); refine goesL_ (some 21) rfl rfl Tryd.func24 (by kernel_rfl) rfl #[.slice Ao22 t375.length co22] rfl (by (try simp only [List.map_toArray, List.map_cons, List.map_nil]); first | done | rfl | (simp only [List.length_drop, List.length_take]; rfl)) ?_; (with_reducible refine (heraldref04_Text.calls k (fun k_ => ((w.heap.size ≤ k_) ∧ k_ ≠ gb374)) _ _ t375 t382 _ ?side1 A4.out).mono ?_); (case side1 => exact HO377.out); rintro e w24 ⟨rfl, hb⟩; refine ⟨_, rfl, ?_⟩; have n0_ := Aside0.mk (Kd.V_below (by (with_reducible repeat (first | apply Kd.V_alloc | apply Kd.V_drewN | apply Kd.V_drew)); exact HO377.out) hb); have n1_ := Aside0.mk (Kd.V_below (by (with_reducible repeat (first | apply Kd.V_alloc | apply Kd.V_drewN | apply Kd.V_drew)); exact HO380.out) hb); have n2_ := Aside0.mk (blk_below (g := gb374) (o := .cells #[.slice none 0 0] 26 (0, 0)) (by (with_reducible repeat (first | refine blk_drewN ?_ _ | refine blk_drew ?_ | refine blk_alloc ?_ _)); exact BK374.out) hb); have n3_ := Aside0.mk (below_step (by repeat (first | (with_reducible first | exact HB.out | apply below_alloc | apply pw_below_drewN | apply below_drew1 | refine below_set ?_ GE374.out) | exact HB.out)) hb); clear HO377; clear HO380; clear BK374; clear HB; have HO377 := n0_; have HO380 := n1_; have BK374 := n2_; have HB := n3_; clear n0_ n1_ n2_ n3_; (try clear hb); (try clear hb2); (try clear hk); (try clear hi)) | ((with_reducible refine gate_callee (f := 18) rfl ?_); refine goesL_ (some 22) rfl rfl Tryd.func18 (by kernel_rfl) rfl #[.string t382] rfl (by (try simp only [List.map_toArray, List.map_cons, List.map_nil]); first | done | rfl | (simp only [List.length_drop, List.length_take]; rfl)) ?_; (with_reducible refine (nat_Parse.calls k t382 t383 t386 t387 _ A5.out).mono ?_); rintro e w25 ⟨v384, rfl, ho0, hb⟩; refine ⟨_, rfl, ?_⟩; have n0_ := Aside0.mk (Kd.V_below (by (with_reducible repeat (first | apply Kd.V_alloc | apply Kd.V_drewN | apply Kd.V_drew)); exact HO377.out) hb); have n1_ := Aside0.mk (Kd.V_below (by (with_reducible repeat (first | apply Kd.V_alloc | apply Kd.V_drewN | apply Kd.V_drew)); exact HO380.out) hb); have n2_ := Aside0.mk (Kd.V_lower (Kd.V_mono (ok' := fun k_ => (w.heap.size ≤ k_) ∧ k_ ≠ gb374) ho0 (fun k_ hk_ => ⟨(Nat.le_trans (below_size (by repeat (first | (with_reducible first | exact HB.out | apply below_alloc | apply pw_below_drewN | apply below_drew1 | refine below_set ?_ GE374.out) | exact HB.out))) hk_), (Kd.freshB (g := gb374) (o := .cells #[.slice none 0 0] 26 (0, 0)) (by (with_reducible repeat (first | refine blk_drewN ?_ _ | refine blk_drew ?_ | refine blk_alloc ?_ _)); exact BK374.out) k_ hk_)⟩)) (below_size (by repeat (first | (with_reducible first | exact HB.out | apply below_alloc | apply pw_below_drewN | apply below_drew1 | refine below_set ?_ GE374.out) | exact HB.out)))); have n3_ := Aside0.mk (blk_below (g := gb374) (o := .cells #[.slice none 0 0] 26 (0, 0)) (by (with_reducible repeat (first | refine blk_drewN ?_ _ | refine blk_drew ?_ | refine blk_alloc ?_ _)); exact BK374.out) hb); have n4_ := Aside0.mk (below_step (by repeat (first | (with_reducible first | exact HB.out | apply below_alloc | apply pw_below_drewN | apply below_drew1 | refine below_set ?_ GE374.out) | exact HB.out)) hb); clear HO377; clear HO380; clear BK374; clear HB; have HO377 := n0_; have HO380 := n1_; have HO385 := n2_; have BK374 := n3_; have HB := n4_; clear n0_ n1_ n2_ n3_ n4_; (try clear hb); (try clear hb2); (try clear hk); (try clear hi); (try clear ho0)) | ((with_reducible refine gate_dst (N := 9) rfl ?_); refine box_event ?hg (N := 9) ?hd (cs := #[.slice none 0 0]) (t := 26) ?hr ?_; (case hd => rfl); (case hg => rfl); (case hr => first | (go_simp; done) | (go_simp; rfl)); intro gb388 hg w26 hbox hb; have n0_ := Aside0.mk (Kd.V_below (Kd.V_elderB (by (with_reducible repeat (first | apply Kd.V_alloc | apply Kd.V_drewN | apply Kd.V_drew)); exact HO377.out) gb388 (Nat.le_of_eq hg.symm)) hb); have n1_ := Aside0.mk (Kd.V_below (Kd.V_elderB (by (with_reducible repeat (first | apply Kd.V_alloc | apply Kd.V_drewN | apply Kd.V_drew)); exact HO380.out) gb388 (Nat.le_of_eq hg.symm)) hb); have n2_ := Aside0.mk (Kd.V_below (Kd.V_elderB (by (with_reducible repeat (first | apply Kd.V_alloc | apply Kd.V_drewN | apply Kd.V_drew)); exact HO385.out) gb388 (Nat.le_of_eq hg.symm)) hb); have n3_ := Aside0.mk (blk_below (g := gb374) (o := .cells #[.slice none 0 0] 26 (0, 0)) (by (with_reducible repeat (first | refine blk_drewN ?_ _ | refine blk_drew ?_ | refine blk_alloc ?_ _)); exact BK374.out) hb); have n4_ := Aside0.mk (below_step (by repeat (first | (with_reducible first | exact HB.out | apply below_alloc | apply pw_below_drewN | apply below_drew1 | refine below_set ?_ GE374.out) | exact HB.out)) hb); have n5_ := Aside0.mk (hbox); have n6_ := Aside0.mk ((by rw [hg]; exact (below_size (by repeat (first | (with_reducible first | exact HB.out | apply below_alloc | apply pw_below_drewN | apply below_drew1 | refine below_set ?_ GE374.out) | exact HB.out))) : w.heap.size ≤ gb388)); have n7_ := Aside0.mk ((by rw [hg]; exact (below_size (by repeat (first | (with_reducible first | exact HB.out | apply below_alloc | apply pw_below_drewN | apply below_drew1 | refine below_set ?_ GE374.out) | exact HB.out))) : w.heap.size ≤ gb388)); have n8_ := Aside0.mk ((by rw [hg]; exact Nat.ne_of_lt (blk_lt (g := gb374) (o := .cells #[.slice none 0 0] 26 (0, 0)) (by (with_reducible repeat (first | refine blk_drewN ?_ _ | refine blk_drew ?_ | refine blk_alloc ?_ _)); exact BK374.out)) : gb374 ≠ gb388)); have n9_ := Aside0.mk ((by rw [hg]; exact Nat.ne_of_gt (blk_lt (g := gb374) (o := .cells #[.slice none 0 0] 26 (0, 0)) (by (with_reducible repeat (first | refine blk_drewN ?_ _ | refine blk_drew ?_ | refine blk_alloc ?_ _)); exact BK374.out)) : gb388 ≠ gb374)); clear HO377; clear HO380; clear HO385; clear BK374; clear HB; have HO377 := n0_; have HO380 := n1_; have HO385 := n2_; have BK374 := n3_; have HB := n4_; have BK388 := n5_; have GW388 := n6_; have GE388 := n7_; have NB374_388 := n8_; have NB388_374 := n9_; clear n0_ n1_ n2_ n3_ n4_ n5_ n6_ n7_ n8_ n9_; clear hb hbox hg; obtain ⟨Ao27, co27, eo27⟩ := Kd.V_slice HO385.out; subst eo27; have hnb28 := NB388_374.out; have hnc28 := NB374_388.out; have hcz29_0 : w26.cell? ⟨gb388, 0, none⟩ = some (.slice none 0 0) := (blk_cell BK388.out 0).trans rfl; have hfz29_0 := blk_frozen BK388.out 0))
    have n0_ : Aside0 (Kd.V (Kd.int .i64) 3 (w26.setCell ⟨gb388, 0, none⟩ (.slice Ao27 t383.length co27)) w.heap.size (fun k_ => (w.heap.size ≤ k_) ∧ k_ ≠ gb374 ∧ k_ ≠ gb388) (.slice Ao22 t375.length co22) t375) := ⟨by (with_reducible repeat (first | apply Kd.V_alloc | apply Kd.V_drewN | apply Kd.V_drew)); exact Kd.V_mono (Kd.V_far (p := ⟨gb388, 0, none⟩) (Kd.V_mono HO377.out (fun k_ hk => (⟨hk, hk.2⟩ : _ ∧ k_ ≠ gb388))) (fun _ hk => hk.2) (.slice Ao27 t383.length co27)) (fun _ hk => ⟨hk.1.1.1, ⟨hk.1.1.2, hk.1.2⟩⟩)⟩
    have n1_ : Aside0 (Kd.V (Kd.int .i64) 3 (w26.setCell ⟨gb388, 0, none⟩ (.slice Ao27 t383.length co27)) w.heap.size (fun k_ => (w.heap.size ≤ k_) ∧ k_ ≠ gb374 ∧ k_ ≠ gb388) v379 t378) := ⟨by (with_reducible repeat (first | apply Kd.V_alloc | apply Kd.V_drewN | apply Kd.V_drew)); exact Kd.V_mono (Kd.V_far (p := ⟨gb388, 0, none⟩) (Kd.V_mono HO380.out (fun k_ hk => (⟨hk, hk.2⟩ : _ ∧ k_ ≠ gb388))) (fun _ hk => hk.2) (.slice Ao27 t383.length co27)) (fun _ hk => ⟨hk.1.1.1, ⟨hk.1.1.2, hk.1.2⟩⟩)⟩
    have n2_ : Aside0 (Kd.V (Kd.int .u32) 79 (w26.setCell ⟨gb388, 0, none⟩ (.slice Ao27 t383.length co27)) w.heap.size (fun k_ => (w.heap.size ≤ k_) ∧ k_ ≠ gb374 ∧ k_ ≠ gb388) (.slice Ao27 t383.length co27) t383) := ⟨by (with_reducible repeat (first | apply Kd.V_alloc | apply Kd.V_drewN | apply Kd.V_drew)); exact Kd.V_mono (Kd.V_far (p := ⟨gb388, 0, none⟩) (Kd.V_mono HO385.out (fun k_ hk => (⟨hk, hk.2⟩ : _ ∧ k_ ≠ gb388))) (fun _ hk => hk.2) (.slice Ao27 t383.length co27)) (fun _ hk => ⟨hk.1.1.1, ⟨hk.1.1.2, hk.1.2⟩⟩)⟩
    have n3_ : Aside0 ((w26.setCell ⟨gb388, 0, none⟩ (.slice Ao27 t383.length co27)).heap[gb374]? = some (.cells #[.slice none 0 0] 26 (0, 0))) := ⟨by (with_reducible repeat (first | refine blk_drewN ?_ _ | refine blk_drew ?_ | refine blk_alloc ?_ _)); refine blk_far ?_ NB374_388.out _; (with_reducible repeat (first | refine blk_drewN ?_ _ | refine blk_drew ?_ | refine blk_alloc ?_ _)); exact BK374.out⟩
    have n4_ : Aside0 ((w26.setCell ⟨gb388, 0, none⟩ (.slice Ao27 t383.length co27)).heap[gb388]? = some (.cells #[.slice Ao27 t383.length co27] 26 (0, 0))) := ⟨by (with_reducible repeat (first | refine blk_drewN ?_ _ | refine blk_drew ?_ | refine blk_alloc ?_ _)); refine blk_put (cs := #[.slice none 0 0]) ?_ 0 _ rfl; (with_reducible repeat (first | refine blk_drewN ?_ _ | refine blk_drew ?_ | refine blk_alloc ?_ _)); exact BK388.out⟩
    have n5_ : Aside0 (Below w.heap.size w (w26.setCell ⟨gb388, 0, none⟩ (.slice Ao27 t383.length co27))) := ⟨by repeat (first | (with_reducible first | exact HB.out | apply below_alloc | apply pw_below_drewN | apply below_drew1 | refine below_set ?_ GE374.out | refine below_set ?_ GE388.out) | exact HB.out)⟩
    (try clear HO377)
    (try clear HO380)
    (try clear HO385)
    (try clear BK374)
    (try clear BK388)
    (try clear HB)
    generalize (w26.setCell ⟨gb388, 0, none⟩ (.slice Ao27 t383.length co27)) = w30 at n0_ n1_ n2_ n3_ n4_ n5_ ⊢
    have HO377 := n0_
    have HO380 := n1_
    have HO385 := n2_
    have BK374 := n3_
    have BK388 := n4_
    have HB := n5_
    clear n0_ n1_ n2_ n3_ n4_ n5_
    have n0_ := Aside0.mk (Kd.V_drew HO377.out)
    have n1_ := Aside0.mk (Kd.V_drew HO380.out)
    have n2_ := Aside0.mk (Kd.V_drew HO385.out)
    have n3_ := Aside0.mk (blk_drew BK374.out)
    have n4_ := Aside0.mk (blk_drew BK388.out)
    have n5_ := Aside0.mk (below_drew1 HB.out)
    clear HO377
    clear HO380
    clear HO385
    clear BK374
    clear BK388
    clear HB
    have HO377 := n0_
    have HO380 := n1_
    have HO385 := n2_
    have BK374 := n3_
    have BK388 := n4_
    have HB := n5_
    clear n0_ n1_ n2_ n3_ n4_ n5_
    refine start_ (n := 15) (S := fun w' => w'.cell? ⟨gb388, 0, none⟩ = some (.slice Ao27 t383.length co27)) (ds := []) #[false, false, false, false, false, false, false, false, false, false, false, false, false, false, false] (by kernel_rfl) rfl rfl ((blk_cell BK388.out 0).trans rfl) (fun hHeld => ?_); refine with_tabW heraldlaw04_given.tab4 heraldlaw04_given.bits4 (fun HT_ HW_ => ?_)
    generalize w30.drew = w31 at HO377 HO380 HO385 BK374 BK388 HB hHeld ⊢
    refine pure_ (i := 0) (N := some 26) (v := ?_) (a' := ?_) #[true, false, false, false, false, false, false, false, false, false, false, false, false, false, false] rfl rfl (any_of HT_.out (by kernel_rfl)) (fun _ _ _ h => h) (Or.inl ⟨by rfl, ?_⟩) ?_ ?_
    rotate_left
    · intro w'
      go_simp
      with_reducible rfl
    rotate_left
    · simp only [Act.put, List.setIfInBounds_toArray, List.set_cons_zero, List.set_cons_succ, i64_w, i32_w]
      rfl
    refine pure_ (i := 2) (N := some 28) (v := ?_) (a' := ?_) #[true, false, true, false, false, false, false, false, false, false, false, false, false, false, false] rfl rfl (any_of HT_.out (by kernel_rfl)) (fun _ _ _ h => h) (Or.inl ⟨by rfl, ?_⟩) ?_ ?_
    rotate_left
    · intro w'
      go_simp
      with_reducible rfl
    rotate_left
    · simp only [Act.put, List.setIfInBounds_toArray, List.set_cons_zero, List.set_cons_succ, i64_w, i32_w]
      rfl
    refine pure_ (i := 3) (N := some 29) (v := ?_) (a' := ?_) #[true, false, true, true, false, false, false, false, false, false, false, false, false, false, false] rfl rfl (any_of HT_.out (by kernel_rfl)) (fun _ _ _ h => h) (Or.inl ⟨by rfl, ?_⟩) ?_ ?_
    rotate_left
    · intro w'
      go_simp
      with_reducible rfl
    rotate_left
    · simp only [Act.put, List.setIfInBounds_toArray, List.set_cons_zero, List.set_cons_succ, i64_w, i32_w]
      rfl
    refine pure_ (i := 4) (N := some 30) (v := ?_) (a' := ?_) #[true, false, true, true, true, false, false, false, false, false, false, false, false, false, false] rfl rfl (any_of HT_.out (by kernel_rfl)) (fun _ _ _ h => h) (Or.inl ⟨by rfl, ?_⟩) ?_ ?_
    rotate_left
    · intro w'
      go_simp
      with_reducible rfl
    rotate_left
    · simp only [Act.put, List.setIfInBounds_toArray, List.set_cons_zero, List.set_cons_succ, i64_w, i32_w]
      rfl
    refine pure_ (i := 5) (N := some 31) (v := ?_) (a' := ?_) #[true, false, true, true, true, true, false, false, false, false, false, false, false, false, false] rfl rfl (any_of HT_.out (by kernel_rfl)) (fun _ _ _ h => h) (Or.inl ⟨by rfl, ?_⟩) ?_ ?_
    rotate_left
    · intro w'
      go_simp
      with_reducible rfl
    rotate_left
    · simp only [Act.put, List.setIfInBounds_toArray, List.set_cons_zero, List.set_cons_succ, i64_w, i32_w]
      rfl
    refine pure_ (i := 6) (N := some 32) (v := ?_) (a' := ?_) #[true, false, true, true, true, true, true, false, false, false, false, false, false, false, false] rfl rfl (any_of HT_.out (by kernel_rfl)) (fun _ _ _ h => h) (Or.inl ⟨by rfl, ?_⟩) ?_ ?_
    rotate_left
    · intro w'
      go_simp
      with_reducible rfl
    rotate_left
    · simp only [Act.put, List.setIfInBounds_toArray, List.set_cons_zero, List.set_cons_succ, i64_w, i32_w]
      rfl
    refine pure_ (i := 7) (N := some 33) (v := ?_) (a' := ?_) #[true, false, true, true, true, true, true, true, false, false, false, false, false, false, false] rfl rfl (any_of HT_.out (by kernel_rfl)) (fun _ _ _ h => h) (Or.inl ⟨by rfl, ?_⟩) ?_ ?_
    rotate_left
    · intro w'
      go_simp
      with_reducible rfl
    rotate_left
    · simp only [Act.put, List.setIfInBounds_toArray, List.set_cons_zero, List.set_cons_succ, i64_w, i32_w]
      rfl
    refine pure_ (i := 8) (N := some 34) (v := undef) (a' := ?_) #[true, false, true, true, true, true, true, true, true, false, false, false, false, false, false] rfl rfl (any_of HT_.out (by kernel_rfl)) (fun _ _ _ h => h) (Or.inr ⟨by rfl, rfl⟩) ?_ ?_
    rotate_left
    · simp only [Act.put, List.setIfInBounds_toArray, List.set_cons_zero, List.set_cons_succ, i64_w, i32_w]
      rfl
    refine pure_ (i := 9) (N := some 35) (v := undef) (a' := ?_) #[true, false, true, true, true, true, true, true, true, true, false, false, false, false, false] rfl rfl (any_of HT_.out (by kernel_rfl)) (fun _ _ _ h => h) (Or.inr ⟨by rfl, rfl⟩) ?_ ?_
    rotate_left
    · simp only [Act.put, List.setIfInBounds_toArray, List.set_cons_zero, List.set_cons_succ, i64_w, i32_w]
      rfl
    refine pure_ (i := 10) (N := some 36) (v := ?_) (a' := ?_) #[true, false, true, true, true, true, true, true, true, true, true, false, false, false, false] rfl rfl (any_of HT_.out (by kernel_rfl)) (fun _ _ _ h => h) (Or.inl ⟨by rfl, ?_⟩) ?_ ?_
    rotate_left
    · intro w'
      go_simp
      with_reducible rfl
    rotate_left
    · simp only [Act.put, List.setIfInBounds_toArray, List.set_cons_zero, List.set_cons_succ, i64_w, i32_w]
      rfl
    refine pure_ (i := 11) (N := some 2) (v := ?_) (a' := ?_) #[true, false, true, true, true, true, true, true, true, true, true, true, false, false, false] rfl rfl (any_of HT_.out (by kernel_rfl)) (fun _ _ _ h => h) (Or.inl ⟨by rfl, ?_⟩) ?_ ?_
    rotate_left
    · intro w'
      go_simp
      with_reducible rfl
    rotate_left
    · simp only [Act.put, List.setIfInBounds_toArray, List.set_cons_zero, List.set_cons_succ, i64_w, i32_w]
      rfl
    refine take_ (i := 1) (N := some 27) (v := ?_) (a' := ?_) #[true, true, true, true, true, true, true, true, true, true, true, true, false, false, false] rfl rfl (take_ofW HT_.out HW_.out (by kernel_rfl)) (fun _ _ _ h => h) (Or.inl ⟨by rfl, ?_⟩) hHeld ?_ ?_
    rotate_left
    · intro w' s0
      go_simp
      with_reducible rfl
    rotate_left
    · simp only [Act.put, List.setIfInBounds_toArray, List.set_cons_zero, List.set_cons_succ, i64_w, i32_w]
      rfl
    refine one_ (i := 12) (N := none) #[true, true, true, true, true, true, true, true, true, true, true, true, true, false, false] rfl rfl (one_of HT_.out (by kernel_rfl)) (by decide) (fun K hK => ?_)
    have hs32 : w31.cell? ⟨gb374, 0, none⟩ = some (.slice none 0 0) := (blk_cell BK374.out 0).trans rfl
    have hfs32 := blk_frozen BK374.out 0
    have hns32_1 := NB388_374.out
    have hms32_1 := NB374_388.out
    refine skip_ (w1 := ?_) (by rfl) rfl ?_ ?_
    rotate_left
    · go_simp
      rfl
    refine hK.out _ _ (((cell_far (p := ⟨gb374, _, none⟩) NB388_374.out _).trans (hHeld))) (fun hHeld => ?_)
    clear hK K
    refine pure_ (i := 13) (N := some 4) (v := ?_) (a' := ?_) #[true, true, true, true, true, true, true, true, true, true, true, true, true, true, false] rfl rfl (any_of HT_.out (by kernel_rfl)) (fun _ _ _ h => h) (Or.inl ⟨by rfl, ?_⟩) ?_ ?_
    rotate_left
    · intro w'
      go_simp
      with_reducible rfl
    rotate_left
    · simp only [Act.put, List.setIfInBounds_toArray, List.set_cons_zero, List.set_cons_succ, i64_w, i32_w]
      rfl
    refine pure_ (i := 14) (N := some 5) (v := ?_) (a' := ?_) #[true, true, true, true, true, true, true, true, true, true, true, true, true, true, true] rfl rfl (any_of HT_.out (by kernel_rfl)) (fun _ _ _ h => h) (Or.inl ⟨by rfl, ?_⟩) ?_ ?_
    rotate_left
    · intro w'
      go_simp
      with_reducible rfl
    rotate_left
    · simp only [Act.put, List.setIfInBounds_toArray, List.set_cons_zero, List.set_cons_succ, i64_w, i32_w]
      rfl
    refine done_ (done_of HT_.out (by kernel_rfl)) ?_
    try go_wp2
    refine bodyPost_ret (results_list (rs := [.tmp 2, .cell 3 26, .tmp 4, .tmp 5]) rfl (by simp) (.tmp (.cell gb374 26 #[.slice Ao27 t383.length co27] (0, 0) _ rfl (by (with_reducible repeat (first | refine blk_drewN ?_ _ | refine blk_drew ?_ | refine blk_alloc ?_ _)); refine blk_put (cs := #[.slice none 0 0]) ?_ 0 _ rfl; (with_reducible repeat (first | refine blk_drewN ?_ _ | refine blk_drew ?_ | refine blk_alloc ?_ _)); exact BK374.out) Tryd.underlying26 rfl (by kernel_rfl) (.tmp (.tmp .nil))))) rfl ?_
    exact ⟨_, _, by first | rfl | (simp [errW_none, errW_some] <;> rfl) | (simp [*, errW_none, errW_some] <;> rfl), by (with_reducible repeat (first | apply Kd.V_alloc | apply Kd.V_drewN | apply Kd.V_drew)); exact Kd.V_mono (Kd.V_far (p := ⟨gb374, 0, none⟩) (Kd.V_mono HO377.out (fun k_ hk => (⟨hk, hk.2.1⟩ : _ ∧ k_ ≠ gb374))) (fun _ hk => hk.2) (.slice Ao27 t383.length co27)) (fun _ hk => hk.1.1), by (with_reducible repeat (first | apply Kd.V_alloc | apply Kd.V_drewN | apply Kd.V_drew)); exact Kd.V_mono (Kd.V_far (p := ⟨gb374, 0, none⟩) (Kd.V_mono HO385.out (fun k_ hk => (⟨hk, hk.2.1⟩ : _ ∧ k_ ≠ gb374))) (fun _ hk => hk.2) (.slice Ao27 t383.length co27)) (fun _ hk => hk.1.1), by repeat (first | (with_reducible first | exact HB.out | apply below_alloc | apply pw_below_drewN | apply below_drew1 | refine below_set ?_ GE374.out | refine below_set ?_ GE388.out) | exact HB.out)⟩
end Go.Proofs.YtgcngbmkgjphpaaDoor.PAll
end

section
namespace Go.Proofs.YtgcngbmkgjphpaaDoor.PAll
open Go.RowKit Go.Proofs.YtgcngbmkgjphpaaDoorW.PrintWords Go.Proofs.YtgcngbmkgjphpaaDoorW.PrintLast Go.Proofs.YtgcngbmkgjphpaaDoorW.PrintMore
attribute [local go_sem] max2_int min2_int max_two min_two max_three min_three max_four min_four   -- for this text's walks alone
set_option linter.unusedVariables false
set_option linter.unusedSimpArgs false
def heraldlaw04_is.f (k : Nat) (l0_0 : List Int) (a1 : Int) (l2 : List Int) (a3 : Int) : Option (Bool) := if a1 = a3 then ((nat_Nat_Text.f k l0_0).bind fun t221 => ((heraldref04_Text.f k l2).bind fun t222 => (some (t221.toList == t222.toList)))) else (some false)
set_option maxHeartbeats 8000000 in
set_option maxRecDepth 100000 in
theorem heraldlaw04_is.calls (k : Nat) (A0_0 : Option Addr) (c0_0 : Nat) (l0_0 : List Int) (a1 : Int) (A2 : Option Addr) (c2 : Nat) (l2 : List Int) (a3 : Int) (r : Bool) (w : World) (hr0_0 : Kd.C (Kd.int .u32) w A0_0 l0_0.length l0_0) (hc0_0 : l0_0.length ≤ c0_0) (hr2 : Kd.C (Kd.int .i64) w A2 l2.length l2) (hc2 : l2.length ≤ c2) (h : heraldlaw04_is.f k l0_0 a1 l2 a3 = some r) :
    Calls Tryd.prog 14 #[.agg #[.slice A0_0 l0_0.length c0_0], .int .i64 a1, .slice A2 l2.length c2, .int .i64 a3] w fun e w' => e = .returned (.bool r) ∧ Below w.heap.size w w' := by
  have hu26 := Tryd.underlying26
  have HR0_0 := Aside0.mk hr0_0
  have HC0_0 := Aside0.mk hc0_0
  clear hr0_0 hc0_0
  have HR2 := Aside0.mk hr2
  have HC2 := Aside0.mk hc2
  clear hr2 hc2
  have HB := Aside0.mk (Below.refl w.heap.size w)
  have H : (if a1 = a3 then ((nat_Nat_Text.f k l0_0).bind fun t221 => ((heraldref04_Text.f k l2).bind fun t222 => (some (t221.toList == t222.toList)))) else (some false)) = some r := h
  clear h
  by_cases c5 : a1 = a3
  · rw [if_pos c5] at H
    have c5b0 : (a1 == a3) = true := beq_iff_eq.mpr c5
    have c5b1 : (a1 != a3) = false := bne_eq_false_iff_eq.mpr c5
    clear c5
    replace H := Option.bind_eq_some_iff.mp H
    obtain ⟨t221, A60, H⟩ := H
    replace H : ((heraldref04_Text.f k l2).bind fun t222 => (some (t221.toList == t222.toList))) = some r := H
    have A6 := Aside0.mk A60
    clear A60
    replace H := Option.bind_eq_some_iff.mp H
    obtain ⟨t222, A70, H⟩ := H
    replace H : (some (t221.toList == t222.toList)) = some r := H
    have A7 := Aside0.mk A70
    clear A70
    obtain rfl := Option.some.inj H
    go_enter Tryd.func14, Tryd.ntmps14
    go_wp2_with (first | ((with_reducible refine gate_dst (N := 4) rfl ?_); refine box_event ?hg (N := 4) ?hd (cs := #[.slice A0_0 l0_0.length c0_0]) (t := 26) ?hr ?_; (case hd => rfl); (case hg => rfl); (case hr => first | (go_simp; done) | (go_simp; rfl)); intro gb220 hg w8 hbox hb; have n0_ := Aside0.mk (below_step (by repeat (first | (with_reducible first | exact HB.out | apply below_alloc | apply pw_below_drewN | apply below_drew1) | exact HB.out)) hb); have n1_ := Aside0.mk (hbox); have n2_ := Aside0.mk ((by rw [hg]; exact (below_size (by repeat (first | (with_reducible first | exact HB.out | apply below_alloc | apply pw_below_drewN | apply below_drew1) | exact HB.out))) : w.heap.size ≤ gb220)); have n3_ := Aside0.mk ((by rw [hg]; exact (below_size (by repeat (first | (with_reducible first | exact HB.out | apply below_alloc | apply pw_below_drewN | apply below_drew1) | exact HB.out))) : w.heap.size ≤ gb220)); clear HB; have HB := n0_; have BK220 := n1_; have GW220 := n2_; have GE220 := n3_; clear n0_ n1_ n2_ n3_; clear hb hbox hg; have hcz9_0 : w8.cell? ⟨gb220, 0, none⟩ = some (.slice A0_0 l0_0.length c0_0) := (blk_cell BK220.out 0).trans rfl; have hfz9_0 := blk_frozen BK220.out 0) | (go_at_call 20; (with_reducible refine (nat_Nat_Text.calls k (fun k_ => k_ < w.heap.size) _ _ l0_0 t221 _ ?side1 A6.out).mono ?_); (case side1 => exact Kd.V_mk HC0_0.out (Kd.F_below (Kd.C_F (Kd.heap_int .u32) HR0_0.out) (by repeat (first | (with_reducible first | exact HB.out | apply below_alloc | apply pw_below_drewN | apply below_drew1 | refine below_set ?_ GE220.out) | exact HB.out)))); rintro e w10 ⟨rfl, hb⟩; have n0_ := Aside0.mk (blk_below (g := gb220) (o := .cells #[.slice A0_0 l0_0.length c0_0] 26 (0, 0)) (by (with_reducible repeat (first | refine blk_drewN ?_ _ | refine blk_drew ?_ | refine blk_alloc ?_ _)); exact BK220.out) hb); have n1_ := Aside0.mk (below_step (by repeat (first | (with_reducible first | exact HB.out | apply below_alloc | apply pw_below_drewN | apply below_drew1 | refine below_set ?_ GE220.out) | exact HB.out)) hb); clear BK220; clear HB; have BK220 := n0_; have HB := n1_; clear n0_ n1_; (try clear hb); (try clear hb2); (try clear hk); (try clear hi)) | (go_at_call 24; (with_reducible refine (heraldref04_Text.calls k (fun k_ => k_ < w.heap.size) _ _ l2 t222 _ ?side1 A7.out).mono ?_); (case side1 => exact Kd.V_mk HC2.out (Kd.F_below (Kd.C_F (Kd.heap_int .i64) HR2.out) (by repeat (first | (with_reducible first | exact HB.out | apply below_alloc | apply pw_below_drewN | apply below_drew1 | refine below_set ?_ GE220.out) | exact HB.out)))); rintro e w11 ⟨rfl, hb⟩; have n0_ := Aside0.mk (blk_below (g := gb220) (o := .cells #[.slice A0_0 l0_0.length c0_0] 26 (0, 0)) (by (with_reducible repeat (first | refine blk_drewN ?_ _ | refine blk_drew ?_ | refine blk_alloc ?_ _)); exact BK220.out) hb); have n1_ := Aside0.mk (below_step (by repeat (first | (with_reducible first | exact HB.out | apply below_alloc | apply pw_below_drewN | apply below_drew1 | refine below_set ?_ GE220.out) | exact HB.out)) hb); clear BK220; clear HB; have BK220 := n0_; have HB := n1_; clear n0_ n1_; (try clear hb); (try clear hb2); (try clear hk); (try clear hi)))
    go_ret
    exact ⟨by first | rfl | (simp [errW_none, errW_some] <;> rfl) | (simp [*, errW_none, errW_some] <;> rfl), by repeat (first | (with_reducible first | exact HB.out | apply below_alloc | apply pw_below_drewN | apply below_drew1 | refine below_set ?_ GE220.out) | exact HB.out)⟩
  · rw [if_neg c5] at H
    have c5b0 : (a1 == a3) = false := beq_eq_false_iff_ne.mpr c5
    have c5b1 : (a1 != a3) = true := bne_iff_ne.mpr c5
    obtain rfl := Option.some.inj H
    go_enter Tryd.func14, Tryd.ntmps14
    go_wp2_with (first | ((with_reducible refine gate_dst (N := 4) rfl ?_); refine box_event ?hg (N := 4) ?hd (cs := #[.slice A0_0 l0_0.length c0_0]) (t := 26) ?hr ?_; (case hd => rfl); (case hg => rfl); (case hr => first | (go_simp; done) | (go_simp; rfl)); intro gb220 hg w12 hbox hb; have n0_ := Aside0.mk (below_step (by repeat (first | (with_reducible first | exact HB.out | apply below_alloc | apply pw_below_drewN | apply below_drew1) | exact HB.out)) hb); have n1_ := Aside0.mk (hbox); have n2_ := Aside0.mk ((by rw [hg]; exact (below_size (by repeat (first | (with_reducible first | exact HB.out | apply below_alloc | apply pw_below_drewN | apply below_drew1) | exact HB.out))) : w.heap.size ≤ gb220)); have n3_ := Aside0.mk ((by rw [hg]; exact (below_size (by repeat (first | (with_reducible first | exact HB.out | apply below_alloc | apply pw_below_drewN | apply below_drew1) | exact HB.out))) : w.heap.size ≤ gb220)); clear HB; have HB := n0_; have BK220 := n1_; have GW220 := n2_; have GE220 := n3_; clear n0_ n1_ n2_ n3_; clear hb hbox hg))
    go_ret
    exact ⟨by first | rfl | (simp [errW_none, errW_some] <;> rfl) | (simp [*, errW_none, errW_some] <;> rfl), by repeat (first | (with_reducible first | exact HB.out | apply below_alloc | apply pw_below_drewN | apply below_drew1 | refine below_set ?_ GE220.out) | exact HB.out)⟩
end Go.Proofs.YtgcngbmkgjphpaaDoor.PAll
end

section
namespace Go.Proofs.YtgcngbmkgjphpaaDoor.Nums
open Go.RowKit Go.Proofs.YtgcngbmkgjphpaaDoor.PAll Go.Proofs.YtgcngbmkgjphpaaDoorW.PrintWords Go.Proofs.YtgcngbmkgjphpaaDoorW.PrintLast Go.Proofs.YtgcngbmkgjphpaaDoorW.PrintMore
set_option linter.unusedVariables false
set_option linter.unusedSimpArgs false
theorem parse_good (s : ByteArray) (hs : s.size ≤ 140737488351232) (h0 : ¬ s.toList = []) (hg : ∀ j, j < s.size → Good s j) (w : Nat) (hw : pv 0 (bytesOf s) = w) (R : List Int × Int × Int) (hfit : bl w ≤ 65536 → R = (dgs 4294967296 w, 0, 0)) (hbig : ¬ bl w ≤ 65536 → R = ([], 0, 41)) : Ev (fun k => nat_Parse.f k s) R := by
  have hmem : ∀ x ∈ bytesOf s, 48 ≤ x ∧ x ≤ 57 := by
    intro x hx
    obtain ⟨i, hi, rfl⟩ := List.getElem_of_mem hx
    have hb : bt s (i : Int) = (bytesOf s)[i] := by rw [← rd_bytesOf, rd_at _ _ hi]
    have := hg i (by rw [bytesOf_length] at hi; exact hi)
    rw [← hb]
    exact ⟨this.1, this.2.1⟩
  have h1 := parse_l1 (bytesOf s) hmem (by rw [bytesOf_length]; exact hs) w R hfit hbig (bytesOf s).length 0 0 (by omega) (by omega) (by rw [bl_zero]; omega) (by rw [List.drop_zero]; exact hw)
  rw [dgs_zero] at h1
  have h2 := scan_good s hs hg R h1 s.size 0 (by omega) (by omega)
  refine Ev.congr (fun k => ?_) h2
  unfold nat_Parse.f
  rw [if_neg h0]
  rfl
/-- A number's text as bytes. -/
def dl (n : Nat) : List Int := if n = 0 then [48] else ((dgs 10 n).map fun d => 48 + d).reverse
theorem dec_dl (n : Nat) : dec n = strOfNums (dl n) := by
  unfold dec dl dd
  by_cases h : n = 0
  · rw [if_pos h, if_pos h]; rfl
  · rw [if_neg h, if_neg h]
theorem dl_mem (n : Nat) : ∀ x ∈ dl n, 48 ≤ x ∧ x ≤ 57 := by
  intro x hx
  unfold dl at hx
  by_cases h : n = 0
  · rw [if_pos h] at hx; simp at hx; omega
  · rw [if_neg h, List.mem_reverse, List.mem_map] at hx
    obtain ⟨d, hd, rfl⟩ := hx
    have := dgs_dg (b := 10) (by omega) n d hd
    omega
theorem dl_len (n : Nat) : (dl n).length ≤ (dgs 10 n).length + 1 ∧ 0 < (dl n).length := by
  unfold dl
  by_cases h : n = 0
  · rw [if_pos h]; simp
  · rw [if_neg h]
    have := dgs_len_pos (b := 10) (by omega) h
    simp; omega
theorem bytesOf_str (l : List Int) (h : ∀ x ∈ l, 0 ≤ x ∧ x < 256) : bytesOf (strOfNums l) = l := by
  unfold bytesOf
  rw [strOfNums_data, List.map_map]
  conv => rhs; rw [← List.map_id l]
  apply List.map_congr_left
  intro x hx
  have := h x hx
  have e : (UInt8.ofNat x.toNat).toNat = x.toNat := by rw [UInt8.toNat_ofNat']; omega
  simp only [Function.comp, e, id]
  omega
theorem dl_first (n : Nat) (h : 1 < (dl n).length) : (dl n)[0]'(by omega) ≠ 48 := by
  by_cases hn : n = 0
  · unfold dl at h; rw [if_pos hn] at h; simp at h
  · obtain ⟨a, r, t, e, ht, _⟩ := dgs_top (b := 10) (by omega) hn
    have e2 : dl n = (48 + (t : Int)) :: (a.map fun d => 48 + d).reverse := by
      unfold dl; rw [if_neg hn, e]; simp
    simp only [e2, List.getElem_cons_zero]
    omega
theorem dl_pv (n : Nat) : pv 0 (dl n) = n := by
  unfold dl
  by_cases h : n = 0
  · rw [if_pos h, h]; rfl
  · rw [if_neg h]
    have := pv_digits (dgs 10 n) 0 (dgs_dg (by omega) n)
    rw [vl_dgs (by omega)] at this
    simp only [Int.natCast_zero, Int.zero_mul, Int.zero_add] at this
    exact_mod_cast this
theorem dec_size (n : Nat) : (dec n).size = (dl n).length := by rw [dec_dl, strOfNums_size]
theorem dec_bytes (n : Nat) : bytesOf (dec n) = dl n := by
  rw [dec_dl]; exact bytesOf_str _ (fun x hx => by have := dl_mem n x hx; omega)
theorem dec_ne (n : Nat) : ¬ (dec n).toList = [] := by
  intro e
  rw [ByteArray.toList_eq] at e
  have := congrArg List.length e
  have h2 := (dl_len n).2
  rw [← dec_size] at h2
  rw [Array.length_toList, List.length_nil] at this
  have h3 : (dec n).size = 0 := this
  omega
theorem dec_good (n : Nat) : ∀ j, j < (dec n).size → Good (dec n) j := by
  intro j hj
  rw [dec_size] at hj
  have hb : ∀ i, (hi : i < (dl n).length) → bt (dec n) (i : Int) = (dl n)[i] := by
    intro i hi
    rw [← rd_bytesOf, dec_bytes, rd_at _ _ hi]
  have hm := dl_mem n _ (List.getElem_mem hj)
  refine ⟨by rw [hb j hj]; exact hm.1, by rw [hb j hj]; exact hm.2, ?_⟩
  rintro ⟨rfl, e⟩
  have h0 := hb 0 (by omega)
  have e0 : bt (dec n) 0 = (dl n)[0]'(by omega) := h0
  rw [e0] at e
  exact dl_first n (by omega) e
/-- Digits, a number, whether it fits, whether it came. -/
theorem given_fit (l : List Int) (v : Nat) (hd : Dg (4294967296 : Nat) l) (hl : l.length ≤ 1048576) (hv : vl (4294967296 : Nat) l = v) (g : bl v ≤ 65536) : Ev (fun k => heraldlaw04_given.f k l) (dgs 65536 v, dgs 4294967296 v, true, true) := by
  have lr := rg_len (n := v) (k := 4096) (by omega)
  have l10 := rdec_len (n := v)
  have h1 := words_ev l v hd (by omega) hv
  have h2 := fit_ev (n := v) (by omega)
  rw [if_pos g] at h2
  have h3 := rtext_ev (n := v) (by omega)
  have h4 := parse_good (dec v) (by rw [dec_size]; have := (dl_len v).1; omega) (dec_ne v) (dec_good v) v (by rw [dec_bytes, dl_pv]) (dgs 4294967296 v, 0, 0) (fun _ => rfl) (fun h => absurd g h)
  have q1 := h4.bind (f := fun k bt383 => (if bt383.2.2 = (dgs 65536 v, (0 : Int)).2 then (some (dgs 65536 v, bt383.1, ((dgs 65536 v, (0 : Int)).2 == 0), (bt383.2.1 == 0))) else (some (dgs 65536 v, bt383.1, ((dgs 65536 v, (0 : Int)).2 == 0), false)))) (r := (dgs 65536 v, dgs 4294967296 v, true, true)) (Ev.congr (fun k => by rw [if_pos rfl]; rfl) (Ev.now _))
  have q2 := h3.bind (f := fun k t382 => ((nat_Parse.f k t382).bind fun bt383 => (if bt383.2.2 = (dgs 65536 v, (0 : Int)).2 then (some (dgs 65536 v, bt383.1, ((dgs 65536 v, (0 : Int)).2 == 0), (bt383.2.1 == 0))) else (some (dgs 65536 v, bt383.1, ((dgs 65536 v, (0 : Int)).2 == 0), false))))) q1
  have q3 := h2.bind (f := fun k bt378 => ((heraldref04_Text.f k (dgs 65536 v)).bind fun t382 => ((nat_Parse.f k t382).bind fun bt383 => (if bt383.2.2 = bt378.2 then (some (dgs 65536 v, bt383.1, (bt378.2 == 0), (bt383.2.1 == 0))) else (some (dgs 65536 v, bt383.1, (bt378.2 == 0), false)))))) q2
  exact h1.bind q3
theorem given_big (l : List Int) (v : Nat) (hd : Dg (4294967296 : Nat) l) (hl : l.length ≤ 1048576) (hv : vl (4294967296 : Nat) l = v) (g : ¬ bl v ≤ 65536) : Ev (fun k => heraldlaw04_given.f k l) (dgs 65536 v, [], false, true) := by
  have lr : (dgs 65536 v).length ≤ 2 * l.length := by
    rw [dgs_len_le (by omega), Nat.pow_mul]
    have := vl_lt (b := ((4294967296 : Nat) : Int)) (by omega) hd
    rw [hv] at this
    exact_mod_cast this
  have l10 := rdec_len (n := v)
  have h1 := words_ev l v hd (by omega) hv
  have h2 := fit_ev (n := v) (by omega)
  rw [if_neg g] at h2
  have h3 := rtext_ev (n := v) (by omega)
  have h4 := parse_good (dec v) (by rw [dec_size]; have := (dl_len v).1; omega) (dec_ne v) (dec_good v) v (by rw [dec_bytes, dl_pv]) ([], 0, 41) (fun h => absurd h g) (fun _ => rfl)
  have q1 := h4.bind (f := fun k bt383 => (if bt383.2.2 = (([] : List Int), (41 : Int)).2 then (some (dgs 65536 v, bt383.1, ((([] : List Int), (41 : Int)).2 == 0), (bt383.2.1 == 0))) else (some (dgs 65536 v, bt383.1, ((([] : List Int), (41 : Int)).2 == 0), false)))) (r := (dgs 65536 v, [], false, true)) (Ev.congr (fun k => by rw [if_pos rfl]; rfl) (Ev.now _))
  have q2 := h3.bind (f := fun k t382 => ((nat_Parse.f k t382).bind fun bt383 => (if bt383.2.2 = (([] : List Int), (41 : Int)).2 then (some (dgs 65536 v, bt383.1, ((([] : List Int), (41 : Int)).2 == 0), (bt383.2.1 == 0))) else (some (dgs 65536 v, bt383.1, ((([] : List Int), (41 : Int)).2 == 0), false))))) q1
  have q3 := h2.bind (f := fun k bt378 => ((heraldref04_Text.f k (dgs 65536 v)).bind fun t382 => ((nat_Parse.f k t382).bind fun bt383 => (if bt383.2.2 = bt378.2 then (some (dgs 65536 v, bt383.1, (bt378.2 == 0), (bt383.2.1 == 0))) else (some (dgs 65536 v, bt383.1, (bt378.2 == 0), false)))))) q2
  exact h1.bind q3
/-- A number with an error's number is the document's. -/
theorem is_ev (v : Nat) (e : Int) (h1 : (dgs 4294967296 v).length ≤ 1000000000) (h2 : (dgs 65536 v).length ≤ 1000000000) : Ev (fun k => heraldlaw04_is.f k (dgs 4294967296 v) e (dgs 65536 v) e) true := by
  have h := ((text_ev (n := v) (by omega)).bind (f := fun k t221 => ((heraldref04_Text.f k (dgs 65536 v)).bind fun t222 => (some (t221.toList == t222.toList)))) (r := true) ((rtext_ev (n := v) (by omega)).bind (f := fun _ t222 => (some ((dec v).toList == t222.toList))) (Ev.congr (fun k => by simp) (Ev.now _))))
  refine Ev.congr (fun k => ?_) h
  unfold heraldlaw04_is.f
  rw [if_pos rfl]
theorem is_nil (e : Int) : Ev (fun k => heraldlaw04_is.f k [] e [] e) true := by
  have := is_ev 0 e (by rw [dgs_zero]; simp) (by rw [dgs_zero]; simp)
  rwa [dgs_zero, dgs_zero] at this
theorem bl_one : bl 1 = 1 := rfl
theorem Of_ev (n : Nat) (h : n < 9223372036854775808) : Ev (fun k => nat_Of.f k (n : Int)) (dgs 4294967296 n, 0) := by
  refine Ev.congr (fun k => ?_) ((of_ev n (by omega)).bind (f := fun _ t116 => some (t116, (0 : Int))) (Ev.now _))
  unfold nat_Of.f
  rw [if_neg (by omega), u64_in (by omega) (by omega)]
end Go.Proofs.YtgcngbmkgjphpaaDoor.Nums
end
