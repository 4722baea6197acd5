/- Texts of this session and printed texts, merged, what is not needed left out: NmK, PAllx35, PAllx36, NmM, NmO. -/
import Derived.Test.YtgcngbmkgjphpaaDoorNpI0
import Derived.Test.YtgcngbmkgjphpaaDoorNpI1
import Derived.Test.YtgcngbmkgjphpaaDoorNpI2
import Derived.Test.YtgcngbmkgjphpaaDoorNpI3
section
namespace Go.Proofs.YtgcngbmkgjphpaaDoor.Nums
open Go.RowKit Go.Proofs.YtgcngbmkgjphpaaDoor.PAll Go.Proofs.YtgcngbmkgjphpaaDoorW.PrintWords Go.Proofs.YtgcngbmkgjphpaaDoorW.PrintLast Go.Proofs.YtgcngbmkgjphpaaDoorW.PrintMore
set_option linter.unusedVariables false
set_option linter.unusedSimpArgs false
theorem next_k (i : Nat) (h : i < 1000000000000) : wrap64 ((i : Int) + 1) = ((i + 1 : Nat) : Int) := by rw [wrap_in (by omega) (by omega)]; rfl
theorem add32_some (x y c : Nat) (hx : x < 4294967296) (hy : y < 4294967296) (hc : c ≤ 1) : bits_Add32.f (x : Int) (y : Int) (c : Int) = some ((((x + y + c) % 4294967296 : Nat) : Int), (((x + y + c) / 4294967296 : Nat) : Int)) := by
  unfold bits_Add32.f
  rw [u64_in (a := (x : Int)) (by omega) (by omega), u64_in (a := (y : Int)) (by omega) (by omega), u64_in (a := (c : Int)) (by omega) (by omega), u64_in (a := (x : Int) + (y : Int)) (by omega) (by omega), u64_in (a := (x : Int) + (y : Int) + (c : Int)) (by omega) (by omega)]
  rw [show ((x : Int) + (y : Int) + (c : Int)) % 4294967296 = (((x + y + c) % 4294967296 : Nat) : Int) by omega, show ((x : Int) + (y : Int) + (c : Int)) / 4294967296 % 4294967296 = (((x + y + c) / 4294967296 : Nat) : Int) by omega]
theorem sub32_some (x y c : Nat) (hx : x < 4294967296) (hy : y < 4294967296) (hc : c ≤ 1) : bits_Sub32.f (x : Int) (y : Int) (c : Int) = some (((x : Int) - y - c) % 4294967296, if x < y + c then 1 else 0) := by
  unfold bits_Sub32.f
  rw [if_pos ⟨by omega, by omega, by omega, by omega, by omega, by omega⟩]
  by_cases g : x < y + c
  · rw [if_pos g, if_pos (by omega)]
  · rw [if_neg g, if_neg (by omega)]
theorem sub32_step (M N c : Nat) (hc : c ≤ 1) (h : N + c ≤ M) : ∃ c' : Nat, c' ≤ 1 ∧ bits_Sub32.f ((M % 4294967296 : Nat) : Int) ((N % 4294967296 : Nat) : Int) (c : Int) = some ((((M - N - c) % 4294967296 : Nat) : Int), (c' : Int)) ∧ (M - N - c) / 4294967296 = M / 4294967296 - N / 4294967296 - c' ∧ N / 4294967296 + c' ≤ M / 4294967296 := by
  have st := sub_step (b := 4294967296) (by omega) hc h
  have hs := sub32_some _ _ c (Nat.mod_lt M (show 0 < 4294967296 by omega)) (Nat.mod_lt N (show 0 < 4294967296 by omega)) hc
  have hM := Nat.mod_lt M (show 0 < 4294967296 by omega)
  have hN := Nat.mod_lt N (show 0 < 4294967296 by omega)
  by_cases g : M % 4294967296 < N % 4294967296 + c
  · rw [if_pos g] at st hs
    obtain ⟨s1, s2, s3⟩ := st
    refine ⟨1, by omega, ?_, s2, s3⟩
    rw [hs, ← s1]
    generalize M % 4294967296 = X at *
    generalize N % 4294967296 = Y at *
    rw [show ((X : Int) - Y - c) % 4294967296 = ((X + 4294967296 - Y - c : Nat) : Int) by omega]
    rfl
  · rw [if_neg g] at st hs
    obtain ⟨s1, s2, s3⟩ := st
    refine ⟨0, by omega, ?_, by rw [s2, Nat.sub_zero], s3⟩
    rw [hs, ← s1]
    generalize M % 4294967296 = X at *
    generalize N % 4294967296 = Y at *
    rw [show ((X : Int) - Y - c) % 4294967296 = ((X - Y - c : Nat) : Int) by omega]
    rfl
theorem add_three32 (a b c : Nat) : (a + b + c) % 4294967296 = (a % 4294967296 + b % 4294967296 + c) % 4294967296 ∧ (a + b + c) / 4294967296 = a / 4294967296 + b / 4294967296 + (a % 4294967296 + b % 4294967296 + c) / 4294967296 := by omega
theorem add_loop (x y L : Nat) (R : List Int × Int) (hsz : L ≤ 1000000000) (hlx : (dgs 4294967296 x).length ≤ L) (hly : (dgs 4294967296 y).length ≤ L) (hv : x + y < 4294967296 ^ L)
    (hR : Ev (fun k => (nat_cut.f k (dn 4294967296 L (x + y))).bind fun t477 => ((nat_checked.f t477).bind fun bt480 => some (bt480.1, bt480.2))) R) : ∀ (m i c : Nat), m = L - i → i ≤ L → c ≤ 1 → (x + y) / 4294967296 ^ i = x / 4294967296 ^ i + y / 4294967296 ^ i + c →
    Ev (fun k => nat_Nat_Add.l0 k (dn 4294967296 L (mix 4294967296 i (x + y) 0)) (c : Int) (L : Int) (i : Int) (dgs 4294967296 x) (dgs 4294967296 y)) R := by
  intro m
  induction m with
  | zero =>
    intro i c hm hi hc he
    obtain rfl : i = L := by omega
    refine Ev.step (fun k => ?_) hR
    rw [nat_Nat_Add.l0, if_neg (by omega), mix_all hv (Nat.pow_pos (by omega))]
  | succ m ih =>
    intro i c hm hi hc he
    have hx := Nat.mod_lt (x / 4294967296 ^ i) (show 0 < 4294967296 by omega)
    have hy := Nat.mod_lt (y / 4294967296 ^ i) (show 0 < 4294967296 by omega)
    obtain ⟨s1, s2⟩ := add_three32 (x / 4294967296 ^ i) (y / 4294967296 ^ i) c
    rw [← he] at s1 s2
    rw [Nat.div_div_eq_div_mul, Nat.div_div_eq_div_mul, Nat.div_div_eq_div_mul, ← Nat.pow_succ] at s2
    have hadd := add32_some _ _ c hx hy hc
    have hc2 : (x / 4294967296 ^ i % 4294967296 + y / 4294967296 ^ i % 4294967296 + c) / 4294967296 ≤ 1 := by omega
    have ihh := ih (i + 1) ((x / 4294967296 ^ i % 4294967296 + y / 4294967296 ^ i % 4294967296 + c) / 4294967296) (by omega) (by omega) hc2 s2
    have c1 : (i : Int) < (L : Int) := by omega
    have c2 : (0 : Int) ≤ (i : Int) := by omega
    have k1 : i < L := by omega
    have k2 : (0 : Nat) < 4294967296 := by omega
    have k3 : i < 1000000000000 := by omega
    refine Ev.step (fun k => ?_) ihh
    rw [nat_Nat_Add.l0, if_pos c1, part_some, part_some, Option.bind_some, Option.bind_some, hadd, Option.bind_some, if_pos c2, dn_length, if_pos c1, Int.toNat_natCast, next_k i k3, ← s1, dn_mix k2 i L _ 0 k1]
theorem add_head (x y : Nat) (lx : (dgs 4294967296 x).length ≤ 2048) (ly : (dgs 4294967296 y).length ≤ 2048) : ∃ L, L ≤ 2049 ∧ (dgs 4294967296 x).length ≤ L ∧ (dgs 4294967296 y).length ≤ L ∧ x + y < 4294967296 ^ L ∧ ∀ k, nat_Nat_Add.f k (dgs 4294967296 x) (dgs 4294967296 y) = nat_Nat_Add.l0 k (dn 4294967296 L 0) 0 (L : Int) 0 (dgs 4294967296 x) (dgs 4294967296 y) := by
  obtain ⟨M, hM, h1, h2, h3⟩ : ∃ M : Nat, mx ((dgs 4294967296 x).length : Int) ((dgs 4294967296 y).length : Int) = (M : Int) ∧ (dgs 4294967296 x).length ≤ M ∧ (dgs 4294967296 y).length ≤ M ∧ M ≤ 2048 := by
    unfold mx
    by_cases c : ((dgs 4294967296 x).length : Int) < ((dgs 4294967296 y).length : Int)
    · rw [if_pos c]; exact ⟨_, rfl, by omega, by omega, by omega⟩
    · rw [if_neg c]; exact ⟨_, rfl, by omega, by omega, by omega⟩
  have a1 : x < 4294967296 ^ M := (dgs_len_le (by omega)).mp h1
  have a2 : y < 4294967296 ^ M := (dgs_len_le (by omega)).mp h2
  refine ⟨M + 1, by omega, by omega, by omega, by rw [Nat.pow_succ]; omega, fun k => ?_⟩
  have c1 : (0 : Int) ≤ ((M + 1 : Nat) : Int) := by omega
  have c2 : ((M + 1 : Nat) : Int).toNat ≤ 70368744177664 := by omega
  have k1 : M < 1000000000000 := by omega
  unfold nat_Nat_Add.f
  rw [hM, next_k M k1, if_pos c1, if_pos c2, Option.bind_some, rep_dn 4294967296 (M + 1) _ rfl, dn_length]
theorem add_fits {x y : Nat} (hx : bl x ≤ 65536) (hy : bl y ≤ 65536) (g : bl (x + y) ≤ 65536) : Ev (fun k => nat_Nat_Add.f k (dgs 4294967296 x) (dgs 4294967296 y)) (dgs 4294967296 (x + y), 0) := by
  have lx := pd_len (n := x) (k := 2048) (by omega)
  have ly := pd_len (n := y) (k := 2048) (by omega)
  obtain ⟨L, h1, h2, h3, h4, h5⟩ := add_head x y lx ly
  have hlen := pd_len (n := x + y) (k := 2048) (by omega)
  have hR : Ev (fun k => (nat_cut.f k (dn 4294967296 L (x + y))).bind fun t477 => ((nat_checked.f t477).bind fun bt480 => some (bt480.1, bt480.2))) (dgs 4294967296 (x + y), 0) := by
    refine (cut_dn (by omega) h4).bind ?_
    refine Ev.congr (fun k => ?_) (Ev.now _)
    rw [checked_some (by omega), if_pos g]
    rfl
  have h := add_loop x y L _ (by omega) h2 h3 h4 hR L 0 0 (by omega) (by omega) (by omega) (by simp)
  rw [mix_zero] at h
  exact Ev.congr (fun k => by rw [h5]; rfl) h
/-- The program's difference. -/
theorem sub_loop (x y L : Nat) (hxy : y ≤ x) (hL : (dgs 4294967296 x).length = L) (hsz : L ≤ 1000000000) : ∀ (m i c : Nat), m = L - i → i ≤ L → c ≤ 1 → y / 4294967296 ^ i + c ≤ x / 4294967296 ^ i → (x - y) / 4294967296 ^ i = x / 4294967296 ^ i - y / 4294967296 ^ i - c →
    Ev (fun k => nat_Nat_Sub.l0 k (dn 4294967296 L (mix 4294967296 i (x - y) 0)) (c : Int) (L : Int) (i : Int) (dgs 4294967296 x) (dgs 4294967296 y)) (dgs 4294967296 (x - y), 0) := by
  have hv : x - y < 4294967296 ^ L := by
    have : x < 4294967296 ^ (dgs 4294967296 x).length := lt_pow_len (by omega)
    rw [hL] at this
    exact Nat.lt_of_le_of_lt (Nat.sub_le _ _) this
  intro m
  induction m with
  | zero =>
    intro i c hm hi hc hle he
    obtain rfl : i = L := by omega
    refine Ev.step (fun k => ?_) ((cut_dn (by omega) hv).bind (f := fun _ t634 => some (t634, (0 : Int))) (Ev.now _))
    rw [nat_Nat_Sub.l0, if_neg (by omega), mix_all hv (Nat.pow_pos (by omega))]
  | succ m ih =>
    intro i c hm hi hc hle he
    obtain ⟨c', hc', hsub, s2, s3⟩ := sub32_step _ _ c hc hle
    rw [← he, Nat.div_div_eq_div_mul, Nat.div_div_eq_div_mul, Nat.div_div_eq_div_mul, ← Nat.pow_succ] at s2
    rw [Nat.div_div_eq_div_mul, Nat.div_div_eq_div_mul, ← Nat.pow_succ] at s3
    rw [← he] at hsub
    have ihh := ih (i + 1) c' (by omega) (by omega) hc' s3 s2
    clear s2 s3 hle he
    have c1 : (i : Int) < (L : Int) := by omega
    have c2 : (0 : Int) ≤ (i : Int) := by omega
    have k1 : i < L := by omega
    have k2 : (0 : Nat) < 4294967296 := by omega
    have k3 : i < 1000000000000 := by omega
    refine Ev.step (fun k => ?_) ihh
    rw [nat_Nat_Sub.l0, if_pos c1, part_some, part_some, Option.bind_some, Option.bind_some, hsub, Option.bind_some, if_pos c2, dn_length, if_pos c1, Int.toNat_natCast, next_k i k3, dn_mix k2 i L _ 0 k1]
theorem sub_ev {x y : Nat} (hxy : y ≤ x) (hx : (dgs 4294967296 x).length ≤ 1000000) : Ev (fun k => nat_Nat_Sub.f k (dgs 4294967296 x) (dgs 4294967296 y)) (dgs 4294967296 (x - y), 0) := by
  have ly : (dgs 4294967296 y).length ≤ (dgs 4294967296 x).length := (dgs_len_le (by omega)).mpr (Nat.lt_of_le_of_lt hxy (lt_pow_len (by omega)))
  have h := sub_loop x y (dgs 4294967296 x).length hxy rfl (by omega) (dgs 4294967296 x).length 0 0 (by omega) (by omega) (by omega) (by simpa using hxy) (by simp)
  rw [mix_zero] at h
  have hc : ¬ cmpV x y < 0 := by
    rcases Nat.lt_or_ge y x with g | g
    · rw [cmpV_gt g]; omega
    · obtain rfl : x = y := by omega
      rw [cmpV_eq]; omega
  have c1 : (0 : Int) ≤ ((dgs 4294967296 x).length : Int) := by omega
  have c2 : ((dgs 4294967296 x).length : Int).toNat ≤ 70368744177664 := by omega
  have q := (cmp_ev x y (by omega) (by omega)).bind (f := fun k t625 => (if t625 < 0 then (some (([] : List Int), (40 : Int))) else (if 0 ≤ ((dgs 4294967296 x).length : Int) then (if (((dgs 4294967296 x).length : Int) : Int).toNat ≤ 70368744177664 then ((some (List.replicate (((dgs 4294967296 x).length : Int) : Int).toNat 0 : List Int)).bind fun y626 => (nat_Nat_Sub.l0 k y626 0 (y626.length : Int) 0 (dgs 4294967296 x) (dgs 4294967296 y))) else (none)) else (none)))) (r := (dgs 4294967296 (x - y), 0))
    (Ev.congr (fun k => by rw [if_neg hc, if_pos c1, if_pos c2, Option.bind_some, rep_dn 4294967296 (dgs 4294967296 x).length _ rfl, dn_length]; rfl) h)
  exact q
end Go.Proofs.YtgcngbmkgjphpaaDoor.Nums
end

section
namespace Go.Proofs.YtgcngbmkgjphpaaDoor.PAll
open Go.RowKit Go.Proofs.YtgcngbmkgjphpaaDoorW.PrintWords Go.Proofs.YtgcngbmkgjphpaaDoorW.PrintLast Go.Proofs.YtgcngbmkgjphpaaDoorW.PrintMore
attribute [local go_sem] max2_int min2_int max_two min_two max_three min_three max_four min_four   -- for this text's walks alone
set_option linter.unusedVariables false
set_option linter.unusedSimpArgs false
def nat_Nat_doubled.f (k : Nat) (l0_0 : List Int) (a1 : Int) : Option (List Int) := (nat_Nat_times.f k l0_0 2 a1).bind fun t786 => (some t786)
set_option maxHeartbeats 8000000 in
set_option maxRecDepth 100000 in
theorem nat_Nat_doubled.calls (k : Nat) (A0_0 : Option Addr) (c0_0 : Nat) (l0_0 : List Int) (a1 : Int) (r : List Int) (w : World) (hr0_0 : Kd.C (Kd.int .u32) w A0_0 l0_0.length l0_0) (hc0_0 : l0_0.length ≤ c0_0) (h : nat_Nat_doubled.f k l0_0 a1 = some r) :
  Calls Tryd.prog 63 #[.agg #[.slice A0_0 l0_0.length c0_0], .int .u32 a1] w fun e w' => ∃ v0_ : Value, e = .returned (.agg #[v0_]) ∧ Kd.V (Kd.int .u32) 79 w' w.heap.size (fun k_ => (w.heap.size ≤ k_)) v0_ r ∧ Below w.heap.size w w' := by
 have hu26 := Tryd.underlying26
 have HR0_0 := Aside0.mk hr0_0
 have HC0_0 := Aside0.mk hc0_0
 clear hr0_0 hc0_0
 have HB := Aside0.mk (Below.refl w.heap.size w)
 have H : ((nat_Nat_times.f k l0_0 2 a1).bind fun t786 => (some t786)) = some r := h
 clear h
 replace H := Option.bind_eq_some_iff.mp H
 obtain ⟨t786, A30, H⟩ := H
 replace H : (some t786) = some r := H
 have A3 := Aside0.mk A30
 clear A30
 obtain rfl := Option.some.inj H
 go_enter Tryd.func63, Tryd.ntmps63
 go_wp2_with (first | ((with_reducible refine gate_dst (N := 2) rfl ?_); refine box_event ?hg (N := 2) ?hd (cs := #[.slice A0_0 l0_0.length c0_0]) (t := 26) ?hr ?_; (case hd => rfl); (case hg => rfl); (case hr => first | (go_simp; done) | (go_simp; rfl)); intro gb784 hg w4 hbox hb; have BK784 := Aside0.mk (hbox); have GW784 := Aside0.mk ((by rw [hg]; exact (below_size HB.out) : w.heap.size ≤ gb784)); have GE784 := Aside0.mk ((by rw [hg]; exact (below_size HB.out) : w.heap.size ≤ gb784)); replace HB := Aside0.mk (below_step HB.out hb); clear hb hbox hg) | ((with_reducible refine gate_dst (N := 4) rfl ?_); refine box_event ?hg (N := 4) ?hd (cs := #[.slice none 0 0]) (t := 26) ?hr ?_; (case hd => rfl); (case hg => rfl); (case hr => first | (go_simp; done) | (go_simp; rfl)); intro gb785 hg w5 hbox hb; have BK785 := Aside0.mk (hbox); have GW785 := Aside0.mk ((by rw [hg]; exact (below_size (by repeat (first | exact HB.out | refine sb ?_ GE784))) : w.heap.size ≤ gb785)); have GE785 := Aside0.mk ((by rw [hg]; exact (below_size (by repeat (first | exact HB.out | refine sb ?_ GE784))) : w.heap.size ≤ gb785)); have NB784_785 := nl BK784 hg; have NB785_784 := ng BK784 hg; replace BK784 := bb BK784 hb; replace HB := Aside0.mk (below_step (by repeat (first | exact HB.out | refine sb ?_ GE784)) hb); clear hb hbox hg; have hnb6 := NB784_785.out; have hnc6 := NB785_784.out; have hcz7_0 : w5.cell? ⟨gb784, 0, none⟩ = some (.slice A0_0 l0_0.length c0_0) := (blk_cell BK784.out 0).trans rfl; have hfz7_0 := blk_frozen BK784.out 0) | ((with_reducible refine gate_callee (f := 49) rfl ?_); refine goesL_ (some 7) rfl rfl Tryd.func49 (by kernel_rfl) rfl #[.agg #[.slice A0_0 l0_0.length c0_0], .int .u32 2, .int .u32 a1] rfl (by (try simp only [List.map_toArray, List.map_cons, List.map_nil]); first | done | rfl | (simp only [List.length_drop, List.length_take]; rfl)) ?_; (with_reducible refine (nat_Nat_times.calls k _ _ l0_0 2 a1 t786 _ ?side1 ?side2 A3.out).mono ?_); (case side1 => repeat (first | exact (Kd.C_below HR0_0.out HB.out) | (with_reducible refine Kd.C_alloc ?_ _) | (with_reducible refine Kd.C_drewN ?_ _) | (with_reducible refine Kd.C_drew ?_))); (case side2 => exact HC0_0.out); rintro e w8 ⟨v787, rfl, ho0, hb⟩; refine ⟨_, rfl, ?_⟩; have HO788 := Aside0.mk (Kd.V_lower (Kd.V_mono (ok' := fun k_ => (w.heap.size ≤ k_) ∧ k_ ≠ gb784 ∧ k_ ≠ gb785) ho0 (fun k_ hk_ => ⟨(Nat.le_trans (below_size (by repeat (first | exact HB.out | refine sb ?_ GE784 | refine sb ?_ GE785))) hk_), (fb BK784 k_ hk_), (fb BK785 k_ hk_)⟩)) (below_size (by repeat (first | exact HB.out | refine sb ?_ GE784 | refine sb ?_ GE785)))); replace BK784 := bb BK784 hb; replace BK785 := bb BK785 hb; replace HB := Aside0.mk (below_step (by repeat (first | exact HB.out | refine sb ?_ GE784 | refine sb ?_ GE785)) hb); (try clear hb); (try clear hk); (try clear hi); (try clear ho0); obtain ⟨Ao9, co9, eo9⟩ := Kd.V_slice HO788.out; subst eo9; have hcz10_0 : w8.cell? ⟨gb785, 0, none⟩ = some (.slice none 0 0) := (blk_cell BK785.out 0).trans rfl; have hfz10_0 := blk_frozen BK785.out 0))
 refine bodyPost_ret (results_cell_row rfl _ _ gb785 26 #[.slice Ao9 t786.length co9] (0, 0) _ rfl (by refine blk_put (cs := #[.slice none 0 0]) ?_ 0 _ rfl; exact BK785.out) Tryd.underlying26 rfl (by kernel_rfl)) rfl ?_
 exact ⟨_, by first | rfl | (simp [errW_none, errW_some] <;> rfl) | (simp [*, errW_none, errW_some] <;> rfl), by exact Kd.V_mono (Kd.V_far (p := ⟨gb785, 0, none⟩) (Kd.V_mono HO788.out (fun k_ hk => (⟨hk, hk.2.2⟩ : _ ∧ k_ ≠ gb785))) (fun _ hk => hk.2) (.slice Ao9 t786.length co9)) (fun _ hk => hk.1.1), by repeat (first | exact HB.out | refine sb ?_ GE784 | refine sb ?_ GE785)⟩
end Go.Proofs.YtgcngbmkgjphpaaDoor.PAll
end

section
namespace Go.Proofs.YtgcngbmkgjphpaaDoor.PAll
open Go.RowKit Go.Proofs.YtgcngbmkgjphpaaDoorW.PrintWords Go.Proofs.YtgcngbmkgjphpaaDoorW.PrintLast Go.Proofs.YtgcngbmkgjphpaaDoorW.PrintMore
attribute [local go_sem] max2_int min2_int max_two min_two max_three min_three max_four min_four   -- for this text's walks alone
set_option linter.unusedVariables false
set_option linter.unusedSimpArgs false
def nat_Nat_Div.l0 : Nat → List Int → Int → List Int → List Int → List Int → Option (List Int × List Int × Int)
 | 0, _, _, _, _, _ => none
 | k + 1, x9, x11, x790000, x791000, x806000 => if x11 ≥ 0 then ((nat_Nat_Bit.f x790000 x11).bind fun t810 => ((nat_Nat_doubled.f k x806000 ((t810) % 4294967296)).bind fun t811 => ((nat_Nat_Compare.f k t811 x791000).bind fun t814 => (if t814 ≥ 0 then ((nat_Nat_Sub.f k t811 x791000).bind fun bt815 => (if 0 ≤ (wrap64 (Int.tdiv x11 32)) then (if (wrap64 (Int.tdiv x11 32)) < (x9.length : Int) then (if 0 ≤ (Int.tmod x11 32) then (nat_Nat_Div.l0 k (x9.set ((wrap64 (Int.tdiv x11 32)) : Int).toNat (Go.bits .or .u32 (rd x9 (wrap64 (Int.tdiv x11 32))) (shl .u32 1 (Int.tmod x11 32)))) (wrap64 (x11 - 1)) x790000 x791000 bt815.1) else (none)) else (none)) else (none))) else (nat_Nat_Div.l0 k x9 (wrap64 (x11 - 1)) x790000 x791000 t811))))) else ((nat_cut.f k x9).bind fun t807 => (some (t807, x806000, 0)))
def nat_Nat_Div.f (k : Nat) (l0_0 : List Int) (l1_0 : List Int) : Option (List Int × List Int × Int) := if (l1_0.length : Int) = 0 then (some (([] : List Int), ([] : List Int), 42)) else (if (l1_0.length : Int) = 1 then (if 0 < (l1_0.length : Int) then ((nat_Nat_by.f k l0_0 (rd l1_0 0)).bind fun bt794 => ((nat_of.f k (IntKind.u64.wrap (bt794.2))).bind fun t799 => (some (bt794.1, t799, 0)))) else (none)) else (if 0 ≤ (l0_0.length : Int) then (if ((l0_0.length : Int) : Int).toNat ≤ 70368744177664 then ((nat_Nat_Bits.f l0_0).bind fun t806 => (nat_Nat_Div.l0 k (List.replicate ((l0_0.length : Int) : Int).toNat 0) (wrap64 (t806 - 1)) l0_0 l1_0 ([] : List Int))) else (none)) else (none)))
def nat_Nat_Div.T4 : Bool × List (List Nat × List Nat) := (true, [([], []), ([], []), ([1], [1]), ([2], [2]), ([3], [3]), ([0, 4], [0, 4]), ([5], [5]), ([6], [6]), ([6], [6]), ([], []), ([9, 7, 5, 0, 1, 2, 3, 4, 5, 6, 7, 9], [7, 9]), ([8, 10, 0, 1, 2, 3, 4, 5, 6, 7, 8, 9, 10], [8])])
def nat_Nat_Div.B4 : List Nat := [0, 0, 2, 6, 14, 31, 63, 127, 127, 0, 767, 2047]
theorem nat_Nat_Div.tab4 : rtab .any (opsOf Tryd.f46 4) = nat_Nat_Div.T4 := by kernel_rfl
theorem nat_Nat_Div.bits4 : waitsOk nat_Nat_Div.T4.2 nat_Nat_Div.B4 = true := by kernel_rfl
def nat_Nat_Div.T14 : Bool × List (List Nat × List Nat) := (true, [([], []), ([], []), ([1], [1]), ([0, 2], [0, 2]), ([3], [3]), ([], []), ([5], [5]), ([6], [6]), ([4, 7], [4, 7]), ([0, 2, 0, 1, 2, 3, 4, 5, 6, 7, 8], [0, 2]), ([9, 8, 0, 1, 2, 3, 4, 5, 6, 7, 8], [8, 9])])
def nat_Nat_Div.B14 : List Nat := [0, 0, 2, 7, 15, 0, 32, 96, 255, 511, 1023]
theorem nat_Nat_Div.tab14 : rtab .any (opsOf Tryd.f46 14) = nat_Nat_Div.T14 := by kernel_rfl
theorem nat_Nat_Div.bits14 : waitsOk nat_Nat_Div.T14.2 nat_Nat_Div.B14 = true := by kernel_rfl
set_option maxHeartbeats 8000000 in
set_option maxRecDepth 100000 in
theorem nat_Nat_Div.calls (k : Nat) (A0_0 : Option Addr) (c0_0 : Nat) (l0_0 : List Int) (A1_0 : Option Addr) (c1_0 : Nat) (l1_0 : List Int) (r1 : List Int) (r2 : List Int) (r3 : Int) (w : World) (hr0_0 : Kd.C (Kd.int .u32) w A0_0 l0_0.length l0_0) (hc0_0 : l0_0.length ≤ c0_0) (hr1_0 : Kd.C (Kd.int .u32) w A1_0 l1_0.length l1_0) (hc1_0 : l1_0.length ≤ c1_0) (h : nat_Nat_Div.f k l0_0 l1_0 = some (r1, r2, r3)) :
  Calls Tryd.prog 46 #[.agg #[.slice A0_0 l0_0.length c0_0], .agg #[.slice A1_0 l1_0.length c1_0]] w fun e w' => ∃ v0_ v1_ : Value, e = .returned (.tuple #[.agg #[v0_], .agg #[v1_], .int .i64 r3]) ∧ Kd.V (Kd.int .u32) 79 w' w.heap.size (fun k_ => (w.heap.size ≤ k_)) v0_ r1 ∧ Kd.V (Kd.int .u32) 79 w' w.heap.size (fun k_ => (w.heap.size ≤ k_)) v1_ r2 ∧ Below w.heap.size w w' := by
 have hu26 := Tryd.underlying26
 have HR0_0 := Aside0.mk hr0_0
 have HC0_0 := Aside0.mk hc0_0
 clear hr0_0 hc0_0
 have HR1_0 := Aside0.mk hr1_0
 have HC1_0 := Aside0.mk hc1_0
 clear hr1_0 hc1_0
 have HB := Aside0.mk (Below.refl w.heap.size w)
 have H : (if (l1_0.length : Int) = 0 then (some (([] : List Int), ([] : List Int), 42)) else (if (l1_0.length : Int) = 1 then (if 0 < (l1_0.length : Int) then ((nat_Nat_by.f k l0_0 (rd l1_0 0)).bind fun bt794 => ((nat_of.f k (IntKind.u64.wrap (bt794.2))).bind fun t799 => (some (bt794.1, t799, 0)))) else (none)) else (if 0 ≤ (l0_0.length : Int) then (if ((l0_0.length : Int) : Int).toNat ≤ 70368744177664 then ((nat_Nat_Bits.f l0_0).bind fun t806 => (nat_Nat_Div.l0 k (List.replicate ((l0_0.length : Int) : Int).toNat 0) (wrap64 (t806 - 1)) l0_0 l1_0 ([] : List Int))) else (none)) else (none)))) = some (r1, r2, r3) := h
 clear h
 by_cases c3 : (l1_0.length : Int) = 0
 ·rw [if_pos c3] at H
  have c3b0 : ((l1_0.length : Int) == 0) = true := beq_iff_eq.mpr c3
  have c3b1 : ((l1_0.length : Int) != 0) = false := bne_eq_false_iff_eq.mpr c3
  clear c3
  simp only [Option.some.injEq, Prod.mk.injEq] at H
  obtain ⟨rfl, rfl, rfl⟩ := H
  go_enter Tryd.func46, Tryd.ntmps46
  go_wp2_with (first | ((with_reducible refine gate_dst (N := 2) rfl ?_); refine box_event ?hg (N := 2) ?hd (cs := #[.slice A0_0 l0_0.length c0_0]) (t := 26) ?hr ?_; (case hd => rfl); (case hg => rfl); (case hr => first | (go_simp; done) | (go_simp; rfl)); intro gb789 hg w4 hbox hb; have BK789 := Aside0.mk (hbox); have GW789 := Aside0.mk ((by rw [hg]; exact (below_size HB.out) : w.heap.size ≤ gb789)); have GE789 := Aside0.mk ((by rw [hg]; exact (below_size HB.out) : w.heap.size ≤ gb789)); replace HB := Aside0.mk (below_step HB.out hb); clear hb hbox hg) | ((with_reducible refine gate_dst (N := 3) rfl ?_); refine box_event ?hg (N := 3) ?hd (cs := #[.slice A1_0 l1_0.length c1_0]) (t := 26) ?hr ?_; (case hd => rfl); (case hg => rfl); (case hr => first | (go_simp; done) | (go_simp; rfl)); intro gb790 hg w5 hbox hb; have BK790 := Aside0.mk (hbox); have GW790 := Aside0.mk ((by rw [hg]; exact (below_size (by repeat (first | exact HB.out | refine sb ?_ GE789))) : w.heap.size ≤ gb790)); have GE790 := Aside0.mk ((by rw [hg]; exact (below_size (by repeat (first | exact HB.out | refine sb ?_ GE789))) : w.heap.size ≤ gb790)); have NB789_790 := nl BK789 hg; have NB790_789 := ng BK789 hg; replace BK789 := bb BK789 hb; replace HB := Aside0.mk (below_step (by repeat (first | exact HB.out | refine sb ?_ GE789)) hb); clear hb hbox hg) | ((with_reducible refine gate_dst (N := 4) rfl ?_); refine box_event ?hg (N := 4) ?hd (cs := #[.slice none 0 0]) (t := 26) ?hr ?_; (case hd => rfl); (case hg => rfl); (case hr => first | (go_simp; done) | (go_simp; rfl)); intro gb791 hg w6 hbox hb; have BK791 := Aside0.mk (hbox); have GW791 := Aside0.mk ((by rw [hg]; exact (below_size (by repeat (first | exact HB.out | refine sb ?_ GE789 | refine sb ?_ GE790))) : w.heap.size ≤ gb791)); have GE791 := Aside0.mk ((by rw [hg]; exact (below_size (by repeat (first | exact HB.out | refine sb ?_ GE789 | refine sb ?_ GE790))) : w.heap.size ≤ gb791)); have NB789_791 := nl BK789 hg; have NB791_789 := ng BK789 hg; have NB790_791 := nl BK790 hg; have NB791_790 := ng BK790 hg; replace BK789 := bb BK789 hb; replace BK790 := bb BK790 hb; replace HB := Aside0.mk (below_step (by repeat (first | exact HB.out | refine sb ?_ GE789 | refine sb ?_ GE790)) hb); clear hb hbox hg) | ((with_reducible refine gate_dst (N := 5) rfl ?_); refine box_event ?hg (N := 5) ?hd (cs := #[.slice none 0 0]) (t := 26) ?hr ?_; (case hd => rfl); (case hg => rfl); (case hr => first | (go_simp; done) | (go_simp; rfl)); intro gb792 hg w7 hbox hb; have BK792 := Aside0.mk (hbox); have GW792 := Aside0.mk ((by rw [hg]; exact (below_size (by repeat (first | exact HB.out | refine sb ?_ GE789 | refine sb ?_ GE790 | refine sb ?_ GE791))) : w.heap.size ≤ gb792)); have GE792 := Aside0.mk ((by rw [hg]; exact (below_size (by repeat (first | exact HB.out | refine sb ?_ GE789 | refine sb ?_ GE790 | refine sb ?_ GE791))) : w.heap.size ≤ gb792)); have NB789_792 := nl BK789 hg; have NB792_789 := ng BK789 hg; have NB790_792 := nl BK790 hg; have NB792_790 := ng BK790 hg; have NB791_792 := nl BK791 hg; have NB792_791 := ng BK791 hg; replace BK789 := bb BK789 hb; replace BK790 := bb BK790 hb; replace BK791 := bb BK791 hb; replace HB := Aside0.mk (below_step (by repeat (first | exact HB.out | refine sb ?_ GE789 | refine sb ?_ GE790 | refine sb ?_ GE791)) hb); clear hb hbox hg; have hnb8 := NB790_789.out; have hnc8 := NB789_790.out; have hnb9 := NB790_791.out; have hnc9 := NB791_790.out; have hnb10 := NB790_792.out; have hnc10 := NB792_790.out; have hcz11_0 : w7.cell? ⟨gb790, 0, none⟩ = some (.slice A1_0 l1_0.length c1_0) := (blk_cell BK790.out 0).trans rfl; have hfz11_0 := blk_frozen BK790.out 0; have hnb12 := NB791_789.out; have hnc12 := NB789_791.out; have hnb13 := NB791_792.out; have hnc13 := NB792_791.out; have hcz14_0 : w7.cell? ⟨gb791, 0, none⟩ = some (.slice none 0 0) := (blk_cell BK791.out 0).trans rfl; have hfz14_0 := blk_frozen BK791.out 0; have hnb15 := NB792_789.out; have hnc15 := NB789_792.out; have hcz16_0 : w7.cell? ⟨gb792, 0, none⟩ = some (.slice none 0 0) := (blk_cell BK792.out 0).trans rfl; have hfz16_0 := blk_frozen BK792.out 0))
  refine bodyPost_ret (results_list (rs := [.cell 4 26, .cell 5 26, .tmp 6]) rfl (by simp) (.cell gb791 26 #[.slice none 0 0] (0, 0) _ rfl (by refine blk_far ?_ NB791_792.out _; refine blk_put (cs := #[.slice none 0 0]) ?_ 0 _ rfl; exact BK791.out) Tryd.underlying26 rfl (by kernel_rfl) (.cell gb792 26 #[.slice none 0 0] (0, 0) _ rfl (by refine blk_put (cs := #[.slice none 0 0]) ?_ 0 _ rfl; refine blk_far ?_ NB792_791.out _; exact BK792.out) Tryd.underlying26 rfl (by kernel_rfl) (.tmp .nil)))) rfl ?_
  exact ⟨_, _, by first | rfl | (simp [errW_none, errW_some] <;> rfl) | (simp [*, errW_none, errW_some] <;> rfl), Kd.R_V (base := w.heap.size) (by first | exact Kd.R_nil _ _ _ _ (fun _ => False) | exact Kd.R_nil _ _ _ _ _ | exact Kd.N_nil _ _ _ _ _ | exact Kd.V_nil _ _ _ _ _ | exact Kd.Q_nil _ _ _ _ _ | exact Kd.S_nil _ _ _ _ _), Kd.R_V (base := w.heap.size) (by first | exact Kd.R_nil _ _ _ _ (fun _ => False) | exact Kd.R_nil _ _ _ _ _ | exact Kd.N_nil _ _ _ _ _ | exact Kd.V_nil _ _ _ _ _ | exact Kd.Q_nil _ _ _ _ _ | exact Kd.S_nil _ _ _ _ _), by repeat (first | exact HB.out | refine sb ?_ GE789 | refine sb ?_ GE790 | refine sb ?_ GE791 | refine sb ?_ GE792)⟩
 ·rw [if_neg c3] at H
  have c3b0 : ((l1_0.length : Int) == 0) = false := beq_eq_false_iff_ne.mpr c3
  have c3b1 : ((l1_0.length : Int) != 0) = true := bne_iff_ne.mpr c3
  have c3b2 : ¬ (l1_0 = []) := fun h_ => c3 (by rw [h_]; rfl)
  by_cases c17 : (l1_0.length : Int) = 1
  ·rw [if_pos c17] at H
   have c17b0 : ((l1_0.length : Int) == 1) = true := beq_iff_eq.mpr c17
   have c17b1 : ((l1_0.length : Int) != 1) = false := bne_eq_false_iff_eq.mpr c17
   clear c17
   by_cases c18 : 0 < (l1_0.length : Int)
   ·rw [if_pos c18] at H
    have c18b0 : decide (0 < (l1_0.length : Int)) = true := decide_eq_true c18
    have c18b1 : decide (0 < l1_0.length) = true := decide_eq_true (by omega)
    clear c18
    replace H := Option.bind_eq_some_iff.mp H
    obtain ⟨⟨t794, t797⟩, A190, H⟩ := H
    replace H : ((nat_of.f k (IntKind.u64.wrap (t797))).bind fun t799 => (some (t794, t799, 0))) = some (r1, r2, r3) := H
    have A19 := Aside0.mk A190
    clear A190
    replace H := Option.bind_eq_some_iff.mp H
    obtain ⟨t799, A200, H⟩ := H
    replace H : (some (t794, t799, 0)) = some (r1, r2, r3) := H
    have A20 := Aside0.mk A200
    clear A200
    simp only [Option.some.injEq, Prod.mk.injEq] at H
    obtain ⟨rfl, rfl, rfl⟩ := H
    go_enter Tryd.func46, Tryd.ntmps46
    try go_wp2_with (first | ((with_reducible refine gate_dst (N := 2) rfl ?_); refine box_event ?hg (N := 2) ?hd (cs := #[.slice A0_0 l0_0.length c0_0]) (t := 26) ?hr ?_; (case hd => rfl); (case hg => rfl); (case hr => first | (go_simp; done) | (go_simp; rfl)); intro gb789 hg w21 hbox hb; have BK789 := Aside0.mk (hbox); have GW789 := Aside0.mk ((by rw [hg]; exact (below_size HB.out) : w.heap.size ≤ gb789)); have GE789 := Aside0.mk ((by rw [hg]; exact (below_size HB.out) : w.heap.size ≤ gb789)); replace HB := Aside0.mk (below_step HB.out hb); clear hb hbox hg) | ((with_reducible refine gate_dst (N := 3) rfl ?_); refine box_event ?hg (N := 3) ?hd (cs := #[.slice A1_0 l1_0.length c1_0]) (t := 26) ?hr ?_; (case hd => rfl); (case hg => rfl); (case hr => first | (go_simp; done) | (go_simp; rfl)); intro gb790 hg w22 hbox hb; have BK790 := Aside0.mk (hbox); have GW790 := Aside0.mk ((by rw [hg]; exact (below_size (by repeat (first | exact HB.out | refine sb ?_ GE789))) : w.heap.size ≤ gb790)); have GE790 := Aside0.mk ((by rw [hg]; exact (below_size (by repeat (first | exact HB.out | refine sb ?_ GE789))) : w.heap.size ≤ gb790)); have NB789_790 := nl BK789 hg; have NB790_789 := ng BK789 hg; replace BK789 := bb BK789 hb; replace HB := Aside0.mk (below_step (by repeat (first | exact HB.out | refine sb ?_ GE789)) hb); clear hb hbox hg) | ((with_reducible refine gate_dst (N := 4) rfl ?_); refine box_event ?hg (N := 4) ?hd (cs := #[.slice none 0 0]) (t := 26) ?hr ?_; (case hd => rfl); (case hg => rfl); (case hr => first | (go_simp; done) | (go_simp; rfl)); intro gb791 hg w23 hbox hb; have BK791 := Aside0.mk (hbox); have GW791 := Aside0.mk ((by rw [hg]; exact (below_size (by repeat (first | exact HB.out | refine sb ?_ GE789 | refine sb ?_ GE790))) : w.heap.size ≤ gb791)); have GE791 := Aside0.mk ((by rw [hg]; exact (below_size (by repeat (first | exact HB.out | refine sb ?_ GE789 | refine sb ?_ GE790))) : w.heap.size ≤ gb791)); have NB789_791 := nl BK789 hg; have NB791_789 := ng BK789 hg; have NB790_791 := nl BK790 hg; have NB791_790 := ng BK790 hg; replace BK789 := bb BK789 hb; replace BK790 := bb BK790 hb; replace HB := Aside0.mk (below_step (by repeat (first | exact HB.out | refine sb ?_ GE789 | refine sb ?_ GE790)) hb); clear hb hbox hg) | ((with_reducible refine gate_dst (N := 5) rfl ?_); refine box_event ?hg (N := 5) ?hd (cs := #[.slice none 0 0]) (t := 26) ?hr ?_; (case hd => rfl); (case hg => rfl); (case hr => first | (go_simp; done) | (go_simp; rfl)); intro gb792 hg w24 hbox hb; have BK792 := Aside0.mk (hbox); have GW792 := Aside0.mk ((by rw [hg]; exact (below_size (by repeat (first | exact HB.out | refine sb ?_ GE789 | refine sb ?_ GE790 | refine sb ?_ GE791))) : w.heap.size ≤ gb792)); have GE792 := Aside0.mk ((by rw [hg]; exact (below_size (by repeat (first | exact HB.out | refine sb ?_ GE789 | refine sb ?_ GE790 | refine sb ?_ GE791))) : w.heap.size ≤ gb792)); have NB789_792 := nl BK789 hg; have NB792_789 := ng BK789 hg; have NB790_792 := nl BK790 hg; have NB792_790 := ng BK790 hg; have NB791_792 := nl BK791 hg; have NB792_791 := ng BK791 hg; replace BK789 := bb BK789 hb; replace BK790 := bb BK790 hb; replace BK791 := bb BK791 hb; replace HB := Aside0.mk (below_step (by repeat (first | exact HB.out | refine sb ?_ GE789 | refine sb ?_ GE790 | refine sb ?_ GE791)) hb); clear hb hbox hg; have hnb25 := NB790_789.out; have hnc25 := NB789_790.out; have hnb26 := NB790_791.out; have hnc26 := NB791_790.out; have hnb27 := NB790_792.out; have hnc27 := NB792_790.out; have hcz28_0 : w24.cell? ⟨gb790, 0, none⟩ = some (.slice A1_0 l1_0.length c1_0) := (blk_cell BK790.out 0).trans rfl; have hfz28_0 := blk_frozen BK790.out 0))
    replace BK789 := Aside0.mk (blk_drew BK789.out)
    replace BK790 := Aside0.mk (blk_drew BK790.out)
    replace BK791 := Aside0.mk (blk_drew BK791.out)
    replace BK792 := Aside0.mk (blk_drew BK792.out)
    replace HB := Aside0.mk (below_drew1 HB.out)
    have p793 : 0 ≤ (0 : Int) := (by omega)
    have q793 : 0 < (l1_0.length : Int) := of_decide_eq_true (by first | (with_reducible assumption) | assumption)
    obtain ⟨ad793, e793, hx793_0⟩ := Kd.at_int HR1_0.out 0 p793 q793
    have hw793_0 := hx793_0
    (try rw [show ((0 : Int)).toNat = 0 from rfl] at hw793_0)
    (try rw [show 0 * 1 = 0 from rfl] at hw793_0)
    (try rw [Addr.add_zero'] at hw793_0)
    cases e793
    have qi793 : (0 < l1_0.length) = True := eq_true (by omega)
    (try rw [show ((0 : Int)).toNat = 0 from rfl] at hx793_0)
    (try rw [Addr.add_zero'] at hx793_0)
    replace hx793_0 := (HB.out.cell (World.block_lt_of_cell? w _ hx793_0)).trans hx793_0
    replace p793 := eq_true p793
    replace q793 := eq_true q793
    refine start_ (n := 12) (S := fun w' => w'.cell? ⟨gb789, 0, none⟩ = some (.slice A0_0 l0_0.length c0_0) ∧ w'.cell? ⟨gb790, 0, none⟩ = some (.slice (some ad793) l1_0.length c1_0) ∧ w'.cell? ad793 = some (.int .u32 (rd l1_0 0))) (ds := []) #[false, false, false, false, false, false, false, false, false, false, false, false] (by kernel_rfl) rfl rfl ⟨(blk_cell BK789.out 0).trans rfl, (blk_cell BK790.out 0).trans rfl, ((HB.out.cell (World.block_lt_of_cell? w _ hw793_0)).trans hw793_0)⟩ (fun hHeld => ?_); refine with_tabW nat_Nat_Div.tab4 nat_Nat_Div.bits4 (fun HT_ HW_ => ?_)
    generalize w24.drew = w29 at BK789 BK790 BK791 BK792 HB hx793_0 hHeld ⊢
    refine pure_ (i := 1) (N := some 24) (v := ?_) (a' := ?_) #[false, true, false, false, false, false, false, false, false, false, false, false] rfl rfl (any_of HT_.out (by kernel_rfl)) (fun _ _ _ h => h) (Or.inl ⟨by rfl, ?_⟩) ?_ ?_
    rotate_left
    ·intro w'
     go_simp
     with_reducible rfl
    rotate_left
    ·simp only [Act.put, sa, sz, ss, i64_w, i32_w]
     rfl
    refine take_ (i := 0) (N := some 23) (v := ?_) (a' := ?_) #[true, true, false, false, false, false, false, false, false, false, false, false] rfl rfl (take_ofW HT_.out HW_.out (by kernel_rfl)) (fun _ _ _ h => h) (Or.inl ⟨by rfl, ?_⟩) hHeld ?_ ?_
    rotate_left
    ·rintro w' ⟨s0, s1, s2⟩
     go_simp
     with_reducible rfl
    rotate_left
    ·simp only [Act.put, sa, sz, ss, i64_w, i32_w]
     rfl
    refine take_ (i := 2) (N := some 25) (v := ?_) (a' := ?_) #[true, true, true, false, false, false, false, false, false, false, false, false] rfl rfl (take_ofW HT_.out HW_.out (by kernel_rfl)) (fun _ _ _ h => h) (Or.inl ⟨by rfl, ?_⟩) hHeld ?_ ?_
    rotate_left
    ·rintro w' ⟨s0, s1, s2⟩
     go_simp
     with_reducible rfl
    rotate_left
    ·simp only [Act.put, sa, sz, ss, i64_w, i32_w]
     rfl
    refine pure_ (i := 3) (N := some 26) (v := ?_) (a' := ?_) #[true, true, true, true, false, false, false, false, false, false, false, false] rfl rfl (any_of HT_.out (by kernel_rfl)) (fun _ _ _ h => h) (Or.inl ⟨by rfl, ?_⟩) ?_ ?_
    rotate_left
    ·intro w'
     go_simp
     with_reducible rfl
    rotate_left
    ·simp only [Act.put, sa, sz, ss, i64_w, i32_w]
     rfl
    refine take_ (i := 4) (N := some 27) (v := ?_) (a' := ?_) #[true, true, true, true, true, false, false, false, false, false, false, false] rfl rfl (take_ofW HT_.out HW_.out (by kernel_rfl)) (fun _ _ _ h => h) (Or.inl ⟨by rfl, ?_⟩) hHeld ?_ ?_
    rotate_left
    ·rintro w' ⟨s0, s1, s2⟩
     go_simp
     with_reducible rfl
    rotate_left
    ·simp only [Act.put, sa, sz, ss, i64_w, i32_w]
     rfl
    refine join_ (σ := Value × Nat) 2 #[true, true, true, true, true, true, true, true, true, true, false, false] (fun s_ => [(28, .tuple #[.agg #[s_.1], .int .u32 t797]), (7, .pointer (some ⟨s_.2, 0, none⟩)), (22, .tuple #[.agg #[s_.1], .int .u32 t797]), (29, .agg #[s_.1]), (30, .int .u32 t797)]) (fun s_ w' => (w'.cell? ⟨gb789, 0, none⟩ = some (.slice A0_0 l0_0.length c0_0) ∧ w'.cell? ⟨gb790, 0, none⟩ = some (.slice (some ad793) l1_0.length c1_0) ∧ w'.cell? ad793 = some (.int .u32 (rd l1_0 0))) ∧ (Kd.V (Kd.int .u32) 79 w' w.heap.size (fun k_ => (w.heap.size ≤ k_) ∧ k_ ≠ gb789 ∧ k_ ≠ gb790 ∧ k_ ≠ gb791 ∧ k_ ≠ gb792 ∧ k_ ≠ s_.2) s_.1 t794) ∧ (w'.heap[gb789]? = some (.cells #[.slice A0_0 l0_0.length c0_0] 26 (0, 0))) ∧ (w'.heap[gb790]? = some (.cells #[.slice (some ad793) l1_0.length c1_0] 26 (0, 0))) ∧ (w'.heap[gb791]? = some (.cells #[.slice none 0 0] 26 (0, 0))) ∧ (w'.heap[gb792]? = some (.cells #[.slice none 0 0] 26 (0, 0))) ∧ (w'.heap[s_.2]? = some (.cells #[.slice none 0 0] 26 (0, 0))) ∧ (w.heap.size ≤ s_.2) ∧ (w.heap.size ≤ s_.2) ∧ (gb789 ≠ s_.2) ∧ (s_.2 ≠ gb789) ∧ (gb790 ≠ s_.2) ∧ (s_.2 ≠ gb790) ∧ (gb791 ≠ s_.2) ∧ (s_.2 ≠ gb791) ∧ (gb792 ≠ s_.2) ∧ (s_.2 ≠ gb792) ∧ (Below w.heap.size w w')) ?_ ?_
    rotate_left
    ·intro hCont
     refine two_ (i := 5) (j := 9) (Ni := some 28) (Nj := some 7) #[true, true, true, true, true, true, false, false, false, false, false, false] #[true, true, true, true, true, false, false, false, false, true, false, false] rfl rfl rfl rfl (two_of HT_.out (by kernel_rfl)) (by decide) (by decide) (fun K hK => ?_) (fun K hK => ?_)
     ·skip
      refine goes_ Tryd.func51 (by kernel_rfl) rfl #[.agg #[.slice A0_0 l0_0.length c0_0], .int .u32 (rd l1_0 0)] (by rfl) rfl rfl (by (try simp only [List.map_toArray, List.map_cons, List.map_nil]); first | done | rfl | (simp only [List.length_drop, List.length_take]; rfl)) ?_
      with_reducible refine (nat_Nat_by.calls k _ _ l0_0 (rd l1_0 0) t794 t797 _ ?side1 ?side2 A19.out).mono ?_
      (case side1 => repeat (first | exact (Kd.C_below HR0_0.out HB.out) | (with_reducible refine Kd.C_alloc ?_ _) | (with_reducible refine Kd.C_drewN ?_ _) | (with_reducible refine Kd.C_drew ?_)))
      (case side2 => exact HC0_0.out)
      rintro e w30 ⟨v795, rfl, ho0, hb⟩
      refine ⟨_, rfl, ?_⟩
      have HO796 := Aside0.mk (Kd.V_lower (Kd.V_mono (ok' := fun k_ => (w.heap.size ≤ k_) ∧ k_ ≠ gb789 ∧ k_ ≠ gb790 ∧ k_ ≠ gb791 ∧ k_ ≠ gb792) ho0 (fun k_ hk_ => ⟨(Nat.le_trans (below_size (by repeat (first | exact HB.out | refine sb ?_ GE789 | refine sb ?_ GE790 | refine sb ?_ GE791 | refine sb ?_ GE792))) hk_), (fb BK789 k_ hk_), (fb BK790 k_ hk_), (fb BK791 k_ hk_), (fb BK792 k_ hk_)⟩)) (below_size (by repeat (first | exact HB.out | refine sb ?_ GE789 | refine sb ?_ GE790 | refine sb ?_ GE791 | refine sb ?_ GE792))))
      replace BK789 := bb BK789 hb
      replace BK790 := bb BK790 hb
      replace BK791 := bb BK791 hb
      replace BK792 := bb BK792 hb
      replace HB := Aside0.mk (below_step (by repeat (first | exact HB.out | refine sb ?_ GE789 | refine sb ?_ GE790 | refine sb ?_ GE791 | refine sb ?_ GE792)) hb)
      (try clear hb)
      (try clear hb2)
      (try clear hk)
      (try clear hi)
      (try clear ho0)
      refine hK.out _ _ ⟨(blk_cell BK789.out 0).trans rfl, (blk_cell BK790.out 0).trans rfl, ((HB.out.cell (World.block_lt_of_cell? w _ hw793_0)).trans hw793_0)⟩ (fun hHeld => ?_)
      clear hK K
      refine norm_ (a' := ?_) ?_ ?_
      rotate_left
      ·show Act.put _ (some 28) _ = _
       simp only [Act.put, sa, sz, ss, i64_w, i32_w]
       rfl
      refine pure_ (i := 6) (N := some 22) (v := ?_) (a' := ?_) #[true, true, true, true, true, true, true, false, false, false, false, false] rfl rfl (any_of HT_.out (by kernel_rfl)) (fun _ _ _ h => h) (Or.inl ⟨by rfl, ?_⟩) ?_ ?_
      rotate_left
      ·intro w'
       go_simp
       with_reducible rfl
      rotate_left
      ·simp only [Act.put, sa, sz, ss, i64_w, i32_w]
       rfl
      refine pure_ (i := 7) (N := some 29) (v := ?_) (a' := ?_) #[true, true, true, true, true, true, true, true, false, false, false, false] rfl rfl (any_of HT_.out (by kernel_rfl)) (fun _ _ _ h => h) (Or.inl ⟨by rfl, ?_⟩) ?_ ?_
      rotate_left
      ·intro w'
       go_simp
       with_reducible rfl
      rotate_left
      ·simp only [Act.put, sa, sz, ss, i64_w, i32_w]
       rfl
      refine pure_ (i := 8) (N := some 30) (v := ?_) (a' := ?_) #[true, true, true, true, true, true, true, true, true, false, false, false] rfl rfl (any_of HT_.out (by kernel_rfl)) (fun _ _ _ h => h) (Or.inl ⟨by rfl, ?_⟩) ?_ ?_
      rotate_left
      ·intro w'
       go_simp
       with_reducible rfl
      rotate_left
      ·simp only [Act.put, sa, sz, ss, i64_w, i32_w]
       rfl
      refine one_ (i := 9) (N := some 7) #[true, true, true, true, true, true, true, true, true, true, false, false] rfl rfl (one_of HT_.out (by kernel_rfl)) (by decide) (fun K hK => ?_)
      refine box_step ?hg (N := 7) ?hd (cs := #[.slice none 0 0]) (t := 26) ?hr ?_; (case hd => rfl); (case hg => rfl); (case hr => first | (go_simp; done) | (go_simp; rfl))
      intro gb798 hg w31 hbox hb
      have BK798 := Aside0.mk (hbox)
      have GW798 := Aside0.mk ((by rw [hg]; exact (below_size (by repeat (first | exact HB.out | refine sb ?_ GE789 | refine sb ?_ GE790 | refine sb ?_ GE791 | refine sb ?_ GE792))) : w.heap.size ≤ gb798))
      have GE798 := Aside0.mk ((by rw [hg]; exact (below_size (by repeat (first | exact HB.out | refine sb ?_ GE789 | refine sb ?_ GE790 | refine sb ?_ GE791 | refine sb ?_ GE792))) : w.heap.size ≤ gb798))
      have NB789_798 := nl BK789 hg
      have NB798_789 := ng BK789 hg
      have NB790_798 := nl BK790 hg
      have NB798_790 := ng BK790 hg
      have NB791_798 := nl BK791 hg
      have NB798_791 := ng BK791 hg
      have NB792_798 := nl BK792 hg
      have NB798_792 := ng BK792 hg
      replace HO796 := ve HO796 gb798 hg hb
      replace BK789 := bb BK789 hb
      replace BK790 := bb BK790 hb
      replace BK791 := bb BK791 hb
      replace BK792 := bb BK792 hb
      replace HB := Aside0.mk (below_step (by repeat (first | exact HB.out | refine sb ?_ GE789 | refine sb ?_ GE790 | refine sb ?_ GE791 | refine sb ?_ GE792)) hb)
      clear hb hbox hg
      refine hK.out _ _ ⟨(blk_cell BK789.out 0).trans rfl, (blk_cell BK790.out 0).trans rfl, ((HB.out.cell (World.block_lt_of_cell? w _ hw793_0)).trans hw793_0)⟩ (fun hHeld => ?_)
      clear hK K
      refine norm_ (a' := ?_) ?_ ?_
      rotate_left
      ·show Act.put _ (some 7) _ = _
       simp only [Act.put, sa, sz, ss, i64_w, i32_w]
       rfl
      exact norm_ (by simp only [putAll, Act.put, List.setIfInBounds_toArray, List.set_cons_zero, List.set_cons_succ]) (hCont (v795, gb798) _ ⟨hHeld, (by exact Kd.V_mono HO796.out (fun _ hk => ⟨hk.1.1, ⟨hk.1.2.1, ⟨hk.1.2.2.1, ⟨hk.1.2.2.2.1, ⟨hk.1.2.2.2.2, hk.2⟩⟩⟩⟩⟩)), BK789.out, BK790.out, BK791.out, BK792.out, BK798.out, GW798.out, GE798.out, NB789_798.out, NB798_789.out, NB790_798.out, NB798_790.out, NB791_798.out, NB798_791.out, NB792_798.out, NB798_792.out, (by repeat (first | exact HB.out | refine sb ?_ GE789 | refine sb ?_ GE790 | refine sb ?_ GE791 | refine sb ?_ GE792 | refine sb ?_ GE798))⟩)
     ·skip
      refine box_step ?hg (N := 7) ?hd (cs := #[.slice none 0 0]) (t := 26) ?hr ?_; (case hd => rfl); (case hg => rfl); (case hr => first | (go_simp; done) | (go_simp; rfl))
      intro gb798 hg w30 hbox hb
      have BK798 := Aside0.mk (hbox)
      have GW798 := Aside0.mk ((by rw [hg]; exact (below_size (by repeat (first | exact HB.out | refine sb ?_ GE789 | refine sb ?_ GE790 | refine sb ?_ GE791 | refine sb ?_ GE792))) : w.heap.size ≤ gb798))
      have GE798 := Aside0.mk ((by rw [hg]; exact (below_size (by repeat (first | exact HB.out | refine sb ?_ GE789 | refine sb ?_ GE790 | refine sb ?_ GE791 | refine sb ?_ GE792))) : w.heap.size ≤ gb798))
      have NB789_798 := nl BK789 hg
      have NB798_789 := ng BK789 hg
      have NB790_798 := nl BK790 hg
      have NB798_790 := ng BK790 hg
      have NB791_798 := nl BK791 hg
      have NB798_791 := ng BK791 hg
      have NB792_798 := nl BK792 hg
      have NB798_792 := ng BK792 hg
      replace BK789 := bb BK789 hb
      replace BK790 := bb BK790 hb
      replace BK791 := bb BK791 hb
      replace BK792 := bb BK792 hb
      replace HB := Aside0.mk (below_step (by repeat (first | exact HB.out | refine sb ?_ GE789 | refine sb ?_ GE790 | refine sb ?_ GE791 | refine sb ?_ GE792)) hb)
      clear hb hbox hg
      refine hK.out _ _ ⟨(blk_cell BK789.out 0).trans rfl, (blk_cell BK790.out 0).trans rfl, ((HB.out.cell (World.block_lt_of_cell? w _ hw793_0)).trans hw793_0)⟩ (fun hHeld => ?_)
      clear hK K
      refine norm_ (a' := ?_) ?_ ?_
      rotate_left
      ·show Act.put _ (some 7) _ = _
       simp only [Act.put, sa, sz, ss, i64_w, i32_w]
       rfl
      refine one_ (i := 5) (N := some 28) #[true, true, true, true, true, true, false, false, false, true, false, false] rfl rfl (one_of HT_.out (by kernel_rfl)) (by decide) (fun K hK => ?_)
      refine goes_ Tryd.func51 (by kernel_rfl) rfl #[.agg #[.slice A0_0 l0_0.length c0_0], .int .u32 (rd l1_0 0)] (by rfl) rfl rfl (by (try simp only [List.map_toArray, List.map_cons, List.map_nil]); first | done | rfl | (simp only [List.length_drop, List.length_take]; rfl)) ?_
      with_reducible refine (nat_Nat_by.calls k _ _ l0_0 (rd l1_0 0) t794 t797 _ ?side1 ?side2 A19.out).mono ?_
      (case side1 => repeat (first | exact (Kd.C_below HR0_0.out HB.out) | (with_reducible refine Kd.C_alloc ?_ _) | (with_reducible refine Kd.C_drewN ?_ _) | (with_reducible refine Kd.C_drew ?_)))
      (case side2 => exact HC0_0.out)
      rintro e w31 ⟨v795, rfl, ho0, hb⟩
      refine ⟨_, rfl, ?_⟩
      have HO796 := Aside0.mk (Kd.V_lower (Kd.V_mono (ok' := fun k_ => (w.heap.size ≤ k_) ∧ k_ ≠ gb789 ∧ k_ ≠ gb790 ∧ k_ ≠ gb791 ∧ k_ ≠ gb792 ∧ k_ ≠ gb798) ho0 (fun k_ hk_ => ⟨(Nat.le_trans (below_size (by repeat (first | exact HB.out | refine sb ?_ GE789 | refine sb ?_ GE790 | refine sb ?_ GE791 | refine sb ?_ GE792 | refine sb ?_ GE798))) hk_), (fb BK789 k_ hk_), (fb BK790 k_ hk_), (fb BK791 k_ hk_), (fb BK792 k_ hk_), (fb BK798 k_ hk_)⟩)) (below_size (by repeat (first | exact HB.out | refine sb ?_ GE789 | refine sb ?_ GE790 | refine sb ?_ GE791 | refine sb ?_ GE792 | refine sb ?_ GE798))))
      replace BK789 := bb BK789 hb
      replace BK790 := bb BK790 hb
      replace BK791 := bb BK791 hb
      replace BK792 := bb BK792 hb
      replace BK798 := bb BK798 hb
      replace HB := Aside0.mk (below_step (by repeat (first | exact HB.out | refine sb ?_ GE789 | refine sb ?_ GE790 | refine sb ?_ GE791 | refine sb ?_ GE792 | refine sb ?_ GE798)) hb)
      (try clear hb)
      (try clear hb2)
      (try clear hk)
      (try clear hi)
      (try clear ho0)
      refine hK.out _ _ ⟨(blk_cell BK789.out 0).trans rfl, (blk_cell BK790.out 0).trans rfl, ((HB.out.cell (World.block_lt_of_cell? w _ hw793_0)).trans hw793_0)⟩ (fun hHeld => ?_)
      clear hK K
      refine norm_ (a' := ?_) ?_ ?_
      rotate_left
      ·show Act.put _ (some 28) _ = _
       simp only [Act.put, sa, sz, ss, i64_w, i32_w]
       rfl
      refine pure_ (i := 6) (N := some 22) (v := ?_) (a' := ?_) #[true, true, true, true, true, true, true, false, false, true, false, false] rfl rfl (any_of HT_.out (by kernel_rfl)) (fun _ _ _ h => h) (Or.inl ⟨by rfl, ?_⟩) ?_ ?_
      rotate_left
      ·intro w'
       go_simp
       with_reducible rfl
      rotate_left
      ·simp only [Act.put, sa, sz, ss, i64_w, i32_w]
       rfl
      refine pure_ (i := 7) (N := some 29) (v := ?_) (a' := ?_) #[true, true, true, true, true, true, true, true, false, true, false, false] rfl rfl (any_of HT_.out (by kernel_rfl)) (fun _ _ _ h => h) (Or.inl ⟨by rfl, ?_⟩) ?_ ?_
      rotate_left
      ·intro w'
       go_simp
       with_reducible rfl
      rotate_left
      ·simp only [Act.put, sa, sz, ss, i64_w, i32_w]
       rfl
      refine pure_ (i := 8) (N := some 30) (v := ?_) (a' := ?_) #[true, true, true, true, true, true, true, true, true, true, false, false] rfl rfl (any_of HT_.out (by kernel_rfl)) (fun _ _ _ h => h) (Or.inl ⟨by rfl, ?_⟩) ?_ ?_
      rotate_left
      ·intro w'
       go_simp
       with_reducible rfl
      rotate_left
      ·simp only [Act.put, sa, sz, ss, i64_w, i32_w]
       rfl
      exact norm_ (by simp only [putAll, Act.put, List.setIfInBounds_toArray, List.set_cons_zero, List.set_cons_succ]) (hCont (v795, gb798) _ ⟨hHeld, HO796.out, BK789.out, BK790.out, BK791.out, BK792.out, BK798.out, GW798.out, GE798.out, NB789_798.out, NB798_789.out, NB790_798.out, NB798_790.out, NB791_798.out, NB798_791.out, NB792_798.out, NB798_792.out, (by repeat (first | exact HB.out | refine sb ?_ GE789 | refine sb ?_ GE790 | refine sb ?_ GE791 | refine sb ?_ GE792 | refine sb ?_ GE798))⟩)
    rintro ⟨v795, gb798⟩ w32 ⟨hS_, h0_, h1_, h2_, h3_, h4_, h5_, h6_, h7_, h8_, h9_, h10_, h11_, h12_, h13_, h14_, h15_, h16_⟩
    have n0_ : Aside0 (Kd.V (Kd.int .u32) 79 w32 w.heap.size (fun k_ => (w.heap.size ≤ k_) ∧ k_ ≠ gb789 ∧ k_ ≠ gb790 ∧ k_ ≠ gb791 ∧ k_ ≠ gb792 ∧ k_ ≠ gb798) v795 t794) := ⟨h0_⟩
    have n1_ : Aside0 (w32.heap[gb789]? = some (.cells #[.slice A0_0 l0_0.length c0_0] 26 (0, 0))) := ⟨h1_⟩
    have n2_ : Aside0 (w32.heap[gb790]? = some (.cells #[.slice (some ad793) l1_0.length c1_0] 26 (0, 0))) := ⟨h2_⟩
    have n3_ : Aside0 (w32.heap[gb791]? = some (.cells #[.slice none 0 0] 26 (0, 0))) := ⟨h3_⟩
    have n4_ : Aside0 (w32.heap[gb792]? = some (.cells #[.slice none 0 0] 26 (0, 0))) := ⟨h4_⟩
    have n5_ : Aside0 (w32.heap[gb798]? = some (.cells #[.slice none 0 0] 26 (0, 0))) := ⟨h5_⟩
    have n6_ : Aside0 (w.heap.size ≤ gb798) := ⟨h6_⟩
    have n7_ : Aside0 (w.heap.size ≤ gb798) := ⟨h7_⟩
    have n8_ : Aside0 (gb789 ≠ gb798) := ⟨h8_⟩
    have n9_ : Aside0 (gb798 ≠ gb789) := ⟨h9_⟩
    have n10_ : Aside0 (gb790 ≠ gb798) := ⟨h10_⟩
    have n11_ : Aside0 (gb798 ≠ gb790) := ⟨h11_⟩
    have n12_ : Aside0 (gb791 ≠ gb798) := ⟨h12_⟩
    have n13_ : Aside0 (gb798 ≠ gb791) := ⟨h13_⟩
    have n14_ : Aside0 (gb792 ≠ gb798) := ⟨h14_⟩
    have n15_ : Aside0 (gb798 ≠ gb792) := ⟨h15_⟩
    have n16_ : Aside0 (Below w.heap.size w w32) := ⟨h16_⟩
    clear BK789
    clear BK790
    clear BK791
    clear BK792
    clear HB
    clear h0_ h1_ h2_ h3_ h4_ h5_ h6_ h7_ h8_ h9_ h10_ h11_ h12_ h13_ h14_ h15_ h16_
    have HO796 := n0_
    have BK789 := n1_
    have BK790 := n2_
    have BK791 := n3_
    have BK792 := n4_
    have BK798 := n5_
    have GW798 := n6_
    have GE798 := n7_
    have NB789_798 := n8_
    have NB798_789 := n9_
    have NB790_798 := n10_
    have NB798_790 := n11_
    have NB791_798 := n12_
    have NB798_791 := n13_
    have NB792_798 := n14_
    have NB798_792 := n15_
    have HB := n16_
    clear n0_ n1_ n2_ n3_ n4_ n5_ n6_ n7_ n8_ n9_ n10_ n11_ n12_ n13_ n14_ n15_ n16_
    have hHeld : w32.cell? ⟨gb789, 0, none⟩ = some (.slice A0_0 l0_0.length c0_0) ∧ w32.cell? ⟨gb790, 0, none⟩ = some (.slice (some ad793) l1_0.length c1_0) ∧ w32.cell? ad793 = some (.int .u32 (rd l1_0 0)) := hS_
    obtain ⟨Ao33, co33, eo33⟩ := Kd.V_slice HO796.out
    (first | subst eo33 | (injection eo33 with f1_ f2_ f3_; have f4_ := f1_.symm; have f5_ := f3_.symm; clear f1_ f2_ f3_; subst f4_; subst f5_))
    refine norm_ (a' := ?_) ?_ ?_
    rotate_left
    ·simp only [putAll, Act.put, List.setIfInBounds_toArray, List.set_cons_zero, List.set_cons_succ]
     rfl
    refine one_ (i := 10) (N := none) #[true, true, true, true, true, true, true, true, true, true, true, false] rfl rfl (one_of HT_.out (by kernel_rfl)) (by decide) (fun K hK => ?_)
    have hs34 : w32.cell? ⟨gb798, 0, none⟩ = some (.slice none 0 0) := (blk_cell BK798.out 0).trans rfl
    have hfs34 := blk_frozen BK798.out 0
    have hns34_0 := NB789_798.out
    have hns34_1 := NB790_798.out
    have hns34_2 := NB791_798.out
    have hns34_3 := NB792_798.out
    have hms34_0 := NB798_789.out
    have hms34_1 := NB798_790.out
    have hms34_2 := NB798_791.out
    have hms34_3 := NB798_792.out
    refine skip_ (w1 := ?_) (by rfl) rfl ?_ ?_
    rotate_left
    ·go_simp
     rfl
    refine hK.out _ _ ⟨((cell_far (p := ⟨gb798, _, none⟩) NB789_798.out _).trans (hHeld.1)), ((cell_far (p := ⟨gb798, _, none⟩) NB790_798.out _).trans (hHeld.2.1)), ((cell_far (p := ⟨gb798, _, none⟩) (by first | exact Nat.ne_of_lt (Nat.lt_of_lt_of_le (by have := World.block_lt_of_cell? _ _ hw793_0; first | rwa [add_block] at this | exact this) GW798.out) | (rw [add_block]; exact Nat.ne_of_lt (Nat.lt_of_lt_of_le (by have := World.block_lt_of_cell? _ _ hw793_0; first | rwa [add_block] at this | exact this) GW798.out)) | (show (Addr.add _ _).block ≠ _; rw [add_block]; exact Nat.ne_of_lt (Nat.lt_of_lt_of_le (by have := World.block_lt_of_cell? _ _ hw793_0; first | rwa [add_block] at this | exact this) GW798.out)) | (dsimp only; exact Nat.ne_of_lt (Nat.lt_of_lt_of_le (by have := World.block_lt_of_cell? _ _ hw793_0; first | rwa [add_block] at this | exact this) GW798.out))) _).trans (hHeld.2.2))⟩ (fun hHeld => ?_)
    clear hK K
    refine pure_ (i := 11) (N := some 8) (v := ?_) (a' := ?_) #[true, true, true, true, true, true, true, true, true, true, true, true] rfl rfl (any_of HT_.out (by kernel_rfl)) (fun _ _ _ h => h) (Or.inl ⟨by rfl, ?_⟩) ?_ ?_
    rotate_left
    ·intro w'
     go_simp
     with_reducible rfl
    rotate_left
    ·simp only [Act.put, sa, sz, ss, i64_w, i32_w]
     rfl
    refine done_ (done_of HT_.out (by kernel_rfl)) ?_
    try go_wp2
    have n0_ : Aside0 (Kd.V (Kd.int .u32) 79 (w32.setCell ⟨gb798, 0, none⟩ (.slice Ao33 t794.length co33)) w.heap.size (fun k_ => (w.heap.size ≤ k_) ∧ k_ ≠ gb789 ∧ k_ ≠ gb790 ∧ k_ ≠ gb791 ∧ k_ ≠ gb792 ∧ k_ ≠ gb798) (.slice Ao33 t794.length co33) t794) := ⟨by exact Kd.V_mono (Kd.V_far (p := ⟨gb798, 0, none⟩) (Kd.V_mono HO796.out (fun k_ hk => (⟨hk, hk.2.2.2.2.2⟩ : _ ∧ k_ ≠ gb798))) (fun _ hk => hk.2) (.slice Ao33 t794.length co33)) (fun _ hk => ⟨hk.1.1, ⟨hk.1.2.1, ⟨hk.1.2.2.1, ⟨hk.1.2.2.2.1, ⟨hk.1.2.2.2.2.1, hk.1.2.2.2.2.2⟩⟩⟩⟩⟩)⟩
    have n1_ : Aside0 ((w32.setCell ⟨gb798, 0, none⟩ (.slice Ao33 t794.length co33)).heap[gb789]? = some (.cells #[.slice A0_0 l0_0.length c0_0] 26 (0, 0))) := ⟨by refine blk_far ?_ NB789_798.out _; exact BK789.out⟩
    have n2_ : Aside0 ((w32.setCell ⟨gb798, 0, none⟩ (.slice Ao33 t794.length co33)).heap[gb790]? = some (.cells #[.slice (some ad793) l1_0.length c1_0] 26 (0, 0))) := ⟨by refine blk_far ?_ NB790_798.out _; exact BK790.out⟩
    have n3_ : Aside0 ((w32.setCell ⟨gb798, 0, none⟩ (.slice Ao33 t794.length co33)).heap[gb791]? = some (.cells #[.slice none 0 0] 26 (0, 0))) := ⟨by refine blk_far ?_ NB791_798.out _; exact BK791.out⟩
    have n4_ : Aside0 ((w32.setCell ⟨gb798, 0, none⟩ (.slice Ao33 t794.length co33)).heap[gb792]? = some (.cells #[.slice none 0 0] 26 (0, 0))) := ⟨by refine blk_far ?_ NB792_798.out _; exact BK792.out⟩
    have n5_ : Aside0 ((w32.setCell ⟨gb798, 0, none⟩ (.slice Ao33 t794.length co33)).heap[gb798]? = some (.cells #[.slice Ao33 t794.length co33] 26 (0, 0))) := ⟨by refine blk_put (cs := #[.slice none 0 0]) ?_ 0 _ rfl; exact BK798.out⟩
    have n6_ : Aside0 (Below w.heap.size w (w32.setCell ⟨gb798, 0, none⟩ (.slice Ao33 t794.length co33))) := ⟨by repeat (first | exact HB.out | refine sb ?_ GE789 | refine sb ?_ GE790 | refine sb ?_ GE791 | refine sb ?_ GE792 | refine sb ?_ GE798)⟩
    (try clear HO796)
    (try clear BK789)
    (try clear BK790)
    (try clear BK791)
    (try clear BK792)
    (try clear BK798)
    (try clear HB)
    generalize (w32.setCell ⟨gb798, 0, none⟩ (.slice Ao33 t794.length co33)) = w35 at n0_ n1_ n2_ n3_ n4_ n5_ n6_ ⊢
    have HO796 := n0_
    have BK789 := n1_
    have BK790 := n2_
    have BK791 := n3_
    have BK792 := n4_
    have BK798 := n5_
    have HB := n6_
    clear n0_ n1_ n2_ n3_ n4_ n5_ n6_
    replace HO796 := Aside0.mk (Kd.V_drew HO796.out)
    replace BK789 := Aside0.mk (blk_drew BK789.out)
    replace BK790 := Aside0.mk (blk_drew BK790.out)
    replace BK791 := Aside0.mk (blk_drew BK791.out)
    replace BK792 := Aside0.mk (blk_drew BK792.out)
    replace BK798 := Aside0.mk (blk_drew BK798.out)
    replace HB := Aside0.mk (below_drew1 HB.out)
    refine start_ (n := 7) (S := fun w' => w'.cell? ⟨gb798, 0, none⟩ = some (.slice Ao33 t794.length co33)) (ds := []) #[false, false, false, false, false, false, false] (by kernel_rfl) rfl rfl ((blk_cell BK798.out 0).trans rfl) (fun hHeld => ?_)
    generalize w35.drew = w36 at HO796 BK789 BK790 BK791 BK792 BK798 HB hHeld ⊢
    refine pure_ (i := 1) (N := some 32) (v := ?_) (a' := ?_) #[false, true, false, false, false, false, false] rfl rfl (by kernel_rfl) (fun _ _ _ h => h) (Or.inl ⟨by rfl, ?_⟩) ?_ ?_
    rotate_left
    ·intro w'
     go_simp
     with_reducible rfl
    rotate_left
    ·simp only [Act.put, sa, sz, ss, i64_w, i32_w]
     rfl
    refine pure_ (i := 2) (N := some 33) (v := ?_) (a' := ?_) #[false, true, true, false, false, false, false] rfl rfl (by kernel_rfl) (fun _ _ _ h => h) (Or.inl ⟨by rfl, ?_⟩) ?_ ?_
    rotate_left
    ·intro w'
     go_simp
     with_reducible rfl
    rotate_left
    ·simp only [Act.put, sa, sz, ss, i64_w, i32_w]
     rfl
    refine take_ (i := 0) (N := some 31) (v := ?_) (a' := ?_) #[true, true, true, false, false, false, false] rfl rfl (by kernel_rfl) (fun _ _ _ h => h) (Or.inl ⟨by rfl, ?_⟩) hHeld ?_ ?_
    rotate_left
    ·intro w' s0
     go_simp
     with_reducible rfl
    rotate_left
    ·simp only [Act.put, sa, sz, ss, i64_w, i32_w]
     rfl
    refine one_ (i := 3) (N := some 34) #[true, true, true, true, false, false, false] rfl rfl (by kernel_rfl) (by decide) (fun K hK => ?_)
    refine goes_ Tryd.func48 (by kernel_rfl) rfl #[.int .u64 (IntKind.u64.wrap (t797))] (by rfl) rfl rfl (by (try simp only [List.map_toArray, List.map_cons, List.map_nil]); first | done | rfl | (simp only [List.length_drop, List.length_take]; rfl)) ?_
    with_reducible refine (nat_of.calls k (IntKind.u64.wrap (t797)) t799 _ A20.out).mono ?_
    rintro e w37 ⟨v800, rfl, ho0, hb⟩
    refine ⟨_, rfl, ?_⟩
    have HO801 := Aside0.mk (Kd.V_lower (Kd.V_mono (ok' := fun k_ => (w.heap.size ≤ k_) ∧ k_ ≠ gb789 ∧ k_ ≠ gb790 ∧ k_ ≠ gb791 ∧ k_ ≠ gb792 ∧ k_ ≠ gb798) ho0 (fun k_ hk_ => ⟨(Nat.le_trans (below_size (by repeat (first | exact HB.out | refine sb ?_ GE789 | refine sb ?_ GE790 | refine sb ?_ GE791 | refine sb ?_ GE792 | refine sb ?_ GE798))) hk_), (fb BK789 k_ hk_), (fb BK790 k_ hk_), (fb BK791 k_ hk_), (fb BK792 k_ hk_), (fb BK798 k_ hk_)⟩)) (below_size (by repeat (first | exact HB.out | refine sb ?_ GE789 | refine sb ?_ GE790 | refine sb ?_ GE791 | refine sb ?_ GE792 | refine sb ?_ GE798))))
    replace HO796 := vb HO796 hb
    replace BK789 := bb BK789 hb
    replace BK790 := bb BK790 hb
    replace BK791 := bb BK791 hb
    replace BK792 := bb BK792 hb
    replace BK798 := bb BK798 hb
    replace HB := Aside0.mk (below_step (by repeat (first | exact HB.out | refine sb ?_ GE789 | refine sb ?_ GE790 | refine sb ?_ GE791 | refine sb ?_ GE792 | refine sb ?_ GE798)) hb)
    (try clear hb)
    (try clear hb2)
    (try clear hk)
    (try clear hi)
    (try clear ho0)
    obtain ⟨Ao39, co39, eo39⟩ := Kd.V_slice HO801.out
    (first | subst eo39 | (injection eo39 with f1_ f2_ f3_; have f4_ := f1_.symm; have f5_ := f3_.symm; clear f1_ f2_ f3_; subst f4_; subst f5_))
    refine hK.out _ _ ((blk_cell BK798.out 0).trans rfl) (fun hHeld => ?_)
    clear hK K
    refine norm_ (a' := ?_) ?_ ?_
    rotate_left
    ·show Act.put _ (some 34) _ = _
     simp only [Act.put, sa, sz, ss, i64_w, i32_w]
     rfl
    refine one_ (i := 4) (N := none) #[true, true, true, true, true, false, false] rfl rfl (by kernel_rfl) (by decide) (fun K hK => ?_)
    have hs38 : w37.cell? ⟨gb791, 0, none⟩ = some (.slice none 0 0) := (blk_cell BK791.out 0).trans rfl
    have hfs38 := blk_frozen BK791.out 0
    have hns38_0 := NB789_791.out
    have hns38_1 := NB790_791.out
    have hns38_3 := NB792_791.out
    have hns38_4 := NB798_791.out
    have hms38_0 := NB791_789.out
    have hms38_1 := NB791_790.out
    have hms38_3 := NB791_792.out
    have hms38_4 := NB791_798.out
    refine skip_ (w1 := ?_) (by rfl) rfl ?_ ?_
    rotate_left
    ·go_simp
     rfl
    refine hK.out _ _ (((cell_far (p := ⟨gb791, _, none⟩) NB798_791.out _).trans (hHeld))) (fun hHeld => ?_)
    clear hK K
    refine one_ (i := 5) (N := none) #[true, true, true, true, true, true, false] rfl rfl (by kernel_rfl) (by decide) (fun K hK => ?_)
    have hs40 : w37.cell? ⟨gb792, 0, none⟩ = some (.slice none 0 0) := (blk_cell BK792.out 0).trans rfl
    have hfs40 := blk_frozen BK792.out 0
    have hns40_0 := NB789_792.out
    have hns40_1 := NB790_792.out
    have hns40_2 := NB791_792.out
    have hns40_4 := NB798_792.out
    have hms40_0 := NB792_789.out
    have hms40_1 := NB792_790.out
    have hms40_2 := NB792_791.out
    have hms40_4 := NB792_798.out
    refine skip_ (w1 := ?_) (by rfl) rfl ?_ ?_
    rotate_left
    ·go_simp
     rfl
    refine hK.out _ _ (((cell_far (p := ⟨gb792, _, none⟩) NB798_792.out _).trans (hHeld))) (fun hHeld => ?_)
    clear hK K
    refine pure_ (i := 6) (N := some 6) (v := ?_) (a' := ?_) #[true, true, true, true, true, true, true] rfl rfl (by kernel_rfl) (fun _ _ _ h => h) (Or.inl ⟨by rfl, ?_⟩) ?_ ?_
    rotate_left
    ·intro w'
     go_simp
     with_reducible rfl
    rotate_left
    ·simp only [Act.put, sa, sz, ss, i64_w, i32_w]
     rfl
    refine done_ (by kernel_rfl) ?_
    try go_wp2
    refine bodyPost_ret (results_list (rs := [.cell 4 26, .cell 5 26, .tmp 6]) rfl (by simp) (.cell gb791 26 #[.slice Ao33 t794.length co33] (0, 0) _ rfl (by refine blk_far ?_ NB791_792.out _; refine blk_put (cs := #[.slice none 0 0]) ?_ 0 _ rfl; exact BK791.out) Tryd.underlying26 rfl (by kernel_rfl) (.cell gb792 26 #[.slice Ao39 t799.length co39] (0, 0) _ rfl (by refine blk_put (cs := #[.slice none 0 0]) ?_ 0 _ rfl; refine blk_far ?_ NB792_791.out _; exact BK792.out) Tryd.underlying26 rfl (by kernel_rfl) (.tmp .nil)))) rfl ?_
    exact ⟨_, _, by first | rfl | (simp [errW_none, errW_some] <;> rfl) | (simp [*, errW_none, errW_some] <;> rfl), by exact Kd.V_mono (Kd.V_far (p := ⟨gb792, 0, none⟩) (Kd.V_far (p := ⟨gb791, 0, none⟩) (Kd.V_mono (Kd.V_mono HO796.out (fun k_ hk => (⟨hk, hk.2.2.2.1⟩ : _ ∧ k_ ≠ gb791))) (fun k_ hk => (⟨hk, hk.1.2.2.2.2.1⟩ : _ ∧ k_ ≠ gb792))) (fun _ hk => hk.1.2) (.slice Ao33 t794.length co33)) (fun _ hk => hk.2) (.slice Ao39 t799.length co39)) (fun _ hk => hk.1.1.1), by exact Kd.V_mono (Kd.V_far (p := ⟨gb792, 0, none⟩) (Kd.V_far (p := ⟨gb791, 0, none⟩) (Kd.V_mono (Kd.V_mono HO801.out (fun k_ hk => (⟨hk, hk.2.2.2.1⟩ : _ ∧ k_ ≠ gb791))) (fun k_ hk => (⟨hk, hk.1.2.2.2.2.1⟩ : _ ∧ k_ ≠ gb792))) (fun _ hk => hk.1.2) (.slice Ao33 t794.length co33)) (fun _ hk => hk.2) (.slice Ao39 t799.length co39)) (fun _ hk => hk.1.1.1), by repeat (first | exact HB.out | refine sb ?_ GE789 | refine sb ?_ GE790 | refine sb ?_ GE791 | refine sb ?_ GE792 | refine sb ?_ GE798)⟩
   ·rw [if_neg c18] at H
    exact absurd H (by simp)
  ·rw [if_neg c17] at H
   have c17b0 : ((l1_0.length : Int) == 1) = false := beq_eq_false_iff_ne.mpr c17
   have c17b1 : ((l1_0.length : Int) != 1) = true := bne_iff_ne.mpr c17
   by_cases c41 : 0 ≤ (l0_0.length : Int)
   ·rw [if_pos c41] at H
    have c41b0 := eq_true c41
    have c41b1 : decide (0 ≤ (l0_0.length : Int)) = true := decide_eq_true c41
    clear c41
    by_cases c42 : ((l0_0.length : Int) : Int).toNat ≤ 70368744177664
    ·rw [if_pos c42] at H
     have c42b0 := eq_true c42
     have c42b1 : decide (((l0_0.length : Int) : Int).toNat ≤ 70368744177664) = true := decide_eq_true c42
     clear c42
     obtain ⟨y802, hy802⟩ : ∃ y_ : List Int, y_ = (List.replicate ((l0_0.length : Int) : Int).toNat 0) := ⟨_, rfl⟩
     replace H : ((nat_Nat_Bits.f l0_0).bind fun t806 => (nat_Nat_Div.l0 k y802 (wrap64 (t806 - 1)) l0_0 l1_0 ([] : List Int))) = some (r1, r2, r3) := by first | (rw [hy802]; with_reducible exact H) | (have H2_ := (Option.bind_some _ _).symm.trans H; rw [hy802]; with_reducible exact H2_) | (have H2_ := (Option.bind_some _ _).symm.trans H; with_reducible exact H2_) | with_reducible exact H | (rw [hy802]; exact H) | exact H
     have Ny802 := Aside0.mk hy802
     clear hy802
     replace H := Option.bind_eq_some_iff.mp H
     obtain ⟨t806, A430, H⟩ := H
     replace H : (nat_Nat_Div.l0 k y802 (wrap64 (t806 - 1)) l0_0 l1_0 ([] : List Int)) = some (r1, r2, r3) := H
     have A43 := Aside0.mk A430
     clear A430
     have H' := Aside0.mk H
     clear H
     go_enter Tryd.func46, Tryd.ntmps46
     go_wp2_with (first | ((with_reducible refine gate_dst (N := 2) rfl ?_); refine box_event ?hg (N := 2) ?hd (cs := #[.slice A0_0 l0_0.length c0_0]) (t := 26) ?hr ?_; (case hd => rfl); (case hg => rfl); (case hr => first | (go_simp; done) | (go_simp; rfl)); intro gb789 hg w44 hbox hb; have BK789 := Aside0.mk (hbox); have GW789 := Aside0.mk ((by rw [hg]; exact (below_size HB.out) : w.heap.size ≤ gb789)); have GE789 := Aside0.mk ((by rw [hg]; exact (below_size HB.out) : w.heap.size ≤ gb789)); replace HB := Aside0.mk (below_step HB.out hb); clear hb hbox hg) | ((with_reducible refine gate_dst (N := 3) rfl ?_); refine box_event ?hg (N := 3) ?hd (cs := #[.slice A1_0 l1_0.length c1_0]) (t := 26) ?hr ?_; (case hd => rfl); (case hg => rfl); (case hr => first | (go_simp; done) | (go_simp; rfl)); intro gb790 hg w45 hbox hb; have BK790 := Aside0.mk (hbox); have GW790 := Aside0.mk ((by rw [hg]; exact (below_size (by repeat (first | exact HB.out | refine sb ?_ GE789))) : w.heap.size ≤ gb790)); have GE790 := Aside0.mk ((by rw [hg]; exact (below_size (by repeat (first | exact HB.out | refine sb ?_ GE789))) : w.heap.size ≤ gb790)); have NB789_790 := nl BK789 hg; have NB790_789 := ng BK789 hg; replace BK789 := bb BK789 hb; replace HB := Aside0.mk (below_step (by repeat (first | exact HB.out | refine sb ?_ GE789)) hb); clear hb hbox hg) | ((with_reducible refine gate_dst (N := 4) rfl ?_); refine box_event ?hg (N := 4) ?hd (cs := #[.slice none 0 0]) (t := 26) ?hr ?_; (case hd => rfl); (case hg => rfl); (case hr => first | (go_simp; done) | (go_simp; rfl)); intro gb791 hg w46 hbox hb; have BK791 := Aside0.mk (hbox); have GW791 := Aside0.mk ((by rw [hg]; exact (below_size (by repeat (first | exact HB.out | refine sb ?_ GE789 | refine sb ?_ GE790))) : w.heap.size ≤ gb791)); have GE791 := Aside0.mk ((by rw [hg]; exact (below_size (by repeat (first | exact HB.out | refine sb ?_ GE789 | refine sb ?_ GE790))) : w.heap.size ≤ gb791)); have NB789_791 := nl BK789 hg; have NB791_789 := ng BK789 hg; have NB790_791 := nl BK790 hg; have NB791_790 := ng BK790 hg; replace BK789 := bb BK789 hb; replace BK790 := bb BK790 hb; replace HB := Aside0.mk (below_step (by repeat (first | exact HB.out | refine sb ?_ GE789 | refine sb ?_ GE790)) hb); clear hb hbox hg) | ((with_reducible refine gate_dst (N := 5) rfl ?_); refine box_event ?hg (N := 5) ?hd (cs := #[.slice none 0 0]) (t := 26) ?hr ?_; (case hd => rfl); (case hg => rfl); (case hr => first | (go_simp; done) | (go_simp; rfl)); intro gb792 hg w47 hbox hb; have BK792 := Aside0.mk (hbox); have GW792 := Aside0.mk ((by rw [hg]; exact (below_size (by repeat (first | exact HB.out | refine sb ?_ GE789 | refine sb ?_ GE790 | refine sb ?_ GE791))) : w.heap.size ≤ gb792)); have GE792 := Aside0.mk ((by rw [hg]; exact (below_size (by repeat (first | exact HB.out | refine sb ?_ GE789 | refine sb ?_ GE790 | refine sb ?_ GE791))) : w.heap.size ≤ gb792)); have NB789_792 := nl BK789 hg; have NB792_789 := ng BK789 hg; have NB790_792 := nl BK790 hg; have NB792_790 := ng BK790 hg; have NB791_792 := nl BK791 hg; have NB792_791 := ng BK791 hg; replace BK789 := bb BK789 hb; replace BK790 := bb BK790 hb; replace BK791 := bb BK791 hb; replace HB := Aside0.mk (below_step (by repeat (first | exact HB.out | refine sb ?_ GE789 | refine sb ?_ GE790 | refine sb ?_ GE791)) hb); clear hb hbox hg; have hnb48 := NB790_789.out; have hnc48 := NB789_790.out; have hnb49 := NB790_791.out; have hnc49 := NB791_790.out; have hnb50 := NB790_792.out; have hnc50 := NB792_790.out; have hcz51_0 : w47.cell? ⟨gb790, 0, none⟩ = some (.slice A1_0 l1_0.length c1_0) := (blk_cell BK790.out 0).trans rfl; have hfz51_0 := blk_frozen BK790.out 0; have hnb52 := NB789_791.out; have hnc52 := NB791_789.out; have hnb53 := NB789_792.out; have hnc53 := NB792_789.out; have hcz54_0 : w47.cell? ⟨gb789, 0, none⟩ = some (.slice A0_0 l0_0.length c0_0) := (blk_cell BK789.out 0).trans rfl; have hfz54_0 := blk_frozen BK789.out 0) | ((with_reducible refine gate_dst (N := 38) rfl ?_); refine Kd.R_make (Kd.int .u32) _ 79 rfl (N := 38) rfl 24 _ _ rfl (l0_0.length : Int) rfl rfl Tryd.underlying24 (.int .u32 0) 4 info79 rfl (by decide) (by omega) 0 (ok := fun _ => True) (okp := fun _ => True) rfl (fun _ hk => hk) trivial (of_decide_eq_true (by first | (with_reducible assumption) | assumption)) (Nat.le_trans (Nat.mul_le_mul_right _ (of_decide_eq_true (by first | (with_reducible assumption) | assumption) : (l0_0.length : Int).toNat ≤ 70368744177664)) (by omega)) (Below.refl _ _) (Nat.le_refl _) ?_; intro v803 w55 ho56 hb hg_ hnew_; clear hg_ hnew_; (first | rw [← Ny802.out] at ho56 | (simp only [Int.reduceToNat] at ho56; rw [← Ny802.out] at ho56)); have HO804 := Aside0.mk (Kd.R_lower (Kd.R_newM (M := fun k_ => (w.heap.size ≤ k_)) ho56 (below_size (by repeat (first | exact HB.out | refine sb ?_ GE789 | refine sb ?_ GE790 | refine sb ?_ GE791 | refine sb ?_ GE792))) (fun k_ h_ => h_)) (below_size (by repeat (first | exact HB.out | refine sb ?_ GE789 | refine sb ?_ GE790 | refine sb ?_ GE791 | refine sb ?_ GE792)))); replace BK789 := bb BK789 hb; replace BK790 := bb BK790 hb; replace BK791 := bb BK791 hb; replace BK792 := bb BK792 hb; replace HB := Aside0.mk (below_step (by repeat (first | exact HB.out | refine sb ?_ GE789 | refine sb ?_ GE790 | refine sb ?_ GE791 | refine sb ?_ GE792)) hb); clear hb ho56) | ((with_reducible refine gate_dst (N := 10) rfl ?_); refine box_event ?hg (N := 10) ?hd (cs := #[.slice none 0 0]) (t := 26) ?hr ?_; (case hd => rfl); (case hg => rfl); (case hr => first | (go_simp; done) | (go_simp; rfl)); intro gb805 hg w57 hbox hb; have BK805 := Aside0.mk (hbox); have GW805 := Aside0.mk ((by rw [hg]; exact (below_size (by repeat (first | exact HB.out | refine sb ?_ GE789 | refine sb ?_ GE790 | refine sb ?_ GE791 | refine sb ?_ GE792))) : w.heap.size ≤ gb805)); have GE805 := Aside0.mk ((by rw [hg]; exact (below_size (by repeat (first | exact HB.out | refine sb ?_ GE789 | refine sb ?_ GE790 | refine sb ?_ GE791 | refine sb ?_ GE792))) : w.heap.size ≤ gb805)); have NB789_805 := nl BK789 hg; have NB805_789 := ng BK789 hg; have NB790_805 := nl BK790 hg; have NB805_790 := ng BK790 hg; have NB791_805 := nl BK791 hg; have NB805_791 := ng BK791 hg; have NB792_805 := nl BK792 hg; have NB805_792 := ng BK792 hg; replace HO804 := Aside0.mk (Kd.R_below (by (with_reducible repeat (first | apply Kd.R_alloc | apply Kd.R_drewN | apply Kd.R_drew)); exact HO804.out) hb); replace BK789 := bb BK789 hb; replace BK790 := bb BK790 hb; replace BK791 := bb BK791 hb; replace BK792 := bb BK792 hb; replace HB := Aside0.mk (below_step (by repeat (first | exact HB.out | refine sb ?_ GE789 | refine sb ?_ GE790 | refine sb ?_ GE791 | refine sb ?_ GE792)) hb); clear hb hbox hg; have hnb58 := NB805_789.out; have hnc58 := NB789_805.out; have hnb59 := NB805_790.out; have hnc59 := NB790_805.out; have hnb60 := NB805_791.out; have hnc60 := NB791_805.out; have hnb61 := NB805_792.out; have hnc61 := NB792_805.out; have hcz62_0 : w57.cell? ⟨gb805, 0, none⟩ = some (.slice none 0 0) := (blk_cell BK805.out 0).trans rfl; have hfz62_0 := blk_frozen BK805.out 0; have hcz63_0 : w57.cell? ⟨gb789, 0, none⟩ = some (.slice A0_0 l0_0.length c0_0) := (blk_cell BK789.out 0).trans rfl; have hfz63_0 := blk_frozen BK789.out 0) | ((with_reducible refine gate_callee (f := 25) rfl ?_); refine goesL_ (some 41) rfl rfl Tryd.func25 (by kernel_rfl) rfl #[.agg #[.slice A0_0 l0_0.length c0_0]] rfl (by (try simp only [List.map_toArray, List.map_cons, List.map_nil]); first | done | rfl | (simp only [List.length_drop, List.length_take]; rfl)) ?_; (with_reducible refine (nat_Nat_Bits.calls _ _ l0_0 t806 _ ?side1 ?side2 A43.out).mono ?_); (case side1 => exact Kd.C_below HR0_0.out (by repeat (first | exact HB.out | refine sb ?_ GE789 | refine sb ?_ GE790 | refine sb ?_ GE791 | refine sb ?_ GE792 | refine sb ?_ GE805))); (case side2 => exact HC0_0.out); rintro e w64 ⟨rfl, hb⟩; refine ⟨_, rfl, ?_⟩; replace HO804 := Aside0.mk (Kd.R_below (by (with_reducible repeat (first | apply Kd.R_alloc | apply Kd.R_drewN | apply Kd.R_drew)); exact (Kd.R_mono (Kd.R_far (p := ⟨gb805, 0, none⟩) (Kd.R_types HO804.out BK805.out (by decide)) (fun _ hk => hk.2) (.slice none 0 0)) (fun _ h_ => h_.1))) hb); replace BK789 := bf BK789 NB789_805 hb; replace BK790 := bf BK790 NB790_805 hb; replace BK791 := bf BK791 NB791_805 hb; replace BK792 := bf BK792 NB792_805 hb; replace BK805 := Aside0.mk (blk_below (g := gb805) (o := .cells #[.slice none 0 0] 26 (0, 0)) (by refine blk_put (cs := #[.slice none 0 0]) ?_ 0 _ rfl; exact BK805.out) hb); replace HB := Aside0.mk (below_step (by repeat (first | exact HB.out | refine sb ?_ GE789 | refine sb ?_ GE790 | refine sb ?_ GE791 | refine sb ?_ GE792 | refine sb ?_ GE805)) hb); (try clear hb); (try clear hb2); (try clear hk); (try clear hi)))
     go_loopg [11] k (fun kq v11 w' => ∃ (x9_1 : List Int) (x11_1 : Int) (x806000_1 : List Int) (u806000 : Value), v11 = .int .i64 x11_1 ∧ Aside0 (nat_Nat_Div.l0 kq x9_1 x11_1 l0_0 l1_0 x806000_1 = some (r1, r2, r3)) ∧ Aside0 (kq ≤ k) ∧ Aside0 (Kd.R (Kd.int .u32) 79 w' w.heap.size (fun k_ => (w.heap.size ≤ k_)) v803 x9_1) ∧ Aside0 (Kd.V (Kd.int .u32) 79 w' w.heap.size (fun k_ => (w.heap.size ≤ k_) ∧ some k_ ≠ (v803 : Value).ownBlock ∧ k_ ≠ gb789 ∧ k_ ≠ gb790 ∧ k_ ≠ gb791 ∧ k_ ≠ gb792 ∧ k_ ≠ gb805) u806000 x806000_1) ∧ Aside0 (w'.heap[gb789]? = some (.cells #[(.slice A0_0 l0_0.length c0_0)] 26 (0, 0))) ∧ Aside0 (w'.heap[gb790]? = some (.cells #[(.slice A1_0 l1_0.length c1_0)] 26 (0, 0))) ∧ Aside0 (w'.heap[gb791]? = some (.cells #[(.slice none 0 0)] 26 (0, 0))) ∧ Aside0 (w'.heap[gb792]? = some (.cells #[(.slice none 0 0)] 26 (0, 0))) ∧ Aside0 (w'.heap[gb805]? = some (.cells #[u806000] 26 (0, 0))) ∧ Aside0 (Below w.heap.size w w'))
     case atStart => exact ⟨(y802), (wrap64 (t806 - 1)), (([] : List Int)), (.slice none 0 0), (by first | rfl | (simp; done) | (simp [*]; done) | (simp [i64_w]; done) | (simp [*, i64_w]; done)), H', ⟨Nat.le_refl _⟩, ⟨by (with_reducible repeat (first | apply Kd.R_alloc | apply Kd.R_drewN | apply Kd.R_drew)); exact Kd.R_mono HO804.out (fun _ hk => hk.1)⟩, ⟨Kd.R_V (base := w.heap.size) (by first | exact Kd.R_nil _ _ _ _ (fun _ => False) | exact Kd.R_nil _ _ _ _ _ | exact Kd.N_nil _ _ _ _ _ | exact Kd.V_nil _ _ _ _ _ | exact Kd.Q_nil _ _ _ _ _ | exact Kd.S_nil _ _ _ _ _)⟩, ⟨by exact BK789.out⟩, ⟨by exact BK790.out⟩, ⟨by exact BK791.out⟩, ⟨by exact BK792.out⟩, ⟨by exact BK805.out⟩, ⟨by repeat (first | exact HB.out | refine sb ?_ GE789 | refine sb ?_ GE790 | refine sb ?_ GE791 | refine sb ?_ GE792 | refine sb ?_ GE805)⟩⟩
     case round =>
      clear H'
      try clear c1
      try clear c2
      try clear p2
      try clear c3
      try clear c3b0
      try clear c3b1
      try clear c3b2
      try clear c4
      try clear c5
      try clear c6
      try clear p6
      try clear p7
      try clear q7
      try clear hx7
      try clear qi7
      try clear c17
      try clear c17b0
      try clear c17b1
      try clear c18
      try clear c18b0
      try clear c18b1
      try clear c25
      try clear c26
      try clear c27
      try clear c41
      try clear c41b0
      try clear c41b1
      try clear c42
      try clear c42b0
      try clear c42b1
      try clear c46
      try clear c48
      try clear c49
      try clear c50
      try clear c51
      try clear c52
      try clear c53
      try clear c58
      try clear c59
      try clear c60
      try clear c61
      try clear p64
      try clear hcz28_0
      try clear hcz51_0
      try clear hcz54_0
      try clear hcz62_0
      try clear hcz63_0
      try clear hfz28_0
      try clear hfz51_0
      try clear hfz54_0
      try clear hfz62_0
      try clear hfz63_0
      try clear hx793_0
      try clear p793
      try clear q793
      obtain ⟨x9_1, x11_1, x806000_1, u806000, rfl, HA, HK1, HO_9, HO_806000, BK789, BK790, BK791, BK792, BK805, HB⟩ := hrel
      cases gk with
      | zero => exact absurd HA.out (by simp [nat_Nat_Div.l0])
      | succ k1 =>
       have H := HA.out
       clear HA
       simp only [nat_Nat_Div.l0] at H
       by_cases c65 : x11_1 ≥ 0
       ·rw [if_pos c65] at H
        have c65b0 : decide (0 ≤ x11_1) = true := decide_eq_true c65
        clear c65
        replace H := Option.bind_eq_some_iff.mp H
        obtain ⟨t810, A660, H⟩ := H
        replace H : ((nat_Nat_doubled.f k1 x806000_1 ((t810) % 4294967296)).bind fun t811 => ((nat_Nat_Compare.f k1 t811 l1_0).bind fun t814 => (if t814 ≥ 0 then ((nat_Nat_Sub.f k1 t811 l1_0).bind fun bt815 => (if 0 ≤ (wrap64 (Int.tdiv x11_1 32)) then (if (wrap64 (Int.tdiv x11_1 32)) < (x9_1.length : Int) then (if 0 ≤ (Int.tmod x11_1 32) then (nat_Nat_Div.l0 k1 (x9_1.set ((wrap64 (Int.tdiv x11_1 32)) : Int).toNat (Go.bits .or .u32 (rd x9_1 (wrap64 (Int.tdiv x11_1 32))) (shl .u32 1 (Int.tmod x11_1 32)))) (wrap64 (x11_1 - 1)) l0_0 l1_0 bt815.1) else (none)) else (none)) else (none))) else (nat_Nat_Div.l0 k1 x9_1 (wrap64 (x11_1 - 1)) l0_0 l1_0 t811)))) = some (r1, r2, r3) := H
        have A66 := Aside0.mk A660
        clear A660
        replace H := Option.bind_eq_some_iff.mp H
        obtain ⟨t811, A670, H⟩ := H
        replace H : ((nat_Nat_Compare.f k1 t811 l1_0).bind fun t814 => (if t814 ≥ 0 then ((nat_Nat_Sub.f k1 t811 l1_0).bind fun bt815 => (if 0 ≤ (wrap64 (Int.tdiv x11_1 32)) then (if (wrap64 (Int.tdiv x11_1 32)) < (x9_1.length : Int) then (if 0 ≤ (Int.tmod x11_1 32) then (nat_Nat_Div.l0 k1 (x9_1.set ((wrap64 (Int.tdiv x11_1 32)) : Int).toNat (Go.bits .or .u32 (rd x9_1 (wrap64 (Int.tdiv x11_1 32))) (shl .u32 1 (Int.tmod x11_1 32)))) (wrap64 (x11_1 - 1)) l0_0 l1_0 bt815.1) else (none)) else (none)) else (none))) else (nat_Nat_Div.l0 k1 x9_1 (wrap64 (x11_1 - 1)) l0_0 l1_0 t811))) = some (r1, r2, r3) := H
        have A67 := Aside0.mk A670
        clear A670
        replace H := Option.bind_eq_some_iff.mp H
        obtain ⟨t814, A680, H⟩ := H
        replace H : (if t814 ≥ 0 then ((nat_Nat_Sub.f k1 t811 l1_0).bind fun bt815 => (if 0 ≤ (wrap64 (Int.tdiv x11_1 32)) then (if (wrap64 (Int.tdiv x11_1 32)) < (x9_1.length : Int) then (if 0 ≤ (Int.tmod x11_1 32) then (nat_Nat_Div.l0 k1 (x9_1.set ((wrap64 (Int.tdiv x11_1 32)) : Int).toNat (Go.bits .or .u32 (rd x9_1 (wrap64 (Int.tdiv x11_1 32))) (shl .u32 1 (Int.tmod x11_1 32)))) (wrap64 (x11_1 - 1)) l0_0 l1_0 bt815.1) else (none)) else (none)) else (none))) else (nat_Nat_Div.l0 k1 x9_1 (wrap64 (x11_1 - 1)) l0_0 l1_0 t811)) = some (r1, r2, r3) := H
        have A68 := Aside0.mk A680
        clear A680
        by_cases c69 : t814 ≥ 0
        ·rw [if_pos c69] at H
         have c69b0 : decide (0 ≤ t814) = true := decide_eq_true c69
         clear c69
         replace H := Option.bind_eq_some_iff.mp H
         obtain ⟨⟨t815, t818⟩, A700, H⟩ := H
         replace H : (if 0 ≤ (wrap64 (Int.tdiv x11_1 32)) then (if (wrap64 (Int.tdiv x11_1 32)) < (x9_1.length : Int) then (if 0 ≤ (Int.tmod x11_1 32) then (nat_Nat_Div.l0 k1 (x9_1.set ((wrap64 (Int.tdiv x11_1 32)) : Int).toNat (Go.bits .or .u32 (rd x9_1 (wrap64 (Int.tdiv x11_1 32))) (shl .u32 1 (Int.tmod x11_1 32)))) (wrap64 (x11_1 - 1)) l0_0 l1_0 t815) else (none)) else (none)) else (none)) = some (r1, r2, r3) := H
         have A70 := Aside0.mk A700
         clear A700
         obtain ⟨ji71, hji71⟩ : ∃ j_ : Int, (wrap64 (Int.tdiv x11_1 32)) = j_ := ⟨_, rfl⟩
         replace H : (if 0 ≤ (ji71) then (if (ji71) < (x9_1.length : Int) then (if 0 ≤ (Int.tmod x11_1 32) then (nat_Nat_Div.l0 k1 (x9_1.set ((ji71) : Int).toNat (Go.bits .or .u32 (rd x9_1 (ji71)) (shl .u32 1 (Int.tmod x11_1 32)))) (wrap64 (x11_1 - 1)) l0_0 l1_0 t815) else (none)) else (none)) else (none)) = some (r1, r2, r3) := by first | (rw [hji71] at H; exact H) | (simp only [hji71] at H ⊢; exact H)
         (try rw [hji71] at A66)
         (try rw [hji71] at A67)
         (try rw [hji71] at A68)
         (try rw [hji71] at A70)
         have hji71w : (IntKind.i64.wrap (Int.tdiv x11_1 32)) = ji71 := (i64_w _).trans hji71
         by_cases c72 : 0 ≤ (ji71)
         ·rw [if_pos c72] at H
          have c72b0 : decide (0 ≤ (ji71)) = true := decide_eq_true c72
          clear c72
          by_cases c73 : (ji71) < (x9_1.length : Int)
          ·rw [if_pos c73] at H
           have c73b0 : decide ((ji71) < (x9_1.length : Int)) = true := decide_eq_true c73
           clear c73
           obtain ⟨ji74, hji74⟩ : ∃ j_ : Int, (Int.tmod x11_1 32) = j_ := ⟨_, rfl⟩
           replace H : (if 0 ≤ (ji74) then (nat_Nat_Div.l0 k1 (x9_1.set ((ji71) : Int).toNat (Go.bits .or .u32 (rd x9_1 (ji71)) (shl .u32 1 (ji74)))) (wrap64 (x11_1 - 1)) l0_0 l1_0 t815) else (none)) = some (r1, r2, r3) := by first | (rw [hji74] at H; exact H) | (simp only [hji74] at H ⊢; exact H)
           (try rw [hji74] at A66)
           (try rw [hji74] at A67)
           (try rw [hji74] at A68)
           (try rw [hji74] at A70)
           by_cases c75 : 0 ≤ (ji74)
           ·rw [if_pos c75] at H
            have c75b0 := eq_true c75
            have c75b1 : decide (0 ≤ (ji74)) = true := decide_eq_true c75
            clear c75
            obtain ⟨ji76, hji76⟩ : ∃ j_ : Int, (shl .u32 1 (ji74)) = j_ := ⟨_, rfl⟩
            replace H : (nat_Nat_Div.l0 k1 (x9_1.set ((ji71) : Int).toNat (Go.bits .or .u32 (rd x9_1 (ji71)) (ji76))) (wrap64 (x11_1 - 1)) l0_0 l1_0 t815) = some (r1, r2, r3) := by first | (rw [hji76] at H; exact H) | (simp only [hji76] at H ⊢; exact H)
            (try rw [hji76] at A66)
            (try rw [hji76] at A67)
            (try rw [hji76] at A68)
            (try rw [hji76] at A70)
            have hji76_ : (IntKind.u32.wrap (1 * 2 ^ min (ji74).toNat 32)) = ji76 := hji76
            have hji76z : (ji74) ≤ 32 → (IntKind.u32.wrap (1 * 2 ^ (ji74).toNat)) = ji76 := shl_small hji76
            have hji76u : (IntKind.u32.wrap (2 ^ min (ji74).toNat 32)) = ji76 := by have h_ := hji76_; rw [Int.one_mul] at h_; exact h_
            have hji76v : (ji74) ≤ 32 → (IntKind.u32.wrap (2 ^ (ji74).toNat)) = ji76 := fun hle_ => by have h_ := hji76z hle_; rw [Int.one_mul] at h_; exact h_
            obtain ⟨y820, hy820⟩ : ∃ y_ : List Int, y_ = (x9_1.set ((ji71) : Int).toNat (Go.bits .or .u32 (rd x9_1 (ji71)) (ji76))) := ⟨_, rfl⟩
            replace H : (nat_Nat_Div.l0 k1 y820 (wrap64 (x11_1 - 1)) l0_0 l1_0 t815) = some (r1, r2, r3) := by first | (rw [hy820]; with_reducible exact H) | (have H2_ := (Option.bind_some _ _).symm.trans H; rw [hy820]; with_reducible exact H2_) | (have H2_ := (Option.bind_some _ _).symm.trans H; with_reducible exact H2_) | with_reducible exact H | (rw [hy820]; exact H) | exact H
            have Ny820 := Aside0.mk hy820
            clear hy820
            have H' := Aside0.mk H
            clear H
            try go_wp2
            replace HO_9 := Aside0.mk (Kd.R_drew HO_9.out)
            replace HO_806000 := Aside0.mk (Kd.V_drew HO_806000.out)
            replace BK789 := Aside0.mk (blk_drew BK789.out)
            replace BK790 := Aside0.mk (blk_drew BK790.out)
            replace BK791 := Aside0.mk (blk_drew BK791.out)
            replace BK792 := Aside0.mk (blk_drew BK792.out)
            replace BK805 := Aside0.mk (blk_drew BK805.out)
            replace HB := Aside0.mk (below_drew1 HB.out)
            refine start_ (n := 7) (S := fun w' => w'.cell? ⟨gb805, 0, none⟩ = some (u806000) ∧ w'.cell? ⟨gb789, 0, none⟩ = some (.slice A0_0 l0_0.length c0_0)) (ds := [6]) #[false, false, false, false, false, false, false] (by kernel_rfl) rfl rfl ⟨(blk_cell BK805.out 0).trans rfl, (blk_cell BK789.out 0).trans rfl⟩ (fun hHeld => ?_)
            generalize wr.drew = w78 at HO_9 HO_806000 BK789 BK790 BK791 BK792 BK805 HB hHeld ⊢
            refine pure_ (i := 2) (N := some 49) (v := ?_) (a' := ?_) #[false, false, true, false, false, false, false] rfl rfl (by kernel_rfl) (fun _ _ _ h => h) (Or.inl ⟨by rfl, ?_⟩) ?_ ?_
            rotate_left
            ·intro w'
             go_simp
             with_reducible rfl
            rotate_left
            ·simp only [Act.put, sa, sz, ss, i64_w, i32_w]
             rfl
            refine take_ (i := 0) (N := some 47) (v := ?_) (a' := ?_) #[true, false, true, false, false, false, false] rfl rfl (by kernel_rfl) (fun _ _ _ h => h) (Or.inl ⟨by rfl, ?_⟩) hHeld ?_ ?_
            rotate_left
            ·rintro w' ⟨s0, s1⟩
             go_simp
             with_reducible rfl
            rotate_left
            ·simp only [Act.put, sa, sz, ss, i64_w, i32_w]
             rfl
            refine take_ (i := 1) (N := some 48) (v := ?_) (a' := ?_) #[true, true, true, false, false, false, false] rfl rfl (by kernel_rfl) (fun _ _ _ h => h) (Or.inl ⟨by rfl, ?_⟩) hHeld ?_ ?_
            rotate_left
            ·rintro w' ⟨s0, s1⟩
             go_simp
             with_reducible rfl
            rotate_left
            ·simp only [Act.put, sa, sz, ss, i64_w, i32_w]
             rfl
            refine one_ (i := 3) (N := some 50) #[true, true, true, true, false, false, false] rfl rfl (by kernel_rfl) (by decide) (fun K hK => ?_)
            refine goes_ Tryd.func27 (by kernel_rfl) rfl #[.agg #[.slice A0_0 l0_0.length c0_0], .int .i64 x11_1] (by rfl) rfl rfl (by (try simp only [List.map_toArray, List.map_cons, List.map_nil]); first | done | rfl | (simp only [List.length_drop, List.length_take]; rfl)) ?_
            with_reducible refine (nat_Nat_Bit.calls _ _ l0_0 x11_1 t810 _ ?side1 ?side2 A66.out).mono ?_
            (case side1 => repeat (first | exact (Kd.C_below HR0_0.out HB.out) | (with_reducible refine Kd.C_alloc ?_ _) | (with_reducible refine Kd.C_drewN ?_ _) | (with_reducible refine Kd.C_drew ?_)))
            (case side2 => exact HC0_0.out)
            rintro e w79 ⟨rfl, hb⟩
            refine ⟨_, rfl, ?_⟩
            replace HO_9 := Aside0.mk (Kd.R_below (by (with_reducible repeat (first | apply Kd.R_alloc | apply Kd.R_drewN | apply Kd.R_drew)); exact HO_9.out) hb)
            replace HO_806000 := vb HO_806000 hb
            replace BK789 := bb BK789 hb
            replace BK790 := bb BK790 hb
            replace BK791 := bb BK791 hb
            replace BK792 := bb BK792 hb
            replace BK805 := bb BK805 hb
            replace HB := Aside0.mk (below_step (by repeat (first | exact HB.out | refine sb ?_ GE789 | refine sb ?_ GE790 | refine sb ?_ GE791 | refine sb ?_ GE792 | refine sb ?_ GE805)) hb)
            (try clear hb)
            (try clear hb2)
            (try clear hk)
            (try clear hi)
            obtain ⟨Ao80, co80, eo80⟩ := Kd.V_slice HO_806000.out
            (first | subst eo80 | (injection eo80 with f1_ f2_ f3_; have f4_ := f1_.symm; have f5_ := f3_.symm; clear f1_ f2_ f3_; subst f4_; subst f5_))
            refine hK.out _ _ ⟨(blk_cell BK805.out 0).trans rfl, (blk_cell BK789.out 0).trans rfl⟩ (fun hHeld => ?_)
            clear hK K
            refine norm_ (a' := ?_) ?_ ?_
            rotate_left
            ·show Act.put _ (some 50) _ = _
             simp only [Act.put, sa, sz, ss, i64_w, i32_w]
             rfl
            refine pure_ (i := 4) (N := some 51) (v := ?_) (a' := ?_) #[true, true, true, true, true, false, false] rfl rfl (by kernel_rfl) (fun _ _ _ h => h) (Or.inl ⟨by rfl, ?_⟩) ?_ ?_
            rotate_left
            ·intro w'
             go_simp
             with_reducible rfl
            rotate_left
            ·simp only [Act.put, sa, sz, ss, i64_w, i32_w]
             rfl
            refine one_ (i := 5) (N := some 52) #[true, true, true, true, true, true, false] rfl rfl (by kernel_rfl) (by decide) (fun K hK => ?_)
            refine goes_ Tryd.func63 (by kernel_rfl) rfl #[.agg #[.slice Ao80 x806000_1.length co80], .int .u32 ((t810) % 4294967296)] (by rfl) rfl rfl (by (try simp only [List.map_toArray, List.map_cons, List.map_nil]); first | done | rfl | (simp only [List.length_drop, List.length_take]; rfl)) ?_
            with_reducible refine (nat_Nat_doubled.calls k1 _ _ x806000_1 ((t810) % 4294967296) t811 _ ?side1 ?side2 A67.out).mono ?_
            (case side1 => exact (Kd.V_reads' HO_806000.out).2.2)
            (case side2 => exact (Kd.V_reads' HO_806000.out).2.1)
            rintro e w81 ⟨v812, rfl, ho0, hb⟩
            refine ⟨_, rfl, ?_⟩
            have HO813 := Aside0.mk (Kd.V_lower (Kd.V_mono (ok' := fun k_ => (w.heap.size ≤ k_) ∧ some k_ ≠ (v803 : Value).ownBlock ∧ k_ ≠ gb789 ∧ k_ ≠ gb790 ∧ k_ ≠ gb791 ∧ k_ ≠ gb792 ∧ k_ ≠ gb805) ho0 (fun k_ hk_ => ⟨(Nat.le_trans (below_size (by repeat (first | exact HB.out | refine sb ?_ GE789 | refine sb ?_ GE790 | refine sb ?_ GE791 | refine sb ?_ GE792 | refine sb ?_ GE805))) hk_), (Kd.fresh' (Kd.R_lt (by (with_reducible repeat (first | apply Kd.R_alloc | apply Kd.R_drewN | apply Kd.R_drew)); exact HO_9.out)) k_ hk_), (fb BK789 k_ hk_), (fb BK790 k_ hk_), (fb BK791 k_ hk_), (fb BK792 k_ hk_), (fb BK805 k_ hk_)⟩)) (below_size (by repeat (first | exact HB.out | refine sb ?_ GE789 | refine sb ?_ GE790 | refine sb ?_ GE791 | refine sb ?_ GE792 | refine sb ?_ GE805))))
            replace HO_9 := Aside0.mk (Kd.R_below (by (with_reducible repeat (first | apply Kd.R_alloc | apply Kd.R_drewN | apply Kd.R_drew)); exact HO_9.out) hb)
            replace HO_806000 := vb HO_806000 hb
            replace BK789 := bb BK789 hb
            replace BK790 := bb BK790 hb
            replace BK791 := bb BK791 hb
            replace BK792 := bb BK792 hb
            replace BK805 := bb BK805 hb
            replace HB := Aside0.mk (below_step (by repeat (first | exact HB.out | refine sb ?_ GE789 | refine sb ?_ GE790 | refine sb ?_ GE791 | refine sb ?_ GE792 | refine sb ?_ GE805)) hb)
            (try clear hb)
            (try clear hb2)
            (try clear hk)
            (try clear hi)
            (try clear ho0)
            obtain ⟨Ao82, co82, eo82⟩ := Kd.V_slice HO813.out
            (first | subst eo82 | (injection eo82 with f1_ f2_ f3_; have f4_ := f1_.symm; have f5_ := f3_.symm; clear f1_ f2_ f3_; subst f4_; subst f5_))
            refine hK.out _ _ ⟨(blk_cell BK805.out 0).trans rfl, (blk_cell BK789.out 0).trans rfl⟩ (fun hHeld => ?_)
            clear hK K
            refine norm_ (a' := ?_) ?_ ?_
            rotate_left
            ·show Act.put _ (some 52) _ = _
             simp only [Act.put, sa, sz, ss, i64_w, i32_w]
             rfl
            refine last_ (i := 6) (N := none) #[true, true, true, true, true, true, true] rfl rfl (by kernel_rfl) (by decide) (fun K hK => ?_)
            have hs83 : w81.cell? ⟨gb805, 0, none⟩ = some (.slice Ao80 x806000_1.length co80) := (blk_cell BK805.out 0).trans rfl
            have hfs83 := blk_frozen BK805.out 0
            have hns83_0 := NB789_805.out
            have hns83_1 := NB790_805.out
            have hns83_2 := NB791_805.out
            have hns83_3 := NB792_805.out
            have hms83_0 := NB805_789.out
            have hms83_1 := NB805_790.out
            have hms83_2 := NB805_791.out
            have hms83_3 := NB805_792.out
            refine skip_ (w1 := ?_) (by rfl) rfl ?_ ?_
            rotate_left
            ·go_simp
             rfl
            refine hK.out _ _ ?_
            clear hK K
            refine done_ (by kernel_rfl) ?_
            have hnb84 := NB805_789.out
            have hnc84 := NB789_805.out
            have hnb85 := NB805_790.out
            have hnc85 := NB790_805.out
            have hnb86 := NB805_791.out
            have hnc86 := NB791_805.out
            have hnb87 := NB805_792.out
            have hnc87 := NB792_805.out
            have hcz88_0 : w81.cell? ⟨gb805, 0, none⟩ = some (.slice Ao80 x806000_1.length co80) := (blk_cell BK805.out 0).trans rfl
            have hfz88_0 := blk_frozen BK805.out 0
            have hnb89 := NB790_789.out
            have hnc89 := NB789_790.out
            have hnb90 := NB790_791.out
            have hnc90 := NB791_790.out
            have hnb91 := NB790_792.out
            have hnc91 := NB792_790.out
            have hcz92_0 : w81.cell? ⟨gb790, 0, none⟩ = some (.slice A1_0 l1_0.length c1_0) := (blk_cell BK790.out 0).trans rfl
            have hfz92_0 := blk_frozen BK790.out 0
            try go_wp2_with (first | ((with_reducible refine gate_callee (f := 29) rfl ?_); refine goesL_ (some 55) rfl rfl Tryd.func29 (by kernel_rfl) rfl #[.agg #[.slice Ao82 t811.length co82], .agg #[.slice A1_0 l1_0.length c1_0]] rfl (by (try simp only [List.map_toArray, List.map_cons, List.map_nil]); first | done | rfl | (simp only [List.length_drop, List.length_take]; rfl)) ?_; (with_reducible refine (nat_Nat_Compare.calls k1 _ _ t811 _ _ l1_0 t814 _ ?side1 ?side2 ?side3 ?side4 A68.out).mono ?_); (case side1 => refine (Kd.V_reads' (e := 79) (base := w.heap.size) (ok := fun k_ => ((w.heap.size ≤ k_) ∧ (some k_ ≠ (v803 : Value).ownBlock ∧ (k_ ≠ gb789 ∧ (k_ ≠ gb790 ∧ (k_ ≠ gb791 ∧ (k_ ≠ gb792 ∧ k_ ≠ gb805))))))) (n := t811.length) (c := co82) ?_).2.2; exact (by exact (Kd.V_mono (Kd.V_far (p := ⟨gb805, 0, none⟩) (Kd.V_mono HO813.out (fun k_ hk => (⟨hk, hk.2.2.2.2.2.2⟩ : _ ∧ k_ ≠ gb805))) (fun _ hk => hk.2) (.slice Ao82 t811.length co82)) (fun _ h_ => h_.1)))); (case side2 => exact (Kd.V_reads' HO813.out).2.1); (case side3 => exact Kd.C_below HR1_0.out (by repeat (first | exact HB.out | refine sb ?_ GE789 | refine sb ?_ GE790 | refine sb ?_ GE791 | refine sb ?_ GE792 | refine sb ?_ GE805))); (case side4 => exact HC1_0.out); rintro e w93 ⟨rfl, hb⟩; refine ⟨_, rfl, ?_⟩; replace HO_9 := Aside0.mk (Kd.R_below (by (with_reducible repeat (first | apply Kd.R_alloc | apply Kd.R_drewN | apply Kd.R_drew)); exact (Kd.R_mono (Kd.R_far (p := ⟨gb805, 0, none⟩) (Kd.R_types HO_9.out BK805.out (by decide)) (fun _ hk => hk.2) (.slice Ao82 t811.length co82)) (fun _ h_ => h_.1))) hb); replace HO_806000 := vf HO_806000 (fun k_ hk => hk.2.2.2.2.2.2) hb; replace HO813 := vf HO813 (fun k_ hk => hk.2.2.2.2.2.2) hb; replace BK789 := bf BK789 NB789_805 hb; replace BK790 := bf BK790 NB790_805 hb; replace BK791 := bf BK791 NB791_805 hb; replace BK792 := bf BK792 NB792_805 hb; replace BK805 := Aside0.mk (blk_below (g := gb805) (o := .cells #[.slice Ao82 t811.length co82] 26 (0, 0)) (by refine blk_put (cs := #[.slice Ao80 x806000_1.length co80]) ?_ 0 _ rfl; exact BK805.out) hb); replace HB := Aside0.mk (below_step (by repeat (first | exact HB.out | refine sb ?_ GE789 | refine sb ?_ GE790 | refine sb ?_ GE791 | refine sb ?_ GE792 | refine sb ?_ GE805)) hb); (try clear hb); (try clear hb2); (try clear hk); (try clear hi); have hcz94_0 : w93.cell? ⟨gb805, 0, none⟩ = some (.slice Ao82 t811.length co82) := (blk_cell BK805.out 0).trans rfl; have hfz94_0 := blk_frozen BK805.out 0; have hcz95_0 : w93.cell? ⟨gb790, 0, none⟩ = some (.slice A1_0 l1_0.length c1_0) := (blk_cell BK790.out 0).trans rfl; have hfz95_0 := blk_frozen BK790.out 0) | ((with_reducible refine gate_callee (f := 42) rfl ?_); refine goesL_ (some 60) rfl rfl Tryd.func42 (by kernel_rfl) rfl #[.agg #[.slice Ao82 t811.length co82], .agg #[.slice A1_0 l1_0.length c1_0]] rfl (by (try simp only [List.map_toArray, List.map_cons, List.map_nil]); first | done | rfl | (simp only [List.length_drop, List.length_take]; rfl)) ?_; (with_reducible refine (nat_Nat_Sub.calls k1 _ _ t811 _ _ l1_0 t815 t818 _ ?side1 ?side2 ?side3 ?side4 A70.out).mono ?_); (case side1 => exact (Kd.V_reads' HO813.out).2.2); (case side2 => exact (Kd.V_reads' HO813.out).2.1); (case side3 => repeat (first | exact (Kd.C_below HR1_0.out HB.out) | (with_reducible refine Kd.C_alloc ?_ _) | (with_reducible refine Kd.C_drewN ?_ _) | (with_reducible refine Kd.C_drew ?_))); (case side4 => exact HC1_0.out); rintro e w96 ⟨v816, rfl, ho0, hb⟩; refine ⟨_, rfl, ?_⟩; have HO817 := Aside0.mk (Kd.V_lower (Kd.V_mono (ok' := fun k_ => (w.heap.size ≤ k_) ∧ some k_ ≠ (v803 : Value).ownBlock ∧ k_ ≠ gb789 ∧ k_ ≠ gb790 ∧ k_ ≠ gb791 ∧ k_ ≠ gb792 ∧ k_ ≠ gb805) ho0 (fun k_ hk_ => ⟨(Nat.le_trans (below_size (by repeat (first | exact HB.out | refine sb ?_ GE789 | refine sb ?_ GE790 | refine sb ?_ GE791 | refine sb ?_ GE792 | refine sb ?_ GE805))) hk_), (Kd.fresh' (Kd.R_lt (by (with_reducible repeat (first | apply Kd.R_alloc | apply Kd.R_drewN | apply Kd.R_drew)); exact HO_9.out)) k_ hk_), (fb BK789 k_ hk_), (fb BK790 k_ hk_), (fb BK791 k_ hk_), (fb BK792 k_ hk_), (fb BK805 k_ hk_)⟩)) (below_size (by repeat (first | exact HB.out | refine sb ?_ GE789 | refine sb ?_ GE790 | refine sb ?_ GE791 | refine sb ?_ GE792 | refine sb ?_ GE805)))); replace HO_9 := Aside0.mk (Kd.R_below (by (with_reducible repeat (first | apply Kd.R_alloc | apply Kd.R_drewN | apply Kd.R_drew)); exact HO_9.out) hb); replace HO_806000 := vb HO_806000 hb; replace HO813 := vb HO813 hb; replace BK789 := bb BK789 hb; replace BK790 := bb BK790 hb; replace BK791 := bb BK791 hb; replace BK792 := bb BK792 hb; replace BK805 := bb BK805 hb; replace HB := Aside0.mk (below_step (by repeat (first | exact HB.out | refine sb ?_ GE789 | refine sb ?_ GE790 | refine sb ?_ GE791 | refine sb ?_ GE792 | refine sb ?_ GE805)) hb); (try clear hb); (try clear hk); (try clear hi); (try clear ho0); obtain ⟨Ao97, co97, eo97⟩ := Kd.V_slice HO817.out; subst eo97; have hcz98_0 : w96.cell? ⟨gb805, 0, none⟩ = some (.slice Ao82 t811.length co82) := (blk_cell BK805.out 0).trans rfl; have hfz98_0 := blk_frozen BK805.out 0))
            have n0_ : Aside0 (Kd.R (Kd.int .u32) 79 (w96.setCell ⟨gb805, 0, none⟩ (.slice Ao97 t815.length co97)) w.heap.size (fun k_ => (w.heap.size ≤ k_)) v803 x9_1) := ⟨by (with_reducible repeat (first | apply Kd.R_alloc | apply Kd.R_drewN | apply Kd.R_drew)); exact Kd.R_mono (Kd.R_far (p := ⟨gb805, 0, none⟩) (Kd.R_types HO_9.out BK805.out (by decide)) (fun _ hk => hk.2) (.slice Ao97 t815.length co97)) (fun _ hk => hk.1)⟩
            have n1_ : Aside0 (Kd.V (Kd.int .u32) 79 (w96.setCell ⟨gb805, 0, none⟩ (.slice Ao97 t815.length co97)) w.heap.size (fun k_ => (w.heap.size ≤ k_) ∧ some k_ ≠ (v803 : Value).ownBlock ∧ k_ ≠ gb789 ∧ k_ ≠ gb790 ∧ k_ ≠ gb791 ∧ k_ ≠ gb792 ∧ k_ ≠ gb805) (.slice Ao80 x806000_1.length co80) x806000_1) := ⟨by exact Kd.V_mono (Kd.V_far (p := ⟨gb805, 0, none⟩) (Kd.V_mono HO_806000.out (fun k_ hk => (⟨hk, hk.2.2.2.2.2.2⟩ : _ ∧ k_ ≠ gb805))) (fun _ hk => hk.2) (.slice Ao97 t815.length co97)) (fun _ hk => ⟨hk.1.1, ⟨hk.1.2.1, ⟨hk.1.2.2.1, ⟨hk.1.2.2.2.1, ⟨hk.1.2.2.2.2.1, ⟨hk.1.2.2.2.2.2.1, hk.1.2.2.2.2.2.2⟩⟩⟩⟩⟩⟩)⟩
            have n2_ : Aside0 (Kd.V (Kd.int .u32) 79 (w96.setCell ⟨gb805, 0, none⟩ (.slice Ao97 t815.length co97)) w.heap.size (fun k_ => (w.heap.size ≤ k_) ∧ some k_ ≠ (v803 : Value).ownBlock ∧ k_ ≠ gb789 ∧ k_ ≠ gb790 ∧ k_ ≠ gb791 ∧ k_ ≠ gb792 ∧ k_ ≠ gb805) (.slice Ao82 t811.length co82) t811) := ⟨by exact Kd.V_mono (Kd.V_far (p := ⟨gb805, 0, none⟩) (Kd.V_mono HO813.out (fun k_ hk => (⟨hk, hk.2.2.2.2.2.2⟩ : _ ∧ k_ ≠ gb805))) (fun _ hk => hk.2) (.slice Ao97 t815.length co97)) (fun _ hk => ⟨hk.1.1, ⟨hk.1.2.1, ⟨hk.1.2.2.1, ⟨hk.1.2.2.2.1, ⟨hk.1.2.2.2.2.1, ⟨hk.1.2.2.2.2.2.1, hk.1.2.2.2.2.2.2⟩⟩⟩⟩⟩⟩)⟩
            have n3_ : Aside0 (Kd.V (Kd.int .u32) 79 (w96.setCell ⟨gb805, 0, none⟩ (.slice Ao97 t815.length co97)) w.heap.size (fun k_ => (w.heap.size ≤ k_) ∧ some k_ ≠ (v803 : Value).ownBlock ∧ k_ ≠ gb789 ∧ k_ ≠ gb790 ∧ k_ ≠ gb791 ∧ k_ ≠ gb792 ∧ k_ ≠ gb805) (.slice Ao97 t815.length co97) t815) := ⟨by exact Kd.V_mono (Kd.V_far (p := ⟨gb805, 0, none⟩) (Kd.V_mono HO817.out (fun k_ hk => (⟨hk, hk.2.2.2.2.2.2⟩ : _ ∧ k_ ≠ gb805))) (fun _ hk => hk.2) (.slice Ao97 t815.length co97)) (fun _ hk => ⟨hk.1.1, ⟨hk.1.2.1, ⟨hk.1.2.2.1, ⟨hk.1.2.2.2.1, ⟨hk.1.2.2.2.2.1, ⟨hk.1.2.2.2.2.2.1, hk.1.2.2.2.2.2.2⟩⟩⟩⟩⟩⟩)⟩
            have n4_ : Aside0 ((w96.setCell ⟨gb805, 0, none⟩ (.slice Ao97 t815.length co97)).heap[gb789]? = some (.cells #[.slice A0_0 l0_0.length c0_0] 26 (0, 0))) := ⟨by refine blk_far ?_ NB789_805.out _; exact BK789.out⟩
            have n5_ : Aside0 ((w96.setCell ⟨gb805, 0, none⟩ (.slice Ao97 t815.length co97)).heap[gb790]? = some (.cells #[.slice A1_0 l1_0.length c1_0] 26 (0, 0))) := ⟨by refine blk_far ?_ NB790_805.out _; exact BK790.out⟩
            have n6_ : Aside0 ((w96.setCell ⟨gb805, 0, none⟩ (.slice Ao97 t815.length co97)).heap[gb791]? = some (.cells #[.slice none 0 0] 26 (0, 0))) := ⟨by refine blk_far ?_ NB791_805.out _; exact BK791.out⟩
            have n7_ : Aside0 ((w96.setCell ⟨gb805, 0, none⟩ (.slice Ao97 t815.length co97)).heap[gb792]? = some (.cells #[.slice none 0 0] 26 (0, 0))) := ⟨by refine blk_far ?_ NB792_805.out _; exact BK792.out⟩
            have n8_ : Aside0 ((w96.setCell ⟨gb805, 0, none⟩ (.slice Ao97 t815.length co97)).heap[gb805]? = some (.cells #[.slice Ao97 t815.length co97] 26 (0, 0))) := ⟨by refine blk_put (cs := #[.slice Ao82 t811.length co82]) ?_ 0 _ rfl; exact BK805.out⟩
            have n9_ : Aside0 (Below w.heap.size w (w96.setCell ⟨gb805, 0, none⟩ (.slice Ao97 t815.length co97))) := ⟨by repeat (first | exact HB.out | refine sb ?_ GE789 | refine sb ?_ GE790 | refine sb ?_ GE791 | refine sb ?_ GE792 | refine sb ?_ GE805)⟩
            (try clear HO_9)
            (try clear HO_806000)
            (try clear HO813)
            (try clear HO817)
            (try clear BK789)
            (try clear BK790)
            (try clear BK791)
            (try clear BK792)
            (try clear BK805)
            (try clear HB)
            generalize (w96.setCell ⟨gb805, 0, none⟩ (.slice Ao97 t815.length co97)) = w99 at n0_ n1_ n2_ n3_ n4_ n5_ n6_ n7_ n8_ n9_ ⊢
            have HO_9 := n0_
            have HO_806000 := n1_
            have HO813 := n2_
            have HO817 := n3_
            have BK789 := n4_
            have BK790 := n5_
            have BK791 := n6_
            have BK792 := n7_
            have BK805 := n8_
            have HB := n9_
            clear n0_ n1_ n2_ n3_ n4_ n5_ n6_ n7_ n8_ n9_
            replace HO_9 := Aside0.mk (Kd.R_drew HO_9.out)
            replace HO_806000 := Aside0.mk (Kd.V_drew HO_806000.out)
            replace HO813 := Aside0.mk (Kd.V_drew HO813.out)
            replace HO817 := Aside0.mk (Kd.V_drew HO817.out)
            replace BK789 := Aside0.mk (blk_drew BK789.out)
            replace BK790 := Aside0.mk (blk_drew BK790.out)
            replace BK791 := Aside0.mk (blk_drew BK791.out)
            replace BK792 := Aside0.mk (blk_drew BK792.out)
            replace BK805 := Aside0.mk (blk_drew BK805.out)
            replace HB := Aside0.mk (below_drew1 HB.out)
            obtain ⟨Ao101, co101, eo101⟩ := Kd.R_slice HO_9.out
            (first | subst eo101 | (injection eo101 with f1_ f2_ f3_; have f4_ := f1_.symm; have f5_ := f3_.symm; clear f1_ f2_ f3_; subst f4_; subst f5_))
            have p819 : 0 ≤ ((ji71) : Int) := of_decide_eq_true (by first | (with_reducible assumption) | assumption)
            have q819 : (ji71) < (x9_1.length : Int) := of_decide_eq_true (by first | (with_reducible assumption) | assumption)
            obtain ⟨ad819, e819, hx819_0⟩ := Kd.at_int (Kd.R_reads' HO_9.out).2.2 (ji71) p819 q819
            cases e819
            replace p819 := eq_true p819
            replace q819 := eq_true q819
            have p77 : 0 ≤ ((ji71) : Int) := of_decide_eq_true (by first | (with_reducible assumption) | assumption)
            have q77 : ((ji71) : Int) < ((x9_1.length : Int) : Int) := of_decide_eq_true (by first | (with_reducible assumption) | assumption)
            obtain ⟨go77, co77, eo77, gb77, gl77, cl77, HG77⟩ := Kd.R_form HO_9.out (by omega)
            (first | cases eo77 | (injection eo77 with ea_ en_ ec_; (first | subst ea_ | (injection ea_ with ea_; subst ea_)); subst ec_; clear en_))
            have GB77 := Aside0.mk gb77
            have GG77 := Aside0.mk HG77
            clear gb77 gl77 HG77
            (first | simp only [add_plain] at hx819_0 | skip)
            obtain ⟨hx77_0, hf77_0⟩ := Kd.R_celln 0 HO_9.out ((ji71) : Int) p77 q77
            replace p77 := eq_true p77
            replace q77 := eq_true q77
            have HP102 := Kd.R_putn HO_9.out ((ji71) : Int) (Go.bits .or .u32 (rd x9_1 (ji71)) (ji76))
            rw [← Ny820.out] at HP102
            have HQ102 := Aside0.mk HP102
            clear HP102
            refine start_ (n := 11) (S := fun w' => w'.cell? ⟨go77, ((ji71)).toNat, none⟩ = some (.int .u32 (rd x9_1 (ji71)))) (ds := [10]) #[false, false, false, false, false, false, false, false, false, false, false] (by kernel_rfl) rfl rfl (hx819_0) (fun hHeld => ?_); refine with_tabW nat_Nat_Div.tab14 nat_Nat_Div.bits14 (fun HT_ HW_ => ?_)
            generalize w99.drew = w100 at HO_9 HO_806000 HO813 HO817 BK789 BK790 BK791 BK792 BK805 HB GG77 HQ102 hf77_0 hx77_0 hx819_0 hHeld ⊢
            refine pure_ (i := 0) (N := some 63) (v := ?_) (a' := ?_) #[true, false, false, false, false, false, false, false, false, false, false] rfl rfl (any_of HT_.out (by kernel_rfl)) (fun _ _ _ h => h) (Or.inl ⟨by rfl, ?_⟩) ?_ ?_
            rotate_left
            ·intro w'
             go_simp
             with_reducible rfl
            rotate_left
            ·simp only [Act.put, sa, sz, ss, i64_w, i32_w]
             rfl
            refine pure_ (i := 1) (N := some 64) (v := ?_) (a' := ?_) #[true, true, false, false, false, false, false, false, false, false, false] rfl rfl (any_of HT_.out (by kernel_rfl)) (fun _ _ _ h => h) (Or.inl ⟨by rfl, ?_⟩) ?_ ?_
            rotate_left
            ·intro w'
             go_simp
             with_reducible rfl
            rotate_left
            ·simp only [Act.put, sa, sz, ss, i64_w, i32_w]
             rfl
            refine pure_ (i := 2) (N := some 65) (v := ?_) (a' := ?_) #[true, true, true, false, false, false, false, false, false, false, false] rfl rfl (any_of HT_.out (by kernel_rfl)) (fun _ _ _ h => h) (Or.inl ⟨by rfl, ?_⟩) ?_ ?_
            rotate_left
            ·intro w'
             go_simp
             with_reducible rfl
            rotate_left
            ·simp only [Act.put, sa, sz, ss, i64_w, i32_w]
             rfl
            refine pure_ (i := 3) (N := some 66) (v := ?_) (a' := ?_) #[true, true, true, true, false, false, false, false, false, false, false] rfl rfl (any_of HT_.out (by kernel_rfl)) (fun _ _ _ h => h) (Or.inl ⟨by rfl, ?_⟩) ?_ ?_
            rotate_left
            ·intro w'
             go_simp
             with_reducible rfl
            rotate_left
            ·simp only [Act.put, sa, sz, ss, i64_w, i32_w]
             rfl
            refine pure_ (i := 5) (N := some 68) (v := ?_) (a' := ?_) #[true, true, true, true, false, true, false, false, false, false, false] rfl rfl (any_of HT_.out (by kernel_rfl)) (fun _ _ _ h => h) (Or.inl ⟨by rfl, ?_⟩) ?_ ?_
            rotate_left
            ·intro w'
             go_simp
             with_reducible rfl
            rotate_left
            ·simp only [Act.put, sa, sz, ss, i64_w, i32_w]
             rfl
            refine pure_ (i := 6) (N := some 69) (v := ?_) (a' := ?_) #[true, true, true, true, false, true, true, false, false, false, false] rfl rfl (any_of HT_.out (by kernel_rfl)) (fun _ _ _ h => h) (Or.inl ⟨by rfl, ?_⟩) ?_ ?_
            rotate_left
            ·intro w'
             go_simp
             with_reducible rfl
            rotate_left
            ·simp only [Act.put, sa, sz, ss, i64_w, i32_w]
             rfl
            refine pure_ (i := 7) (N := some 70) (v := ?_) (a' := ?_) #[true, true, true, true, false, true, true, true, false, false, false] rfl rfl (any_of HT_.out (by kernel_rfl)) (fun _ _ _ h => h) (Or.inl ⟨by rfl, ?_⟩) ?_ ?_
            rotate_left
            ·intro w'
             go_simp
             with_reducible rfl
            rotate_left
            ·simp only [Act.put, sa, sz, ss, i64_w, i32_w]
             rfl
            refine take_ (i := 4) (N := some 67) (v := ?_) (a' := ?_) #[true, true, true, true, true, true, true, true, false, false, false] rfl rfl (take_ofW HT_.out HW_.out (by kernel_rfl)) (fun _ _ _ h => h) (Or.inl ⟨by rfl, ?_⟩) hHeld ?_ ?_
            rotate_left
            ·intro w' s0
             go_simp
             with_reducible rfl
            rotate_left
            ·simp only [Act.put, sa, sz, ss, i64_w, i32_w]
             rfl
            refine pure_ (i := 8) (N := some 71) (v := ?_) (a' := ?_) #[true, true, true, true, true, true, true, true, true, false, false] rfl rfl (any_of HT_.out (by kernel_rfl)) (fun _ _ _ h => h) (Or.inl ⟨by rfl, ?_⟩) ?_ ?_
            rotate_left
            ·intro w'
             go_simp
             with_reducible rfl
            rotate_left
            ·simp only [Act.put, sa, sz, ss, i64_w, i32_w]
             rfl
            refine pure_ (i := 9) (N := some 72) (v := ?_) (a' := ?_) #[true, true, true, true, true, true, true, true, true, true, false] rfl rfl (any_of HT_.out (by kernel_rfl)) (fun _ _ _ h => h) (Or.inl ⟨by rfl, ?_⟩) ?_ ?_
            rotate_left
            ·intro w'
             go_simp
             with_reducible rfl
            rotate_left
            ·simp only [Act.put, sa, sz, ss, i64_w, i32_w]
             rfl
            refine last_ (i := 10) (N := none) #[true, true, true, true, true, true, true, true, true, true, true] rfl rfl (one_of HT_.out (by kernel_rfl)) (by decide) (fun K hK => ?_)
            refine skip_ (w1 := ?_) (by rfl) rfl ?_ ?_
            rotate_left
            ·go_simp
             rfl
            refine hK.out _ _ ?_
            clear hK K
            refine done_ (done_of HT_.out (by kernel_rfl)) ?_
            try go_wp2
            go_roundg k1
            case measure => have := HK1.out; omega
            case rel => exact ⟨(y820), (wrap64 (x11_1 - 1)), (t815), (.slice Ao97 t815.length co97), (by first | rfl | (simp; done) | (simp [*]; done) | (simp [i64_w]; done) | (simp [*, i64_w]; done)), H', ⟨by have := HK1.out; omega⟩, ⟨by (with_reducible repeat (first | apply Kd.R_alloc | apply Kd.R_drewN | apply Kd.R_drew)); exact HQ102.out⟩, ⟨by exact Kd.V_mono (Kd.V_far (p := ⟨go77, ((ji71) : Int).toNat, none⟩) (Kd.V_mono HO817.out (fun k_ hk => (⟨hk, fun e_ => hk.2.1 (by rw [e_]; rfl)⟩ : _ ∧ k_ ≠ go77))) (fun _ hk => hk.2) (.int .u32 (Go.bits .or .u32 (rd x9_1 (ji71)) (ji76)))) (fun _ hk => ⟨hk.1.1, ⟨hk.1.2.1, ⟨hk.1.2.2.1, ⟨hk.1.2.2.2.1, ⟨hk.1.2.2.2.2.1, ⟨hk.1.2.2.2.2.2.1, hk.1.2.2.2.2.2.2⟩⟩⟩⟩⟩⟩)⟩, ⟨by refine blk_far ?_ (by have h_ := Kd.R_ne HO_9.out BK789.out (by decide); intro e_; exact h_ (by rw [e_]; rfl)) _; exact BK789.out⟩, ⟨by refine blk_far ?_ (by have h_ := Kd.R_ne HO_9.out BK790.out (by decide); intro e_; exact h_ (by rw [e_]; rfl)) _; exact BK790.out⟩, ⟨by refine blk_far ?_ (by have h_ := Kd.R_ne HO_9.out BK791.out (by decide); intro e_; exact h_ (by rw [e_]; rfl)) _; exact BK791.out⟩, ⟨by refine blk_far ?_ (by have h_ := Kd.R_ne HO_9.out BK792.out (by decide); intro e_; exact h_ (by rw [e_]; rfl)) _; exact BK792.out⟩, ⟨by refine blk_far ?_ (by have h_ := Kd.R_ne HO_9.out BK805.out (by decide); intro e_; exact h_ (by rw [e_]; rfl)) _; exact BK805.out⟩, ⟨by repeat (first | exact HB.out | refine sb ?_ GB77 | refine sb ?_ GE789 | refine sb ?_ GE790 | refine sb ?_ GE791 | refine sb ?_ GE792 | refine sb ?_ GE805)⟩⟩
           ·rw [if_neg c75] at H
            exact absurd H (by simp)
          ·rw [if_neg c73] at H
           exact absurd H (by simp)
         ·rw [if_neg c72] at H
          exact absurd H (by simp)
        ·rw [if_neg c69] at H
         have c69b0 : decide (0 ≤ t814) = false := decide_eq_false c69
         clear c69
         have H' := Aside0.mk H
         clear H
         try go_wp2
         replace HO_9 := Aside0.mk (Kd.R_drew HO_9.out)
         replace HO_806000 := Aside0.mk (Kd.V_drew HO_806000.out)
         replace BK789 := Aside0.mk (blk_drew BK789.out)
         replace BK790 := Aside0.mk (blk_drew BK790.out)
         replace BK791 := Aside0.mk (blk_drew BK791.out)
         replace BK792 := Aside0.mk (blk_drew BK792.out)
         replace BK805 := Aside0.mk (blk_drew BK805.out)
         replace HB := Aside0.mk (below_drew1 HB.out)
         refine start_ (n := 7) (S := fun w' => w'.cell? ⟨gb805, 0, none⟩ = some (u806000) ∧ w'.cell? ⟨gb789, 0, none⟩ = some (.slice A0_0 l0_0.length c0_0)) (ds := [6]) #[false, false, false, false, false, false, false] (by kernel_rfl) rfl rfl ⟨(blk_cell BK805.out 0).trans rfl, (blk_cell BK789.out 0).trans rfl⟩ (fun hHeld => ?_)
         generalize wr.drew = w103 at HO_9 HO_806000 BK789 BK790 BK791 BK792 BK805 HB hHeld ⊢
         refine pure_ (i := 2) (N := some 49) (v := ?_) (a' := ?_) #[false, false, true, false, false, false, false] rfl rfl (by kernel_rfl) (fun _ _ _ h => h) (Or.inl ⟨by rfl, ?_⟩) ?_ ?_
         rotate_left
         ·intro w'
          go_simp
          with_reducible rfl
         rotate_left
         ·simp only [Act.put, sa, sz, ss, i64_w, i32_w]
          rfl
         refine take_ (i := 0) (N := some 47) (v := ?_) (a' := ?_) #[true, false, true, false, false, false, false] rfl rfl (by kernel_rfl) (fun _ _ _ h => h) (Or.inl ⟨by rfl, ?_⟩) hHeld ?_ ?_
         rotate_left
         ·rintro w' ⟨s0, s1⟩
          go_simp
          with_reducible rfl
         rotate_left
         ·simp only [Act.put, sa, sz, ss, i64_w, i32_w]
          rfl
         refine take_ (i := 1) (N := some 48) (v := ?_) (a' := ?_) #[true, true, true, false, false, false, false] rfl rfl (by kernel_rfl) (fun _ _ _ h => h) (Or.inl ⟨by rfl, ?_⟩) hHeld ?_ ?_
         rotate_left
         ·rintro w' ⟨s0, s1⟩
          go_simp
          with_reducible rfl
         rotate_left
         ·simp only [Act.put, sa, sz, ss, i64_w, i32_w]
          rfl
         refine one_ (i := 3) (N := some 50) #[true, true, true, true, false, false, false] rfl rfl (by kernel_rfl) (by decide) (fun K hK => ?_)
         refine goes_ Tryd.func27 (by kernel_rfl) rfl #[.agg #[.slice A0_0 l0_0.length c0_0], .int .i64 x11_1] (by rfl) rfl rfl (by (try simp only [List.map_toArray, List.map_cons, List.map_nil]); first | done | rfl | (simp only [List.length_drop, List.length_take]; rfl)) ?_
         with_reducible refine (nat_Nat_Bit.calls _ _ l0_0 x11_1 t810 _ ?side1 ?side2 A66.out).mono ?_
         (case side1 => repeat (first | exact (Kd.C_below HR0_0.out HB.out) | (with_reducible refine Kd.C_alloc ?_ _) | (with_reducible refine Kd.C_drewN ?_ _) | (with_reducible refine Kd.C_drew ?_)))
         (case side2 => exact HC0_0.out)
         rintro e w104 ⟨rfl, hb⟩
         refine ⟨_, rfl, ?_⟩
         replace HO_9 := Aside0.mk (Kd.R_below (by (with_reducible repeat (first | apply Kd.R_alloc | apply Kd.R_drewN | apply Kd.R_drew)); exact HO_9.out) hb)
         replace HO_806000 := vb HO_806000 hb
         replace BK789 := bb BK789 hb
         replace BK790 := bb BK790 hb
         replace BK791 := bb BK791 hb
         replace BK792 := bb BK792 hb
         replace BK805 := bb BK805 hb
         replace HB := Aside0.mk (below_step (by repeat (first | exact HB.out | refine sb ?_ GE789 | refine sb ?_ GE790 | refine sb ?_ GE791 | refine sb ?_ GE792 | refine sb ?_ GE805)) hb)
         (try clear hb)
         (try clear hb2)
         (try clear hk)
         (try clear hi)
         obtain ⟨Ao105, co105, eo105⟩ := Kd.V_slice HO_806000.out
         (first | subst eo105 | (injection eo105 with f1_ f2_ f3_; have f4_ := f1_.symm; have f5_ := f3_.symm; clear f1_ f2_ f3_; subst f4_; subst f5_))
         refine hK.out _ _ ⟨(blk_cell BK805.out 0).trans rfl, (blk_cell BK789.out 0).trans rfl⟩ (fun hHeld => ?_)
         clear hK K
         refine norm_ (a' := ?_) ?_ ?_
         rotate_left
         ·show Act.put _ (some 50) _ = _
          simp only [Act.put, sa, sz, ss, i64_w, i32_w]
          rfl
         refine pure_ (i := 4) (N := some 51) (v := ?_) (a' := ?_) #[true, true, true, true, true, false, false] rfl rfl (by kernel_rfl) (fun _ _ _ h => h) (Or.inl ⟨by rfl, ?_⟩) ?_ ?_
         rotate_left
         ·intro w'
          go_simp
          with_reducible rfl
         rotate_left
         ·simp only [Act.put, sa, sz, ss, i64_w, i32_w]
          rfl
         refine one_ (i := 5) (N := some 52) #[true, true, true, true, true, true, false] rfl rfl (by kernel_rfl) (by decide) (fun K hK => ?_)
         refine goes_ Tryd.func63 (by kernel_rfl) rfl #[.agg #[.slice Ao105 x806000_1.length co105], .int .u32 ((t810) % 4294967296)] (by rfl) rfl rfl (by (try simp only [List.map_toArray, List.map_cons, List.map_nil]); first | done | rfl | (simp only [List.length_drop, List.length_take]; rfl)) ?_
         with_reducible refine (nat_Nat_doubled.calls k1 _ _ x806000_1 ((t810) % 4294967296) t811 _ ?side1 ?side2 A67.out).mono ?_
         (case side1 => exact (Kd.V_reads' HO_806000.out).2.2)
         (case side2 => exact (Kd.V_reads' HO_806000.out).2.1)
         rintro e w106 ⟨v812, rfl, ho0, hb⟩
         refine ⟨_, rfl, ?_⟩
         have HO813 := Aside0.mk (Kd.V_lower (Kd.V_mono (ok' := fun k_ => (w.heap.size ≤ k_) ∧ some k_ ≠ (v803 : Value).ownBlock ∧ k_ ≠ gb789 ∧ k_ ≠ gb790 ∧ k_ ≠ gb791 ∧ k_ ≠ gb792 ∧ k_ ≠ gb805) ho0 (fun k_ hk_ => ⟨(Nat.le_trans (below_size (by repeat (first | exact HB.out | refine sb ?_ GE789 | refine sb ?_ GE790 | refine sb ?_ GE791 | refine sb ?_ GE792 | refine sb ?_ GE805))) hk_), (Kd.fresh' (Kd.R_lt (by (with_reducible repeat (first | apply Kd.R_alloc | apply Kd.R_drewN | apply Kd.R_drew)); exact HO_9.out)) k_ hk_), (fb BK789 k_ hk_), (fb BK790 k_ hk_), (fb BK791 k_ hk_), (fb BK792 k_ hk_), (fb BK805 k_ hk_)⟩)) (below_size (by repeat (first | exact HB.out | refine sb ?_ GE789 | refine sb ?_ GE790 | refine sb ?_ GE791 | refine sb ?_ GE792 | refine sb ?_ GE805))))
         replace HO_9 := Aside0.mk (Kd.R_below (by (with_reducible repeat (first | apply Kd.R_alloc | apply Kd.R_drewN | apply Kd.R_drew)); exact HO_9.out) hb)
         replace HO_806000 := vb HO_806000 hb
         replace BK789 := bb BK789 hb
         replace BK790 := bb BK790 hb
         replace BK791 := bb BK791 hb
         replace BK792 := bb BK792 hb
         replace BK805 := bb BK805 hb
         replace HB := Aside0.mk (below_step (by repeat (first | exact HB.out | refine sb ?_ GE789 | refine sb ?_ GE790 | refine sb ?_ GE791 | refine sb ?_ GE792 | refine sb ?_ GE805)) hb)
         (try clear hb)
         (try clear hb2)
         (try clear hk)
         (try clear hi)
         (try clear ho0)
         obtain ⟨Ao107, co107, eo107⟩ := Kd.V_slice HO813.out
         (first | subst eo107 | (injection eo107 with f1_ f2_ f3_; have f4_ := f1_.symm; have f5_ := f3_.symm; clear f1_ f2_ f3_; subst f4_; subst f5_))
         refine hK.out _ _ ⟨(blk_cell BK805.out 0).trans rfl, (blk_cell BK789.out 0).trans rfl⟩ (fun hHeld => ?_)
         clear hK K
         refine norm_ (a' := ?_) ?_ ?_
         rotate_left
         ·show Act.put _ (some 52) _ = _
          simp only [Act.put, sa, sz, ss, i64_w, i32_w]
          rfl
         refine last_ (i := 6) (N := none) #[true, true, true, true, true, true, true] rfl rfl (by kernel_rfl) (by decide) (fun K hK => ?_)
         have hs108 : w106.cell? ⟨gb805, 0, none⟩ = some (.slice Ao105 x806000_1.length co105) := (blk_cell BK805.out 0).trans rfl
         have hfs108 := blk_frozen BK805.out 0
         have hns108_0 := NB789_805.out
         have hns108_1 := NB790_805.out
         have hns108_2 := NB791_805.out
         have hns108_3 := NB792_805.out
         have hms108_0 := NB805_789.out
         have hms108_1 := NB805_790.out
         have hms108_2 := NB805_791.out
         have hms108_3 := NB805_792.out
         refine skip_ (w1 := ?_) (by rfl) rfl ?_ ?_
         rotate_left
         ·go_simp
          rfl
         refine hK.out _ _ ?_
         clear hK K
         refine done_ (by kernel_rfl) ?_
         have hnb109 := NB805_789.out
         have hnc109 := NB789_805.out
         have hnb110 := NB805_790.out
         have hnc110 := NB790_805.out
         have hnb111 := NB805_791.out
         have hnc111 := NB791_805.out
         have hnb112 := NB805_792.out
         have hnc112 := NB792_805.out
         have hcz113_0 : w106.cell? ⟨gb805, 0, none⟩ = some (.slice Ao105 x806000_1.length co105) := (blk_cell BK805.out 0).trans rfl
         have hfz113_0 := blk_frozen BK805.out 0
         have hnb114 := NB790_789.out
         have hnc114 := NB789_790.out
         have hnb115 := NB790_791.out
         have hnc115 := NB791_790.out
         have hnb116 := NB790_792.out
         have hnc116 := NB792_790.out
         have hcz117_0 : w106.cell? ⟨gb790, 0, none⟩ = some (.slice A1_0 l1_0.length c1_0) := (blk_cell BK790.out 0).trans rfl
         have hfz117_0 := blk_frozen BK790.out 0
         try go_wp2_with (first | ((with_reducible refine gate_callee (f := 29) rfl ?_); refine goesL_ (some 55) rfl rfl Tryd.func29 (by kernel_rfl) rfl #[.agg #[.slice Ao107 t811.length co107], .agg #[.slice A1_0 l1_0.length c1_0]] rfl (by (try simp only [List.map_toArray, List.map_cons, List.map_nil]); first | done | rfl | (simp only [List.length_drop, List.length_take]; rfl)) ?_; (with_reducible refine (nat_Nat_Compare.calls k1 _ _ t811 _ _ l1_0 t814 _ ?side1 ?side2 ?side3 ?side4 A68.out).mono ?_); (case side1 => refine (Kd.V_reads' (e := 79) (base := w.heap.size) (ok := fun k_ => ((w.heap.size ≤ k_) ∧ (some k_ ≠ (v803 : Value).ownBlock ∧ (k_ ≠ gb789 ∧ (k_ ≠ gb790 ∧ (k_ ≠ gb791 ∧ (k_ ≠ gb792 ∧ k_ ≠ gb805))))))) (n := t811.length) (c := co107) ?_).2.2; exact (by exact (Kd.V_mono (Kd.V_far (p := ⟨gb805, 0, none⟩) (Kd.V_mono HO813.out (fun k_ hk => (⟨hk, hk.2.2.2.2.2.2⟩ : _ ∧ k_ ≠ gb805))) (fun _ hk => hk.2) (.slice Ao107 t811.length co107)) (fun _ h_ => h_.1)))); (case side2 => exact (Kd.V_reads' HO813.out).2.1); (case side3 => exact Kd.C_below HR1_0.out (by repeat (first | exact HB.out | refine sb ?_ GE789 | refine sb ?_ GE790 | refine sb ?_ GE791 | refine sb ?_ GE792 | refine sb ?_ GE805))); (case side4 => exact HC1_0.out); rintro e w118 ⟨rfl, hb⟩; refine ⟨_, rfl, ?_⟩; replace HO_9 := Aside0.mk (Kd.R_below (by (with_reducible repeat (first | apply Kd.R_alloc | apply Kd.R_drewN | apply Kd.R_drew)); exact (Kd.R_mono (Kd.R_far (p := ⟨gb805, 0, none⟩) (Kd.R_types HO_9.out BK805.out (by decide)) (fun _ hk => hk.2) (.slice Ao107 t811.length co107)) (fun _ h_ => h_.1))) hb); replace HO_806000 := vf HO_806000 (fun k_ hk => hk.2.2.2.2.2.2) hb; replace HO813 := vf HO813 (fun k_ hk => hk.2.2.2.2.2.2) hb; replace BK789 := bf BK789 NB789_805 hb; replace BK790 := bf BK790 NB790_805 hb; replace BK791 := bf BK791 NB791_805 hb; replace BK792 := bf BK792 NB792_805 hb; replace BK805 := Aside0.mk (blk_below (g := gb805) (o := .cells #[.slice Ao107 t811.length co107] 26 (0, 0)) (by refine blk_put (cs := #[.slice Ao105 x806000_1.length co105]) ?_ 0 _ rfl; exact BK805.out) hb); replace HB := Aside0.mk (below_step (by repeat (first | exact HB.out | refine sb ?_ GE789 | refine sb ?_ GE790 | refine sb ?_ GE791 | refine sb ?_ GE792 | refine sb ?_ GE805)) hb); (try clear hb); (try clear hb2); (try clear hk); (try clear hi)))
         go_roundg k1
         case measure => have := HK1.out; omega
         case rel => exact ⟨(x9_1), (wrap64 (x11_1 - 1)), (t811), (.slice Ao107 t811.length co107), (by first | rfl | (simp; done) | (simp [*]; done) | (simp [i64_w]; done) | (simp [*, i64_w]; done)), H', ⟨by have := HK1.out; omega⟩, ⟨by (with_reducible repeat (first | apply Kd.R_alloc | apply Kd.R_drewN | apply Kd.R_drew)); exact HO_9.out⟩, ⟨by exact HO813.out⟩, ⟨by exact BK789.out⟩, ⟨by exact BK790.out⟩, ⟨by exact BK791.out⟩, ⟨by exact BK792.out⟩, ⟨by exact BK805.out⟩, ⟨by repeat (first | exact HB.out | refine sb ?_ GE789 | refine sb ?_ GE790 | refine sb ?_ GE791 | refine sb ?_ GE792 | refine sb ?_ GE805)⟩⟩
       ·rw [if_neg c65] at H
        have c65b0 : decide (0 ≤ x11_1) = false := decide_eq_false c65
        clear c65
        replace H := Option.bind_eq_some_iff.mp H
        obtain ⟨t807, A1190, H⟩ := H
        replace H : (some (t807, x806000_1, 0)) = some (r1, r2, r3) := H
        have A119 := Aside0.mk A1190
        clear A1190
        simp only [Option.some.injEq, Prod.mk.injEq] at H
        obtain ⟨rfl, rfl, rfl⟩ := H
        try go_wp2
        replace HO_9 := Aside0.mk (Kd.R_drew HO_9.out)
        replace HO_806000 := Aside0.mk (Kd.V_drew HO_806000.out)
        replace BK789 := Aside0.mk (blk_drew BK789.out)
        replace BK790 := Aside0.mk (blk_drew BK790.out)
        replace BK791 := Aside0.mk (blk_drew BK791.out)
        replace BK792 := Aside0.mk (blk_drew BK792.out)
        replace BK805 := Aside0.mk (blk_drew BK805.out)
        replace HB := Aside0.mk (below_drew1 HB.out)
        obtain ⟨Ao121, co121, eo121⟩ := Kd.R_slice HO_9.out
        (first | subst eo121 | (injection eo121 with f1_ f2_ f3_; have f4_ := f1_.symm; have f5_ := f3_.symm; clear f1_ f2_ f3_; subst f4_; subst f5_))
        refine start_ (n := 6) (S := fun w' => w'.cell? ⟨gb805, 0, none⟩ = some (u806000)) (ds := []) #[false, false, false, false, false, false] (by kernel_rfl) rfl rfl ((blk_cell BK805.out 0).trans rfl) (fun hHeld => ?_)
        generalize wr.drew = w120 at HO_9 HO_806000 BK789 BK790 BK791 BK792 BK805 HB hHeld ⊢
        refine pure_ (i := 0) (N := some 73) (v := ?_) (a' := ?_) #[true, false, false, false, false, false] rfl rfl (by kernel_rfl) (fun _ _ _ h => h) (Or.inl ⟨by rfl, ?_⟩) ?_ ?_
        rotate_left
        ·intro w'
         go_simp
         with_reducible rfl
        rotate_left
        ·simp only [Act.put, sa, sz, ss, i64_w, i32_w]
         rfl
        refine take_ (i := 2) (N := some 75) (v := ?_) (a' := ?_) #[true, false, true, false, false, false] rfl rfl (by kernel_rfl) (fun _ _ _ h => h) (Or.inl ⟨by rfl, ?_⟩) hHeld ?_ ?_
        rotate_left
        ·intro w' s0
         go_simp
         with_reducible rfl
        rotate_left
        ·simp only [Act.put, sa, sz, ss, i64_w, i32_w]
         rfl
        refine one_ (i := 1) (N := some 74) #[true, true, true, false, false, false] rfl rfl (by kernel_rfl) (by decide) (fun K hK => ?_)
        refine goes_ Tryd.func60 (by kernel_rfl) rfl #[.slice Ao121 x9_1.length co121] (by rfl) rfl rfl (by (try simp only [List.map_toArray, List.map_cons, List.map_nil]); first | done | rfl | (simp only [List.length_drop, List.length_take]; rfl)) ?_
        with_reducible refine (nat_cut.calls k1 (fun k_ => some k_ = (.slice Ao121 x9_1.length co121 : Value).ownBlock) _ _ x9_1 t807 _ ?side1 A119.out).mono ?_
        (case side1 => exact Kd.R_V (Kd.R_tight rfl (Kd.R_types (Kd.R_types (Kd.R_types (Kd.R_types (Kd.R_types (HO_9.out) BK789.out (by decide)) BK790.out (by decide)) BK791.out (by decide)) BK792.out (by decide)) BK805.out (by decide))))
        rintro e w122 ⟨v808, rfl, ho0, hb⟩
        refine ⟨_, rfl, ?_⟩
        have HO809 := Aside0.mk (Kd.V_lower (Kd.V_mono (ok' := fun k_ => (w.heap.size ≤ k_) ∧ k_ ≠ gb789 ∧ k_ ≠ gb790 ∧ k_ ≠ gb791 ∧ k_ ≠ gb792 ∧ k_ ≠ gb805) ho0 (fun k_ hk_ => ⟨Or.elim hk_ (fun hs_ => ((Kd.R_types (Kd.R_types (Kd.R_types (Kd.R_types (Kd.R_types (HO_9.out) BK789.out (by decide)) BK790.out (by decide)) BK791.out (by decide)) BK792.out (by decide)) BK805.out (by decide)).1 k_ hs_.symm).1.1.1.1.1) (fun hn_ => (Nat.le_trans (below_size (by repeat (first | exact HB.out | refine sb ?_ GE789 | refine sb ?_ GE790 | refine sb ?_ GE791 | refine sb ?_ GE792 | refine sb ?_ GE805))) hn_)), Or.elim hk_ (fun hs_ => ((Kd.R_types (Kd.R_types (Kd.R_types (Kd.R_types (Kd.R_types (HO_9.out) BK789.out (by decide)) BK790.out (by decide)) BK791.out (by decide)) BK792.out (by decide)) BK805.out (by decide)).1 k_ hs_.symm).1.1.1.1.2) (fun hn_ => (Kd.freshB (g := gb789) (o := .cells #[.slice A0_0 l0_0.length c0_0] 26 (0, 0)) BK789.out k_ hn_)), Or.elim hk_ (fun hs_ => ((Kd.R_types (Kd.R_types (Kd.R_types (Kd.R_types (Kd.R_types (HO_9.out) BK789.out (by decide)) BK790.out (by decide)) BK791.out (by decide)) BK792.out (by decide)) BK805.out (by decide)).1 k_ hs_.symm).1.1.1.2) (fun hn_ => (Kd.freshB (g := gb790) (o := .cells #[.slice A1_0 l1_0.length c1_0] 26 (0, 0)) BK790.out k_ hn_)), Or.elim hk_ (fun hs_ => ((Kd.R_types (Kd.R_types (Kd.R_types (Kd.R_types (Kd.R_types (HO_9.out) BK789.out (by decide)) BK790.out (by decide)) BK791.out (by decide)) BK792.out (by decide)) BK805.out (by decide)).1 k_ hs_.symm).1.1.2) (fun hn_ => (Kd.freshB (g := gb791) (o := .cells #[.slice none 0 0] 26 (0, 0)) BK791.out k_ hn_)), Or.elim hk_ (fun hs_ => ((Kd.R_types (Kd.R_types (Kd.R_types (Kd.R_types (Kd.R_types (HO_9.out) BK789.out (by decide)) BK790.out (by decide)) BK791.out (by decide)) BK792.out (by decide)) BK805.out (by decide)).1 k_ hs_.symm).1.2) (fun hn_ => (Kd.freshB (g := gb792) (o := .cells #[.slice none 0 0] 26 (0, 0)) BK792.out k_ hn_)), Or.elim hk_ (fun hs_ => ((Kd.R_types (Kd.R_types (Kd.R_types (Kd.R_types (Kd.R_types (HO_9.out) BK789.out (by decide)) BK790.out (by decide)) BK791.out (by decide)) BK792.out (by decide)) BK805.out (by decide)).1 k_ hs_.symm).2) (fun hn_ => (Kd.freshB (g := gb805) (o := .cells #[u806000] 26 (0, 0)) BK805.out k_ hn_))⟩)) (below_size (by repeat (first | exact HB.out | refine sb ?_ GE789 | refine sb ?_ GE790 | refine sb ?_ GE791 | refine sb ?_ GE792 | refine sb ?_ GE805))))
        replace HO_9 := Aside0.mk (Kd.R_below (by (with_reducible repeat (first | apply Kd.R_alloc | apply Kd.R_drewN | apply Kd.R_drew)); exact HO_9.out) hb)
        replace HO_806000 := vb HO_806000 hb
        replace BK789 := bb BK789 hb
        replace BK790 := bb BK790 hb
        replace BK791 := bb BK791 hb
        replace BK792 := bb BK792 hb
        replace BK805 := bb BK805 hb
        replace HB := Aside0.mk (below_step (by repeat (first | exact HB.out | refine sb ?_ GE789 | refine sb ?_ GE790 | refine sb ?_ GE791 | refine sb ?_ GE792 | refine sb ?_ GE805)) hb)
        (try clear hb)
        (try clear hb2)
        (try clear hk)
        (try clear hi)
        (try clear ho0)
        obtain ⟨Ao123, co123, eo123⟩ := Kd.V_slice HO809.out
        (first | subst eo123 | (injection eo123 with f1_ f2_ f3_; have f4_ := f1_.symm; have f5_ := f3_.symm; clear f1_ f2_ f3_; subst f4_; subst f5_))
        obtain ⟨Ao125, co125, eo125⟩ := Kd.V_slice HO_806000.out
        (first | subst eo125 | (injection eo125 with f1_ f2_ f3_; have f4_ := f1_.symm; have f5_ := f3_.symm; clear f1_ f2_ f3_; subst f4_; subst f5_))
        refine hK.out _ _ ((blk_cell BK805.out 0).trans rfl) (fun hHeld => ?_)
        clear hK K
        refine norm_ (a' := ?_) ?_ ?_
        rotate_left
        ·show Act.put _ (some 74) _ = _
         simp only [Act.put, sa, sz, ss, i64_w, i32_w]
         rfl
        refine one_ (i := 3) (N := none) #[true, true, true, true, false, false] rfl rfl (by kernel_rfl) (by decide) (fun K hK => ?_)
        have hs124 : w122.cell? ⟨gb791, 0, none⟩ = some (.slice none 0 0) := (blk_cell BK791.out 0).trans rfl
        have hfs124 := blk_frozen BK791.out 0
        have hns124_0 := NB789_791.out
        have hns124_1 := NB790_791.out
        have hns124_3 := NB792_791.out
        have hns124_4 := NB805_791.out
        have hms124_0 := NB791_789.out
        have hms124_1 := NB791_790.out
        have hms124_3 := NB791_792.out
        have hms124_4 := NB791_805.out
        refine skip_ (w1 := ?_) (by rfl) rfl ?_ ?_
        rotate_left
        ·go_simp
         rfl
        refine hK.out _ _ (((cell_far (p := ⟨gb791, _, none⟩) NB805_791.out _).trans (hHeld))) (fun hHeld => ?_)
        clear hK K
        refine one_ (i := 4) (N := none) #[true, true, true, true, true, false] rfl rfl (by kernel_rfl) (by decide) (fun K hK => ?_)
        have hs126 : w122.cell? ⟨gb792, 0, none⟩ = some (.slice none 0 0) := (blk_cell BK792.out 0).trans rfl
        have hfs126 := blk_frozen BK792.out 0
        have hns126_0 := NB789_792.out
        have hns126_1 := NB790_792.out
        have hns126_2 := NB791_792.out
        have hns126_4 := NB805_792.out
        have hms126_0 := NB792_789.out
        have hms126_1 := NB792_790.out
        have hms126_2 := NB792_791.out
        have hms126_4 := NB792_805.out
        refine skip_ (w1 := ?_) (by rfl) rfl ?_ ?_
        rotate_left
        ·go_simp
         rfl
        refine hK.out _ _ (((cell_far (p := ⟨gb792, _, none⟩) NB805_792.out _).trans (hHeld))) (fun hHeld => ?_)
        clear hK K
        refine pure_ (i := 5) (N := some 6) (v := ?_) (a' := ?_) #[true, true, true, true, true, true] rfl rfl (by kernel_rfl) (fun _ _ _ h => h) (Or.inl ⟨by rfl, ?_⟩) ?_ ?_
        rotate_left
        ·intro w'
         go_simp
         with_reducible rfl
        rotate_left
        ·simp only [Act.put, sa, sz, ss, i64_w, i32_w]
         rfl
        refine done_ (by kernel_rfl) ?_
        try go_wp2
        refine bodyPost_ret (results_list (rs := [.cell 4 26, .cell 5 26, .tmp 6]) rfl (by simp) (.cell gb791 26 #[.slice Ao123 t807.length co123] (0, 0) _ rfl (by refine blk_far ?_ NB791_792.out _; refine blk_put (cs := #[.slice none 0 0]) ?_ 0 _ rfl; exact BK791.out) Tryd.underlying26 rfl (by kernel_rfl) (.cell gb792 26 #[.slice Ao125 x806000_1.length co125] (0, 0) _ rfl (by refine blk_put (cs := #[.slice none 0 0]) ?_ 0 _ rfl; refine blk_far ?_ NB792_791.out _; exact BK792.out) Tryd.underlying26 rfl (by kernel_rfl) (.tmp .nil)))) rfl ?_
        exact ⟨_, _, by first | rfl | (simp [errW_none, errW_some] <;> rfl) | (simp [*, errW_none, errW_some] <;> rfl), by exact Kd.V_mono (Kd.V_far (p := ⟨gb792, 0, none⟩) (Kd.V_far (p := ⟨gb791, 0, none⟩) (Kd.V_mono (Kd.V_mono HO809.out (fun k_ hk => (⟨hk, hk.2.2.2.1⟩ : _ ∧ k_ ≠ gb791))) (fun k_ hk => (⟨hk, hk.1.2.2.2.2.1⟩ : _ ∧ k_ ≠ gb792))) (fun _ hk => hk.1.2) (.slice Ao123 t807.length co123)) (fun _ hk => hk.2) (.slice Ao125 x806000_1.length co125)) (fun _ hk => hk.1.1.1), by exact Kd.V_mono (Kd.V_far (p := ⟨gb792, 0, none⟩) (Kd.V_far (p := ⟨gb791, 0, none⟩) (Kd.V_mono (Kd.V_mono HO_806000.out (fun k_ hk => (⟨hk, hk.2.2.2.2.1⟩ : _ ∧ k_ ≠ gb791))) (fun k_ hk => (⟨hk, hk.1.2.2.2.2.2.1⟩ : _ ∧ k_ ≠ gb792))) (fun _ hk => hk.1.2) (.slice Ao123 t807.length co123)) (fun _ hk => hk.2) (.slice Ao125 x806000_1.length co125)) (fun _ hk => hk.1.1.1), by repeat (first | exact HB.out | refine sb ?_ GE789 | refine sb ?_ GE790 | refine sb ?_ GE791 | refine sb ?_ GE792 | refine sb ?_ GE805)⟩
    ·rw [if_neg c42] at H
     exact absurd H (by simp)
   ·rw [if_neg c41] at H
    exact absurd H (by simp)
end Go.Proofs.YtgcngbmkgjphpaaDoor.PAll
end

section
namespace Go.Proofs.YtgcngbmkgjphpaaDoor.Nums
open Go.RowKit Go.Proofs.YtgcngbmkgjphpaaDoor.PAll Go.Proofs.YtgcngbmkgjphpaaDoorW.PrintWords Go.Proofs.YtgcngbmkgjphpaaDoorW.PrintLast Go.Proofs.YtgcngbmkgjphpaaDoorW.PrintMore
set_option linter.unusedVariables false
set_option linter.unusedSimpArgs false
/-- One binary digit of a quotient. -/
theorem div_bit (x y i : Nat) (hy : 0 < y) : x / 2 ^ i / y = 2 * (x / 2 ^ (i + 1) / y) + (2 * (x / 2 ^ (i + 1) % y) + x / 2 ^ i % 2) / y ∧ x / 2 ^ i % y = (2 * (x / 2 ^ (i + 1) % y) + x / 2 ^ i % 2) % y ∧ (2 * (x / 2 ^ (i + 1) % y) + x / 2 ^ i % 2) / y < 2 := by
  have h := ldiv (b := 2) (d := y) (M := x / 2 ^ i) (by omega) hy
  rw [Nat.div_div_eq_div_mul (x / 2 ^ i) 2 y, Nat.mul_comm 2 y, ← Nat.div_div_eq_div_mul (x / 2 ^ i) y 2] at h
  have e : x / 2 ^ i / 2 = x / 2 ^ (i + 1) := by rw [Nat.div_div_eq_div_mul, ← Nat.pow_succ]
  have e2 : x / 2 ^ i / y / 2 = x / 2 ^ (i + 1) / y := by rw [Nat.div_div_eq_div_mul, Nat.mul_comm y 2, ← Nat.div_div_eq_div_mul, e]
  rw [e, e2, Nat.mul_comm _ 2] at h
  exact h
/-- Where a bit of a quotient goes. -/
theorem bit_place {w : Nat} (hw : 0 < w) (Q i : Nat) : ∃ E, Q * 2 ^ (i + 1) / (2 ^ w) ^ (i / w) % 2 ^ w = 2 ^ (i % w + 1) * E ∧ 2 ^ (i % w + 1) * E + 2 ^ (i % w) < 2 ^ w ∧ (2 ^ w) ^ (i / w) * 2 ^ (i % w) = 2 ^ i := by
  have hs := Nat.mod_lt i hw
  have e0 : (2 ^ w) ^ (i / w) * 2 ^ (i % w) = 2 ^ i := by rw [← Nat.pow_mul, ← Nat.pow_add, Nat.div_add_mod]
  have e1 : Q * 2 ^ (i + 1) = (2 ^ w) ^ (i / w) * (2 ^ (i % w + 1) * Q) := by
    rw [Nat.pow_succ, ← e0, Nat.pow_succ]
    grind
  have e2 : 2 ^ w = 2 ^ (i % w + 1) * 2 ^ (w - (i % w + 1)) := by rw [← Nat.pow_add]; congr 1; omega
  refine ⟨Q % 2 ^ (w - (i % w + 1)), ?_, ?_, e0⟩
  · rw [e1, Nat.mul_div_cancel_left _ (Nat.pow_pos (Nat.pow_pos (by omega)))]
    conv => lhs; rw [e2, Nat.mul_mod_mul_left]
  · have h1 : Q % 2 ^ (w - (i % w + 1)) + 1 ≤ 2 ^ (w - (i % w + 1)) := Nat.mod_lt _ (Nat.pow_pos (by omega))
    have h2 := Nat.mul_le_mul_left (2 ^ (i % w + 1)) h1
    rw [← e2, Nat.mul_add, Nat.mul_one] at h2
    have h3 : 2 ^ (i % w) < 2 ^ (i % w + 1) := Nat.pow_lt_pow_right (by omega) (by omega)
    omega
theorem shl32_one (s : Nat) (hs : s < 32) : shl .u32 1 (s : Int) = ((2 ^ s : Nat) : Int) := by
  have h1 : 2 ^ s ≤ 2 ^ 31 := Nat.pow_le_pow_right (by omega) (by omega)
  have h2 : (2 : Nat) ^ 31 = 2147483648 := rfl
  unfold shl
  rw [Int.toNat_natCast, Nat.min_eq_left (show s ≤ IntKind.u32.bits by show s ≤ 32; omega), Int.one_mul]
  have e : (2 : Int) ^ s = ((2 ^ s : Nat) : Int) := by rw [Int.natCast_pow]; rfl
  have e3 : ∀ x : Int, IntKind.u32.wrap x = x % 4294967296 := fun _ => rfl
  rw [e, e3]
  generalize 2 ^ s = P at *
  omega
/-- The digit of a quotient is set. -/
theorem set_bit (L Q i : Nat) (hi : i / 32 < L) : (dn 4294967296 L (Q * 2 ^ (i + 1))).set (i / 32) (Go.bits .or .u32 (rd (dn 4294967296 L (Q * 2 ^ (i + 1))) ((i / 32 : Nat) : Int)) (shl .u32 1 ((i % 32 : Nat) : Int))) = dn 4294967296 L ((2 * Q + 1) * 2 ^ i) := by
  obtain ⟨E, h1, h2, h3⟩ := bit_place (w := 32) (by omega) Q i
  rw [show (2 : Nat) ^ 32 = 4294967296 from rfl] at h1 h2 h3
  have hs := Nat.mod_lt i (show 0 < 32 by omega)
  have hlt : 2 ^ (i % 32) < 2 ^ (i % 32 + 1) := Nat.pow_lt_pow_right (by omega) (by omega)
  rw [rd_dn hi, h1, shl32_one _ hs, or32 hlt h2]
  have hset := dn_set (b := 4294967296) (by omega) (i / 32) L (Q * 2 ^ (i + 1)) (2 ^ (i % 32)) hi (by rw [h1]; exact h2)
  rw [h1] at hset
  rw [hset, h3]
  congr 1
  rw [Nat.pow_succ, Nat.add_mul, Nat.one_mul]
  grind
theorem doubled_ev (n a : Nat) (ha : a < 4294967296) (hsz : (dgs 4294967296 n).length ≤ 35184372088832) : Ev (fun k => nat_Nat_doubled.f k (dgs 4294967296 n) (a : Int)) (dgs 4294967296 (2 * n + a)) :=
  (times_ev (n := n) (m := 2) (a := a) (by omega) ha hsz).bind (f := fun _ t786 => some t786) (Ev.now _)
theorem div_loop (x y L : Nat) (hy : 0 < y) (hL : (dgs 4294967296 x).length = L) (hLs : L ≤ 100000) (hyl : (dgs 4294967296 y).length ≤ 100000) : ∀ i : Nat, i ≤ 32 * L → Ev (fun k => nat_Nat_Div.l0 k (dn 4294967296 L (x / 2 ^ i / y * 2 ^ i)) ((i : Int) - 1) (dgs 4294967296 x) (dgs 4294967296 y) (dgs 4294967296 (x / 2 ^ i % y))) (dgs 4294967296 (x / y), dgs 4294967296 (x % y), 0) := by
  intro i
  induction i with
  | zero =>
    intro _
    have hv : x / y < 4294967296 ^ L := by
      have : x < 4294967296 ^ (dgs 4294967296 x).length := lt_pow_len (by omega)
      rw [hL] at this
      exact Nat.lt_of_le_of_lt (Nat.div_le_self _ _) this
    refine Ev.step (fun k => ?_) ((cut_dn (L := L) (by omega) hv).bind (f := fun _ t807 => some (t807, dgs 4294967296 (x % y), (0 : Int))) (Ev.now _))
    rw [nat_Nat_Div.l0, if_neg (by omega)]
    simp only [Nat.pow_zero, Nat.div_one, Nat.mul_one]
  | succ i ih =>
    intro hi
    have ihh := ih (by omega)
    obtain ⟨d1, d2, d3⟩ := div_bit x y i hy
    have hb : x / 2 ^ i % 2 < 2 := Nat.mod_lt _ (by omega)
    have hr : x / 2 ^ (i + 1) % y < y := Nat.mod_lt _ hy
    have hbit := bit_some x (i : Int) (by omega) (by omega)
    unfold bitV at hbit
    rw [if_neg (by omega), Int.toNat_natCast] at hbit
    generalize x / 2 ^ i % 2 = b at *
    generalize hR : x / 2 ^ (i + 1) % y = R at *
    generalize hQ : x / 2 ^ (i + 1) / y = Q at *
    have lR : (dgs 4294967296 R).length ≤ (dgs 4294967296 y).length := (dgs_len_le (by omega)).mpr (Nat.lt_trans hr (lt_pow_len (by omega)))
    have hdbl := doubled_ev R b (by omega) (by omega)
    have lD : (dgs 4294967296 (2 * R + b)).length ≤ (dgs 4294967296 y).length + 1 := by
      rw [dgs_len_le (by omega), Nat.pow_succ]
      have : y < 4294967296 ^ (dgs 4294967296 y).length := lt_pow_len (by omega)
      omega
    have hcmp := cmp_ev (2 * R + b) y (by omega) (by omega)
    have c1 : ((i + 1 : Nat) : Int) - 1 ≥ 0 := by omega
    have c2 : ((i + 1 : Nat) : Int) - 1 = (i : Int) := by omega
    have c3 : ((b : Nat) : Int) % 4294967296 = (b : Int) := by omega
    have hnext : wrap64 ((i : Int) - 1) = (i : Int) - 1 := wrap_in (by omega) (by omega)
    by_cases g : y ≤ 2 * R + b
    · have hq1 : (2 * R + b) / y = 1 := by
        have := Nat.div_pos g hy
        omega
      have hrem : (2 * R + b) % y = 2 * R + b - y := by
        have := Nat.div_add_mod (2 * R + b) y
        rw [hq1, Nat.mul_one] at this
        omega
      rw [hq1] at d1
      rw [hrem] at d2
      rw [d1, d2] at ihh
      have hsub := sub_ev (x := 2 * R + b) (y := y) g (by omega)
      have hc : cmpV (2 * R + b) y ≥ 0 := by
        rcases Nat.lt_or_ge y (2 * R + b) with g2 | g2
        · rw [cmpV_gt g2]; omega
        · rw [show 2 * R + b = y by omega, cmpV_eq]; omega
      have hidx : i / 32 < L := by omega
      have hset := set_bit L Q i hidx
      have k0 : i < 9223372036854775808 := by omega
      have c4 : (0 : Int) ≤ ((i / 32 : Nat) : Int) := by omega
      have c5 : ((i / 32 : Nat) : Int) < (L : Int) := by omega
      have c6 : (0 : Int) ≤ ((i % 32 : Nat) : Int) := by omega
      have e0 := tdiv32 i k0
      have e1 := tmod32 i
      have q1 := hsub.bind (f := fun k bt815 => (if 0 ≤ (wrap64 (Int.tdiv (i : Int) 32)) then (if (wrap64 (Int.tdiv (i : Int) 32)) < ((dn 4294967296 L (Q * 2 ^ (i + 1))).length : Int) then (if 0 ≤ (Int.tmod (i : Int) 32) then (nat_Nat_Div.l0 k ((dn 4294967296 L (Q * 2 ^ (i + 1))).set ((wrap64 (Int.tdiv (i : Int) 32)) : Int).toNat (Go.bits .or .u32 (rd (dn 4294967296 L (Q * 2 ^ (i + 1))) (wrap64 (Int.tdiv (i : Int) 32))) (shl .u32 1 (Int.tmod (i : Int) 32)))) (wrap64 ((i : Int) - 1)) (dgs 4294967296 x) (dgs 4294967296 y) bt815.1) else (none)) else (none)) else (none))) (r := (dgs 4294967296 (x / y), dgs 4294967296 (x % y), 0)) (Ev.congr (fun k => by rw [e0, e1, if_pos c4, dn_length, if_pos c5, if_pos c6, Int.toNat_natCast, hset, hnext]) ihh)
      have q2 := hcmp.bind (f := fun k t814 => (if t814 ≥ 0 then ((nat_Nat_Sub.f k (dgs 4294967296 (2 * R + b)) (dgs 4294967296 y)).bind fun bt815 => (if 0 ≤ (wrap64 (Int.tdiv (i : Int) 32)) then (if (wrap64 (Int.tdiv (i : Int) 32)) < ((dn 4294967296 L (Q * 2 ^ (i + 1))).length : Int) then (if 0 ≤ (Int.tmod (i : Int) 32) then (nat_Nat_Div.l0 k ((dn 4294967296 L (Q * 2 ^ (i + 1))).set ((wrap64 (Int.tdiv (i : Int) 32)) : Int).toNat (Go.bits .or .u32 (rd (dn 4294967296 L (Q * 2 ^ (i + 1))) (wrap64 (Int.tdiv (i : Int) 32))) (shl .u32 1 (Int.tmod (i : Int) 32)))) (wrap64 ((i : Int) - 1)) (dgs 4294967296 x) (dgs 4294967296 y) bt815.1) else (none)) else (none)) else (none))) else (nat_Nat_Div.l0 k (dn 4294967296 L (Q * 2 ^ (i + 1))) ((i : Int) - 1) (dgs 4294967296 x) (dgs 4294967296 y) (dgs 4294967296 (2 * R + b))))) (r := (dgs 4294967296 (x / y), dgs 4294967296 (x % y), 0)) (Ev.congr (fun k => by rw [if_pos hc]) q1)
      have q3 := hdbl.bind (f := fun k t811 => ((nat_Nat_Compare.f k t811 (dgs 4294967296 y)).bind fun t814 => (if t814 ≥ 0 then ((nat_Nat_Sub.f k t811 (dgs 4294967296 y)).bind fun bt815 => (if 0 ≤ (wrap64 (Int.tdiv (i : Int) 32)) then (if (wrap64 (Int.tdiv (i : Int) 32)) < ((dn 4294967296 L (Q * 2 ^ (i + 1))).length : Int) then (if 0 ≤ (Int.tmod (i : Int) 32) then (nat_Nat_Div.l0 k ((dn 4294967296 L (Q * 2 ^ (i + 1))).set ((wrap64 (Int.tdiv (i : Int) 32)) : Int).toNat (Go.bits .or .u32 (rd (dn 4294967296 L (Q * 2 ^ (i + 1))) (wrap64 (Int.tdiv (i : Int) 32))) (shl .u32 1 (Int.tmod (i : Int) 32)))) (wrap64 ((i : Int) - 1)) (dgs 4294967296 x) (dgs 4294967296 y) bt815.1) else (none)) else (none)) else (none))) else (nat_Nat_Div.l0 k (dn 4294967296 L (Q * 2 ^ (i + 1))) ((i : Int) - 1) (dgs 4294967296 x) (dgs 4294967296 y) t811)))) q2
      refine Ev.step (fun k => ?_) q3
      rw [nat_Nat_Div.l0, if_pos c1, c2, hbit, Option.bind_some, c3, hnext]
    · have hq0 : (2 * R + b) / y = 0 := Nat.div_eq_of_lt (by omega)
      have hrem : (2 * R + b) % y = 2 * R + b := Nat.mod_eq_of_lt (by omega)
      rw [hq0, Nat.add_zero] at d1
      rw [hrem] at d2
      rw [d1, d2, show 2 * Q * 2 ^ i = Q * 2 ^ (i + 1) by rw [Nat.pow_succ]; grind] at ihh
      have hc : ¬ cmpV (2 * R + b) y ≥ 0 := by rw [cmpV_lt (by omega)]; omega
      have k0 : i < 9223372036854775808 := by omega
      have q2 : ∀ F : Nat → Option (List Int × List Int × Int), Ev (fun k => (nat_Nat_Compare.f k (dgs 4294967296 (2 * R + b)) (dgs 4294967296 y)).bind fun t814 => (if t814 ≥ 0 then F k else (nat_Nat_Div.l0 k (dn 4294967296 L (Q * 2 ^ (i + 1))) ((i : Int) - 1) (dgs 4294967296 x) (dgs 4294967296 y) (dgs 4294967296 (2 * R + b))))) (dgs 4294967296 (x / y), dgs 4294967296 (x % y), 0) := fun F =>
        hcmp.bind (f := fun k t814 => (if t814 ≥ 0 then F k else (nat_Nat_Div.l0 k (dn 4294967296 L (Q * 2 ^ (i + 1))) ((i : Int) - 1) (dgs 4294967296 x) (dgs 4294967296 y) (dgs 4294967296 (2 * R + b))))) (r := (dgs 4294967296 (x / y), dgs 4294967296 (x % y), 0)) (Ev.congr (fun k => by rw [if_neg hc]) ihh)
      have q3 : Ev (fun k => nat_Nat_Div.l0 (k + 1) (dn 4294967296 L (Q * 2 ^ (i + 1))) (i : Int) (dgs 4294967296 x) (dgs 4294967296 y) (dgs 4294967296 R)) (dgs 4294967296 (x / y), dgs 4294967296 (x % y), 0) := by
        have qq := fun (F : Nat → List Int → Option (List Int × List Int × Int)) => hdbl.bind (f := fun k t811 => ((nat_Nat_Compare.f k t811 (dgs 4294967296 y)).bind fun t814 => (if t814 ≥ 0 then F k t811 else (nat_Nat_Div.l0 k (dn 4294967296 L (Q * 2 ^ (i + 1))) ((i : Int) - 1) (dgs 4294967296 x) (dgs 4294967296 y) t811)))) (q2 (fun k => F k (dgs 4294967296 (2 * R + b))))
        refine Ev.congr (fun k => ?_) (qq (fun k t811 => ((nat_Nat_Sub.f k t811 (dgs 4294967296 y)).bind fun bt815 => (if 0 ≤ (wrap64 (Int.tdiv (i : Int) 32)) then (if (wrap64 (Int.tdiv (i : Int) 32)) < ((dn 4294967296 L (Q * 2 ^ (i + 1))).length : Int) then (if 0 ≤ (Int.tmod (i : Int) 32) then (nat_Nat_Div.l0 k ((dn 4294967296 L (Q * 2 ^ (i + 1))).set ((wrap64 (Int.tdiv (i : Int) 32)) : Int).toNat (Go.bits .or .u32 (rd (dn 4294967296 L (Q * 2 ^ (i + 1))) (wrap64 (Int.tdiv (i : Int) 32))) (shl .u32 1 (Int.tmod (i : Int) 32)))) (wrap64 ((i : Int) - 1)) (dgs 4294967296 x) (dgs 4294967296 y) bt815.1) else (none)) else (none)) else (none)))))
        rw [nat_Nat_Div.l0, if_pos (by omega), hbit, Option.bind_some, c3, hnext]
      refine Ev.step (f := fun k => nat_Nat_Div.l0 (k + 1) (dn 4294967296 L (Q * 2 ^ (i + 1))) (i : Int) (dgs 4294967296 x) (dgs 4294967296 y) (dgs 4294967296 R)) (fun k => ?_) q3
      rw [c2]
theorem div_ev {x y : Nat} (hx : (dgs 4294967296 x).length ≤ 100000) (hyl : (dgs 4294967296 y).length ≤ 100000) (hy : y ≠ 0) : Ev (fun k => nat_Nat_Div.f k (dgs 4294967296 x) (dgs 4294967296 y)) (dgs 4294967296 (x / y), dgs 4294967296 (x % y), 0) := by
  have h0 := dgs_len_pos (b := 4294967296) (n := y) (by omega) hy
  by_cases c : (dgs 4294967296 y).length = 1
  · have hyB : y < 4294967296 := by
      have := (dgs_len_le (b := 4294967296) (n := y) (k := 1) (by omega)).mp (by omega)
      omega
    have hr := rd_dgs (b := 4294967296) (n := y) (by omega) 0
    rw [Nat.pow_zero, Nat.div_one, Nat.mod_eq_of_lt hyB] at hr
    have hm : x % y < y := Nat.mod_lt _ (by omega)
    have q0 := (of_ev (x % y) (by omega)).bind (f := fun _ t799 => some (dgs 4294967296 (x / y), t799, (0 : Int))) (Ev.now _)
    have hu : IntKind.u64.wrap (((x % y : Nat) : Int)) = ((x % y : Nat) : Int) := u64_in (by omega) (by omega)
    have q1 := (by_ev (n := x) (d := y) (by omega) hyB (by omega)).bind (f := fun k bt794 => ((nat_of.f k (IntKind.u64.wrap (bt794.2))).bind fun t799 => (some (bt794.1, t799, (0 : Int))))) (r := (dgs 4294967296 (x / y), dgs 4294967296 (x % y), 0)) (Ev.congr (fun k => by rw [hu]) q0)
    have c1 : ¬ ((dgs 4294967296 y).length : Int) = 0 := by omega
    have c2 : ((dgs 4294967296 y).length : Int) = 1 := by omega
    have c3 : (0 : Int) < ((dgs 4294967296 y).length : Int) := by omega
    have hr2 : rd (dgs 4294967296 y) 0 = (y : Int) := hr
    refine Ev.congr (fun k => ?_) q1
    unfold nat_Nat_Div.f
    rw [if_neg c1, if_pos c2, if_pos c3, hr2]
  · have hb := bits_some (n := x) (by omega)
    have hbl : bl x ≤ 32 * (dgs 4294967296 x).length := by
      have : x < 4294967296 ^ (dgs 4294967296 x).length := lt_pow_len (by omega)
      rw [show (4294967296 : Nat) = 2 ^ 32 from rfl, ← Nat.pow_mul] at this
      exact bl_le.mpr this
    have h := div_loop x y (dgs 4294967296 x).length (by omega) rfl hx hyl (bl x) hbl
    rw [Nat.div_eq_of_lt (bl_le.mp (Nat.le_refl (bl x))), Nat.zero_div, Nat.zero_mul, Nat.zero_mod, dgs_zero] at h
    have c1 : ¬ ((dgs 4294967296 y).length : Int) = 0 := by omega
    have c2 : ¬ ((dgs 4294967296 y).length : Int) = 1 := by omega
    have c3 : (0 : Int) ≤ ((dgs 4294967296 x).length : Int) := by omega
    have c4 : ((dgs 4294967296 x).length : Int).toNat ≤ 70368744177664 := by omega
    have c5 : -9223372036854775808 ≤ ((bl x : Nat) : Int) - 1 := by omega
    have c6 : ((bl x : Nat) : Int) - 1 ≤ 9223372036854775807 := by omega
    refine Ev.congr (fun k => ?_) h
    unfold nat_Nat_Div.f
    rw [if_neg c1, if_neg c2, if_pos c3, if_pos c4, hb, Option.bind_some, wrap_in c5 c6, rep_dn 4294967296 (dgs 4294967296 x).length _ rfl]
end Go.Proofs.YtgcngbmkgjphpaaDoor.Nums
end

section
namespace Go.Proofs.YtgcngbmkgjphpaaDoor.Nums
open Go.RowKit Go.Proofs.YtgcngbmkgjphpaaDoor.PAll Go.Proofs.YtgcngbmkgjphpaaDoorW.PrintWords Go.Proofs.YtgcngbmkgjphpaaDoorW.PrintLast Go.Proofs.YtgcngbmkgjphpaaDoorW.PrintMore
set_option linter.unusedVariables false
set_option linter.unusedSimpArgs false
/-- What a number comes to that may be too big. -/
def Res (n w : Nat) (e : Int) : Prop := (bl n ≤ 65536 ∧ w = n ∧ e = 0) ∨ (¬ bl n ≤ 65536 ∧ w = 0 ∧ e = 41)
theorem Res.same {n w w' : Nat} {e e' : Int} (h : Res n w e) (h' : Res n w' e') : w = w' ∧ e = e' := by
  rcases h with ⟨a, b, c⟩ | ⟨a, b, c⟩ <;> rcases h' with ⟨a', b', c'⟩ | ⟨a', b', c'⟩
  · exact ⟨by omega, by omega⟩
  · exact absurd a a'
  · exact absurd a' a
  · exact ⟨by omega, by omega⟩
theorem Res.small {n w : Nat} {e : Int} (h : Res n w e) : bl w ≤ 65536 := by
  rcases h with ⟨a, b, _⟩ | ⟨_, b, _⟩
  · rw [b]; exact a
  · rw [b, bl_zero]; omega
theorem Res.ok {n w : Nat} {e : Int} (h : Res n w e) (he : e = 0) : bl n ≤ 65536 ∧ w = n := by
  rcases h with ⟨a, b, _⟩ | ⟨_, _, c⟩
  · exact ⟨a, b⟩
  · omega
theorem cmp_same (n : Nat) (h : bl n ≤ 65536) : Ev (fun k => nat_Nat_Compare.f k (dgs 4294967296 n) (dgs 4294967296 n)) 0 := by
  have l := pd_len (n := n) (k := 2048) (by omega)
  have := cmp_ev n n (by omega) (by omega)
  rwa [cmpV_eq] at this
/-- A number that a law is handed, whether it fits or not. -/
theorem given_any (l : List Int) (hd : Dg ((4294967296 : Nat) : Int) l) (hl : l.length ≤ 1048576) : ∃ (m : List Int) (u : Nat) (p : Bool), bl u ≤ 65536 ∧ Ev (fun k => heraldlaw04_given.f k l) (m, dgs 4294967296 u, p, true) := by
  obtain ⟨v, hv⟩ := words_val l hd
  by_cases g : bl v ≤ 65536
  · exact ⟨_, v, _, g, given_fit l v hd hl hv g⟩
  · refine ⟨dgs 65536 v, 0, false, by rw [bl_zero]; omega, ?_⟩
    rw [dgs_zero 4294967296]; exact given_big l v hd hl hv g
end Go.Proofs.YtgcngbmkgjphpaaDoor.Nums
end
