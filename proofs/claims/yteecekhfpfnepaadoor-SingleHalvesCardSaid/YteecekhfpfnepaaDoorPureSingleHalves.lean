/- The plain law of SingleHalves. -/
import Derived.Test.YteecekhfpfnepaaDoorPAllx17
import Derived.Test.YteecekhfpfnepaaDoorSgAwake
import Derived.Test.YteecekhfpfnepaaDoorSgHalves
namespace Go.Proofs.YteecekhfpfnepaaDoor.Pure
open Go.RowKit Go.Proofs.YteecekhfpfnepaaDoor.PAll Go.Proofs.YteecekhfpfnepaaDoor.Sg Go.Proofs.YteecekhfpfnepaaDoorW.PrintWords Go.Proofs.YteecekhfpfnepaaDoorW.PrintLast
set_option linter.unusedVariables false

theorem brain_round (n B : Nat) (hB : (B : Int) = (n : Int) * 65536) (hn : n < 65536) : (((B : Int) + 32767) % 4294967296 + ((n % 2 : Nat) : Int)) % 4294967296 / 65536 = (n : Int) := by
  obtain ⟨b, hb⟩ : ∃ b, n % 2 = b := ⟨_, rfl⟩
  have hb1 : b ≤ 1 := by omega
  rw [hb]
  clear hb
  have e1 : ((n : Int) * 65536 + 32767) % 4294967296 = (n : Int) * 65536 + 32767 := Int.emod_eq_of_lt (by omega) (by omega)
  have e2 : ((n : Int) * 65536 + 32767 + (b : Int)) % 4294967296 = (n : Int) * 65536 + 32767 + (b : Int) := Int.emod_eq_of_lt (by omega) (by omega)
  rw [hB, e1, e2]
  omega
theorem brain_nan : single_Brain.f 2143289344 = some 32704 := by decide +kernel
theorem brain_kind (n B G K : Nat) (hB : (B : Int) = (n : Int) * 65536) (hn : n < 65536) (hG : n / 128 % 256 = G) (hK : n % 128 = K) : (partsV (B : Int)).1 = if G = 255 ∧ 0 < K then 2 else if G = 255 then 1 else 0 := by
  have hr : rawV (B : Int) = if ((G : Nat) : Int) = 255 then (if (K : Int) * 65536 = 0 then (1, decide (2147483648 ≤ (B : Int)), 0, 0) else (2, false, 0, 0)) else if ((G : Nat) : Int) = 0 then (0, decide (2147483648 ≤ (B : Int)), (K : Int) * 65536, -149) else (0, decide (2147483648 ≤ (B : Int)), 8388608 + (K : Int) * 65536, ((G : Nat) : Int) - 150) := by
    unfold rawV
    rw [show (B : Int) / 8388608 % 256 = (G : Int) from by omega, show (B : Int) % 8388608 = (K : Int) * 65536 from by omega]
  by_cases c1 : G = 255
  · by_cases c2 : 0 < K
    · rw [if_pos (by omega), if_neg (by omega)] at hr
      rw [partsV_of hr, if_pos rfl, if_pos ⟨c1, c2⟩]
    · rw [if_pos (by omega), if_pos (by omega)] at hr
      rw [partsV_of hr, if_pos rfl, if_neg (fun h => c2 h.2), if_pos c1]
  · rw [if_neg (fun h => c1 h.1), if_neg c1]
    by_cases c3 : G = 0
    · rw [if_neg (by omega), if_pos (by omega)] at hr
      rw [partsV_of hr]
      split <;> rfl
    · rw [if_neg (by omega), if_neg (by omega)] at hr
      rw [partsV_of hr]
      split <;> rfl
theorem kind_two (G K : Nat) (c : ¬ (G = 255 ∧ 0 < K)) : ¬ ((if G = 255 ∧ 0 < K then (2 : Int) else if G = 255 then 1 else 0) = 2) := by
  rw [if_neg c]
  split <;> decide
theorem frombrain_some (n B G K : Nat) (hB : (B : Int) = (n : Int) * 65536) (hn : n < 65536) (hG : n / 128 % 256 = G) (hK : n % 128 = K) : single_FromBrain.f (n : Int) = some (if G = 255 ∧ 0 < K then 2143289344 else (B : Int)) := by
  have hkind := brain_kind n B G K hB hn hG hK
  unfold single_FromBrain.f
  rw [show (n : Int) % 4294967296 * 65536 % 4294967296 = (B : Int) from by omega, parts_some _ (by omega) (by omega)]
  simp only [Option.bind_some, hkind]
  by_cases c : G = 255 ∧ 0 < K
  · rw [if_pos c, if_pos c, if_pos rfl]
  · rw [if_neg (kind_two G K c), if_neg c]
theorem brain_back (n B G K : Nat) (hB : (B : Int) = (n : Int) * 65536) (hn : n < 65536) (hG : n / 128 % 256 = G) (hK : n % 128 = K) (v : Int) (hv : v = (if G = 255 ∧ 0 < K then 2143289344 else (B : Int))) : single_Brain.f v = some (if G = 255 ∧ 0 < K then 32704 else (n : Int)) := by
  have hkind := brain_kind n B G K hB hn hG hK
  by_cases c : G = 255 ∧ 0 < K
  · rw [if_pos c] at hv ⊢
    rw [hv]
    exact brain_nan
  · rw [if_neg c] at hv ⊢
    rw [hv]
    unfold single_Brain.f
    rw [parts_some _ (by omega) (by omega)]
    simp only [Option.bind_some, hkind]
    rw [if_neg (kind_two G K c)]
    have ho : bits .and .u32 ((B : Int) / 65536) 1 = ((n % 2 : Nat) : Int) := by
      rw [show (B : Int) / 65536 = (n : Int) from by omega, show (1 : Int) = ((1 : Nat) : Int) from rfl, and32 _ _ (by omega) (by omega), Nat.and_one_is_mod]
    rw [ho]
    exact congrArg some (brain_round n B hB hn)
theorem half_sum (n E F : Nat) (s : Bool) (hE : n / 1024 % 32 = E) (hF : n % 1024 = F) (hn : n < 65536) (hs : decide (32768 ≤ n) = s) : sgnH s + (E : Int) * 1024 + F = (n : Int) := by
  rw [← hs]
  by_cases c : 32768 ≤ n
  · rw [decide_eq_true c]; show (32768 : Int) + _ + _ = _; omega
  · rw [decide_eq_false c]; show (0 : Int) + _ + _ = _; omega
theorem halves_end (k : Nat) (E F G K : Nat) (n : Int) (ha : heraldlaw03_awake.f k = some true) (t3 : Int.tmod (IntKind.u16.wrap (Int.tdiv n 128)) 256 = (G : Int)) (t4 : Int.tmod n 128 = (K : Int)) :
    (if (E : Int) = 31 then heraldlaw03_SingleHalves.j0 (k + 1) n (if E = 31 ∧ F ≠ 0 then 32256 else n) (if G = 255 ∧ 0 < K then 32704 else n) n n (decide ((F : Int) > 0)) else heraldlaw03_SingleHalves.j0 (k + 1) n (if E = 31 ∧ F ≠ 0 then 32256 else n) (if G = 255 ∧ 0 < K then 32704 else n) n n false) = some true := by
  have j1 : ((E : Int) = 31) = (E = 31) := propext ⟨fun h => by omega, fun h => by omega⟩
  have j2 : decide ((F : Int) > 0) = decide (F ≠ 0) := by
    by_cases c : F = 0
    · subst c; rfl
    · rw [decide_eq_true (by omega), decide_eq_true c]
  have j3 : ((G : Int) = 255) = (G = 255) := propext ⟨fun h => by omega, fun h => by omega⟩
  have j4 : ((K : Int) > 0) = (0 < K) := propext ⟨fun h => by omega, fun h => by omega⟩
  simp only [heraldlaw03_SingleHalves.j0, t3, t4, ha, Option.bind_some, if_true, j1, j2, j3, j4]
  clear t3 t4 j1 j2 j3 j4
  by_cases c1 : E = 31 <;> by_cases c2 : F = 0 <;> by_cases c3 : G = 255 <;> by_cases c4 : 0 < K <;> simp [c1, c2, c3, c4]
theorem halves_glue (f1 : Option Int) (f2 : Int → Option Int) (f3 : Option Int) (f4 : Int → Option Int) (v1 v2 v3 v4 : Int) (g : Int → Int → Option Bool) (h1 : f1 = some v1) (h2 : f2 v1 = some v2) (h3 : f3 = some v3) (h4 : f4 v3 = some v4) (h : g v2 v4 = some true) :
    (f1.bind fun a => (f2 a).bind fun b => f3.bind fun c => (f4 c).bind fun d => g b d) = some true := by
  subst h1; subst h3
  simp only [Option.bind_some, h2, h4, h]
theorem SingleHalves : heraldlaw03_SingleHalves.Pure := by
  intro a0 w0
  obtain ⟨h0, h1⟩ : 0 ≤ a0 ∧ a0 ≤ 65535 := (Lit.wf_int_iff _ _).1 w0
  obtain ⟨n, rfl⟩ := Int.eq_ofNat_of_zero_le h0
  have hn : n < 65536 := by omega
  obtain ⟨k, hk⟩ : ∃ k, k = 100 := ⟨_, rfl⟩
  refine ⟨k + 1, ?_⟩
  have ha := awake_some k (by omega)
  obtain ⟨E, hE⟩ : ∃ E, n / 1024 % 32 = E := ⟨_, rfl⟩
  obtain ⟨F, hF⟩ : ∃ F, n % 1024 = F := ⟨_, rfl⟩
  obtain ⟨G, hG⟩ : ∃ G, n / 128 % 256 = G := ⟨_, rfl⟩
  obtain ⟨K, hK⟩ : ∃ K, n % 128 = K := ⟨_, rfl⟩
  obtain ⟨s, hs⟩ : ∃ s, decide (32768 ≤ n) = s := ⟨_, rfl⟩
  obtain ⟨B, hB⟩ : ∃ B : Nat, (B : Int) = (n : Int) * 65536 := ⟨((n : Int) * 65536).toNat, by omega⟩
  have hf := from_some n hn s E F hE hF hs (k + 1) (by omega)
  have hb := there_back s E F (by omega) (by omega) (k + 1) (by omega)
  rw [half_sum n E F s hE hF hn hs] at hb
  have hfb := frombrain_some n B G K hB hn hG hK
  have hb2 := brain_back n B G K hB hn hG hK _ rfl
  have t1 : Int.tmod (IntKind.u16.wrap (Int.tdiv (n : Int) 1024)) 32 = (E : Int) := by
    rw [Int.tdiv_eq_ediv_of_nonneg (by omega), u16_in (by omega) (by omega), Int.tmod_eq_emod_of_nonneg (by omega)]; omega
  have t2 : Int.tmod (n : Int) 1024 = (F : Int) := by rw [Int.tmod_eq_emod_of_nonneg (by omega)]; omega
  have t3 : Int.tmod (IntKind.u16.wrap (Int.tdiv (n : Int) 128)) 256 = (G : Int) := by
    rw [Int.tdiv_eq_ediv_of_nonneg (by omega), u16_in (by omega) (by omega), Int.tmod_eq_emod_of_nonneg (by omega)]; omega
  have t4 : Int.tmod (n : Int) 128 = (K : Int) := by rw [Int.tmod_eq_emod_of_nonneg (by omega)]; omega
  have e0 : heraldlaw03_SingleHalves.f (k + 1) (n : Int) = (single_FromHalf.f (k + 1) (n : Int)).bind fun t178 => ((single_Half.f (k + 1) t178).bind fun t179 => ((single_FromBrain.f (n : Int)).bind fun t180 => ((single_Brain.f t180).bind fun t181 => (if (Int.tmod (IntKind.u16.wrap (Int.tdiv (n : Int) 1024)) 32) = 31 then (heraldlaw03_SingleHalves.j0 (k + 1) (n : Int) t179 t181 (n : Int) (n : Int) (decide ((Int.tmod (n : Int) 1024) > 0))) else (heraldlaw03_SingleHalves.j0 (k + 1) (n : Int) t179 t181 (n : Int) (n : Int) false))))) := rfl
  rw [e0, t1, t2]
  clear e0
  exact halves_glue _ _ _ _ _ _ _ _ _ hf hb hfb hb2 (halves_end k E F G K (n : Int) ha t3 t4)
end Go.Proofs.YteecekhfpfnepaaDoor.Pure
