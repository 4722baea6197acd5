/- By hand: the law that what was made is drawn. -/
import Derived.Test.YtljlpkadjngpoaaTpTwo
import Derived.Test.YtljlpkadjngpoaaTpMakes
import Derived.Test.YtljlpkadjngpoaaEvBack
namespace Go.Proofs.Ytljlpkadjngpoaa.PAll
open Go.RowKit Go.Proofs.Ytljlpkadjngpoaa.Math Go.Proofs.YtljlpkadjngpoaaW.PrintWords Go.Proofs.YtljlpkadjngpoaaW.PrintLast Go.Proofs.YtljlpkadjngpoaaW.PrintMore
set_option linter.unusedVariables false
set_option linter.unusedSimpArgs false

theorem tapeDraws_yes (b n : Int) (hb : IsBits b) (h0 : 0 ≤ n) (h1 : n ≤ 4294967296) : tape_Draws.f b n = some (8 * n / b, 0) := by
  unfold tape_Draws.f
  have hne : b ≠ 0 := by unfold IsBits at hb; omega
  rw [isBits_some, decide_eq_true hb]
  simp only [Option.bind_some, if_true]
  rw [if_neg (by omega), if_neg (by omega), if_neg hne, Math.wrap_in (a := 8 * n) (by omega) (by omega), Int.tdiv_eq_ediv_of_nonneg (by omega), Math.wrap_in ?_ ?_]
  · unfold IsBits at hb; rcases hb with rfl | rfl | rfl | rfl | rfl | rfl <;> omega
  · unfold IsBits at hb; rcases hb with rfl | rfl | rfl | rfl | rfl | rfl <;> omega
theorem new_big (b n : Int) (s : ByteArray) (w : World) (hb : IsBits b) (hn : 8 * (s.size : Int) / b = n) (hs : (s.size : Int) ≤ 281474976710656) : Calls Try.prog 11 #[.int .i64 b, .string s] w fun e w' =>
    e = .returned (.tuple #[.pointer (some ⟨w.heap.size, 0, none⟩), .int .i64 0]) ∧ Step w w' w.heap.size b 0 n s := by
  refine (new_ok b s w hb hs).mono ?_
  rintro e w' ⟨m, rfl, rfl⟩
  rw [hn]
  refine ⟨rfl, ⟨isTape_new w b n s m, ?_, ?_⟩⟩
  · intro g' b' u' n' s' hg' ht
    have hlt : g' < w.heap.size := blk_lt ht
    exact ((pw_below_drewN (below_alloc (Below.refl w.heap.size w) _) m).block g' hlt).trans ht
  · intro N w0 hN hB
    exact pw_below_drewN (below_then hB hN (below_alloc (Below.refl w.heap.size w) _)) m

set_option maxRecDepth 20000 in
set_option maxHeartbeats 3200000 in
/-- Where nothing is made. -/
theorem back_no (b : Int) (A : Option Addr) (c : Nat) (l : List Int) (t : ByteArray) (w : World) (hr : Kd.C (Kd.int .i64) w A l.length l) (hc : l.length ≤ c) (k : Nat) (e : Int) (he : e ≠ 0)
    (h1 : tape_Make.f k b l = some (⟨#[]⟩, e)) (h2 : heraldref23_Make.f k b l = some (⟨#[]⟩, e)) :
    Calls Try.prog 9 #[.int .i64 b, .slice A l.length c, .string t] w fun e w' => e = .returned (.bool true) ∧ Below w.heap.size w w' := by
  have HR := Aside0.mk hr
  have H1 := Aside0.mk h1
  have H2 := Aside0.mk h2
  have he0 : (e == 0) = false := beq_eq_false_iff_ne.mpr he
  clear hr h1 h2
  go_enter Try.func9, Try.ntmps9
  go_wp2_with (first | (go_at_call 22; (with_reducible refine (tape_Make.calls k b A c l _ _ _ HR.out hc H1.out).mono ?_); rintro e wa ⟨rfl, hba⟩; have HBa := Aside0.mk hba; clear hba) | (go_at_call 23; (with_reducible refine (heraldref23_Make.calls k b A c l _ _ _ (Kd.C_below HR.out HBa.out) hc H2.out).mono ?_); rintro e wb ⟨rfl, hbb⟩; have HBb := Aside0.mk hbb; clear hbb) | (go_at_call 13; refine (heraldlaw23_awake.calls true _ rfl).mono ?_; rintro e w1 ⟨rfl, hbel⟩))
  go_ret
  refine ⟨by first | rfl | simp, ?_⟩
  have hb2 := below_then HBa.out (HBa.out.size) HBb.out
  exact below_then hb2 hb2.size hbel

set_option maxRecDepth 20000 in
set_option maxHeartbeats 3200000 in
theorem back_yes (b : Int) (A : Option Addr) (c : Nat) (l : List Int) (t : ByteArray) (w : World) (hr : Kd.C (Kd.int .i64) w A l.length l) (hc : l.length ≤ c) (k : Nat) (hb : IsBits b) (hl : l.length ≤ 1048576) (ht : t.size ≤ 1048576)
    (s : ByteArray) (n m : Int) (hm : 8 * (s.size : Int) / b = m) (hm1 : (l.length : Int) ≤ m) (hm2 : m - (l.length : Int) < 8) (hs : s.size ≤ 8388608) (hn : 8 * ((s ++ t).size : Int) / b = n) (hmn : m ≤ n)
    (hd : ∀ i : Nat, i < l.length → drawV b (s ++ t) (i : Int) = rd l (i : Int))
    (h1 : tape_Make.f k b l = some (s, 0)) (h2 : heraldref23_Make.f k b l = some (s, 0)) :
    Calls Try.prog 9 #[.int .i64 b, .slice A l.length c, .string t] w fun e w' => e = .returned (.bool true) ∧ Below w.heap.size w w' := by
  have hst : ((s ++ t).size : Int) ≤ 281474976710656 := by rw [ByteArray.size_append]; omega
  have hD := tapeDraws_yes b (s.size : Int) hb (by omega) (by omega)
  rw [hm] at hD
  have HD := Aside0.mk hD
  have HR := Aside0.mk hr
  have H1 := Aside0.mk h1
  have H2 := Aside0.mk h2
  have HN := Aside0.mk (fun W => new_big b n (s ++ t) W hb hn hst)
  have HB := Aside0.mk hb
  have HE := Aside0.mk hn
  have HST := Aside0.mk hst
  have HV := Aside0.mk hd
  clear hr h1 h2 hD hn hst hb hd
  go_enter Try.func9, Try.ntmps9
  go_wp2_with (first | (go_at_call 22; (with_reducible refine (tape_Make.calls k b A c l _ _ _ HR.out hc H1.out).mono ?_); rintro e wa ⟨rfl, hba⟩; have HBa := Aside0.mk hba; clear hba) | (go_at_call 23; (with_reducible refine (heraldref23_Make.calls k b A c l _ _ _ (Kd.C_below HR.out HBa.out) hc H2.out).mono ?_); rintro e wb ⟨rfl, hbb⟩; have HBb := Aside0.mk hbb; clear hbb) | (go_at_call 13; refine (heraldlaw23_awake.calls true _ rfl).mono ?_; rintro e w1 ⟨rfl, hbel⟩; have HBc := Aside0.mk hbel; clear hbel) | (go_at_call 11; (with_reducible refine (HN.out _).mono ?_); rintro e wn ⟨rfl, hsn⟩; have HSn := Aside0.mk hsn; clear hsn))
  have hb2 := below_then HBa.out (HBa.out.size) HBb.out
  have hb3 := below_then hb2 hb2.size HBc.out
  have HW := Aside0.mk (HSn.out.below _ _ hb3.size hb3)
  have HT := Aside0.mk HSn.out.tape
  have hg0 := hb3.size
  obtain ⟨g, hg⟩ : ∃ g, w1.heap.size = g := ⟨_, rfl⟩
  rw [hg] at HT hg0 ⊢
  clear HBa HBb HBc HSn hb2 hb3 hg HN H1 H2
  go_loopw [13] (fun v13 wr => ∃ i : Nat, i ≤ l.length ∧ v13 = .int .i64 (i : Int) ∧ Aside0 (IsTape wr g b (i : Int) n (s ++ t)) ∧ Aside0 (Below w.heap.size w wr)) (fun v13 _ => l.length - (intOf v13).toNat)
  case atStart => exact ⟨0, Nat.zero_le _, rfl, HT, HW⟩
  case round =>
    clear HT HW
    obtain ⟨i, hi, rfl, T, W0⟩ := hrel
    by_cases hlt : i < l.length
    · have hbo := HB.out
      have hdr : Calls Try.prog 16 #[.pointer (some ⟨g, 0, none⟩)] wr fun e w' => e = .returned (.tuple #[.int .i64 (rd l (i : Int)), .int .i64 0]) ∧ Step wr w' g b ((i : Int) + 1) n (s ++ t) := by
        refine (draw_calls g b (i : Int) n (s ++ t) wr hbo T.out (by omega) (by omega) HE.out.symm HST.out).mono ?_
        rintro e w' ⟨rfl, ⟨nd, rfl⟩⟩
        exact ⟨by rw [HV.out i hlt], (Step.set T.out _).drewN nd⟩
      have HDr := Aside0.mk hdr
      have p1 : (0 : Int) ≤ (i : Int) := Int.natCast_nonneg _
      have p2 : (i : Int) < (l.length : Int) := Int.ofNat_lt.mpr hlt
      obtain ⟨ad, e1, hx0⟩ := Kd.at_int HR.out (i : Int) p1 p2
      cases e1
      rw [Int.toNat_natCast] at hx0
      clear hdr hbo
      obtain ⟨x, hxx⟩ : ∃ x, rd l (i : Int) = x := ⟨_, rfl⟩
      rw [hxx] at hx0 HDr
      have HX0 := Aside0.mk hx0
      clear hx0
      go_wp2_with (go_at_call 16; (with_reducible refine (HDr.out).mono ?_); rintro e wd ⟨rfl, hsd⟩; have hx := ((hsd.below _ _ hg0 W0.out).cell (World.block_lt_of_cell? w _ HX0.out)).trans HX0.out; have HSd := Aside0.mk hsd; clear hsd)
      go_roundw
      case rel => exact ⟨i + 1, by omega, by first | rfl | go_num, ⟨HSd.out.tape⟩, ⟨HSd.out.below _ _ hg0 W0.out⟩⟩
      case measure => simp [intOf]; omega
    · obtain rfl : i = l.length := by omega
      go_wp2_with (go_at_call 18; (with_reducible refine (tape_Draws.calls _ _ _ _ _ HD.out).mono ?_); rintro e wd ⟨rfl, ⟨nd, rfl⟩⟩)
      go_ret
      exact ⟨by first | rfl | simp, by repeat (first | exact W0.out | refine pw_below_drewN ?_ _)⟩
theorem back_walk (b : Int) (A : Option Addr) (c : Nat) (l : List Int) (t : ByteArray) (w : World) (hr : Kd.C (Kd.int .i64) w A l.length l) (hc : l.length ≤ c) (hw : ∀ x ∈ l, (Lit.int .i64 x).wf = true) (hl : l.length ≤ 1048576) (ht : t.size ≤ 1048576) :
    Calls Try.prog 9 #[.int .i64 b, .slice A l.length c, .string t] w fun e w' => e = .returned (.bool true) ∧ Below w.heap.size w w' := by
  obtain ⟨k, hk⟩ : ∃ k, k = 450000000 := ⟨_, rfl⟩
  have hx : ∀ x ∈ l, x ≤ 9223372036854775807 := by
    intro x hx
    have := ((Lit.wf_int_iff _ _).1 (hw x hx)).2
    exact this
  by_cases hb : IsBits b
  · obtain ⟨r, hr1, hm⟩ := make_some b l hb hl k (by omega)
    obtain ⟨r', hr2, hm'⟩ := refMake_some b l hb hl hx k (by omega)
    obtain rfl := hm.same hm'
    rcases hm with ⟨hF, out, room, rfl, hI⟩ | ⟨hF, rfl⟩
    · have hsz : (strOfNums out).size = out.length := strOfNums_size out
      have hlen := hI.len
      have hlow := hI.low
      obtain ⟨h1, h2⟩ := back_count b out.length l.length room hb hlen hlow
      have hmb := mul_bits b l.length l.length hb (by omega) (by omega) (by omega)
      refine back_yes b A c l t w hr hc k hb hl ht (strOfNums out) _ _ rfl ?_ ?_ ?_ rfl ?_ (fun i hi => back_draw b l out room t hb hF hI i hi) hr1 hr2
      · rw [hsz]; exact h1
      · rw [hsz]; exact h2
      · rw [hsz]; omega
      · exact count_mono b _ _ hb (by rw [ByteArray.size_append]; omega)
    · exact back_no b A c l t w hr hc k 1 (by decide) hr1 hr2
  · exact back_no b A c l t w hr hc k 230 (by decide) (make_no b l hb k) (refMake_no b l hb k)
end Go.Proofs.Ytljlpkadjngpoaa.PAll
