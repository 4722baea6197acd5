/- Texts of this session and printed texts, merged, what is not needed left out: NmO, PureNatRing. -/
import Derived.Test.YtgcngbmkgjphpaaDoorNpH0
import Derived.Test.YtgcngbmkgjphpaaDoorNpH1
import Derived.Test.YtgcngbmkgjphpaaDoorNpH2
import Derived.Test.YtgcngbmkgjphpaaDoorNpH3
import Derived.Test.YtgcngbmkgjphpaaDoorNpH4
section
namespace Go.Proofs.YtgcngbmkgjphpaaDoor.Nums
open Go.RowKit Go.Proofs.YtgcngbmkgjphpaaDoor.PAll Go.Proofs.YtgcngbmkgjphpaaDoorW.PrintWords Go.Proofs.YtgcngbmkgjphpaaDoorW.PrintLast Go.Proofs.YtgcngbmkgjphpaaDoorW.PrintMore
set_option linter.unusedVariables false
set_option linter.unusedSimpArgs false
/-- What a number comes to that may be too big. -/
def Res (n w : Nat) (e : Int) : Prop := (bl n ≤ 65536 ∧ w = n ∧ e = 0) ∨ (¬ bl n ≤ 65536 ∧ w = 0 ∧ e = 41)
theorem Res.same {n w w' : Nat} {e e' : Int} (h : Res n w e) (h' : Res n w' e') : w = w' ∧ e = e' := by
  rcases h with ⟨a, b, c⟩ | ⟨a, b, c⟩ <;> rcases h' with ⟨a', b', c'⟩ | ⟨a', b', c'⟩
  · exact ⟨by omega, by omega⟩
  · exact absurd a a'
  · exact absurd a' a
  · exact ⟨by omega, by omega⟩
theorem Res.small {n w : Nat} {e : Int} (h : Res n w e) : bl w ≤ 65536 := by
  rcases h with ⟨a, b, _⟩ | ⟨_, b, _⟩
  · rw [b]; exact a
  · rw [b, bl_zero]; omega
theorem Res.ok {n w : Nat} {e : Int} (h : Res n w e) (he : e = 0) : bl n ≤ 65536 ∧ w = n := by
  rcases h with ⟨a, b, _⟩ | ⟨_, _, c⟩
  · exact ⟨a, b⟩
  · omega
theorem mul_res {u v : Nat} (hu : bl u ≤ 65536) (hv : bl v ≤ 65536) : ∃ w e, Res (u * v) w e ∧ Ev (fun k => nat_Nat_Mul.f k (dgs 4294967296 u) (dgs 4294967296 v)) (dgs 4294967296 w, e) := by
  by_cases g : bl (u * v) ≤ 65536
  · exact ⟨_, _, .inl ⟨g, rfl, rfl⟩, mul_fits hu hv g⟩
  · exact ⟨0, _, .inr ⟨g, rfl, rfl⟩, by rw [dgs_zero]; exact mul_big hu hv g⟩
theorem add_res {u v : Nat} (hu : bl u ≤ 65536) (hv : bl v ≤ 65536) : ∃ w e, Res (u + v) w e ∧ Ev (fun k => nat_Nat_Add.f k (dgs 4294967296 u) (dgs 4294967296 v)) (dgs 4294967296 w, e) := by
  by_cases g : bl (u + v) ≤ 65536
  · exact ⟨_, _, .inl ⟨g, rfl, rfl⟩, add_fits hu hv g⟩
  · exact ⟨0, _, .inr ⟨g, rfl, rfl⟩, by rw [dgs_zero]; exact add_big hu hv g⟩
theorem pow_res {u : Nat} (n : Nat) (hu : bl u ≤ 65536) (hn : n < 9223372036854775808) : ∃ w e, Res (u ^ n) w e ∧ Ev (fun k => nat_Nat_Power.f k (dgs 4294967296 u) (n : Int)) (dgs 4294967296 w, e) := by
  by_cases g : bl (u ^ n) ≤ 65536
  · exact ⟨_, _, .inl ⟨g, rfl, rfl⟩, pow_ev u n hu hn _ (fun _ => rfl) (fun h => absurd g h)⟩
  · refine ⟨0, 41, .inr ⟨g, rfl, rfl⟩, ?_⟩
    rw [dgs_zero]; exact pow_ev u n hu hn _ (fun h => absurd h g) (fun _ => rfl)
theorem cmp_same (n : Nat) (h : bl n ≤ 65536) : Ev (fun k => nat_Nat_Compare.f k (dgs 4294967296 n) (dgs 4294967296 n)) 0 := by
  have l := pd_len (n := n) (k := 2048) (by omega)
  have := cmp_ev n n (by omega) (by omega)
  rwa [cmpV_eq] at this
/-- A number that a law is handed, whether it fits or not. -/
theorem given_any (l : List Int) (hd : Dg ((4294967296 : Nat) : Int) l) (hl : l.length ≤ 1048576) : ∃ (m : List Int) (u : Nat) (p : Bool), bl u ≤ 65536 ∧ Ev (fun k => heraldlaw04_given.f k l) (m, dgs 4294967296 u, p, true) := by
  obtain ⟨v, hv⟩ := words_val l hd
  by_cases g : bl v ≤ 65536
  · exact ⟨_, v, _, g, given_fit l v hd hl hv g⟩
  · refine ⟨dgs 65536 v, 0, false, by rw [bl_zero]; omega, ?_⟩
    rw [dgs_zero 4294967296]; exact given_big l v hd hl hv g
theorem ring_j7 (u : Nat) (hu : bl u ≤ 65536) : Ev (fun k => heraldlaw04_NatRing.j7 k false (dgs 4294967296 u)) true := by
  obtain ⟨a, e, ra, K1, h1⟩ := mul_res hu hu
  obtain ⟨b, f, rb, K2, h2⟩ := pow_res 2 hu (by omega)
  rw [Nat.pow_two] at rb
  obtain ⟨rfl, rfl⟩ := ra.same rb
  obtain ⟨K3, h3⟩ := cmp_same a ra.small
  refine Ev.step (f := fun k => heraldlaw04_NatRing.j7 (k + 1) false (dgs 4294967296 u)) (fun k => rfl) ⟨K1 + K2 + K3, fun k hk => ?_⟩
  have g1 : nat_Nat_Mul.f k (dgs 4294967296 u) (dgs 4294967296 u) = some (dgs 4294967296 a, e) := h1 k (by omega)
  have g2 : nat_Nat_Power.f k (dgs 4294967296 u) 2 = some (dgs 4294967296 a, e) := h2 k (by omega)
  have g3 : nat_Nat_Compare.f k (dgs 4294967296 a) (dgs 4294967296 a) = some 0 := h3 k (by omega)
  show heraldlaw04_NatRing.j7 (k + 1) false (dgs 4294967296 u) = some true
  rw [heraldlaw04_NatRing.j7, if_neg (by decide), g1, Option.bind_some, g2, Option.bind_some, if_pos rfl, g3, Option.bind_some]
  rfl
theorem ring_j6 (u v : Nat) (hu : bl u ≤ 65536) (hv : bl v ≤ 65536) : Ev (fun k => heraldlaw04_NatRing.j6 k (dgs 4294967296 u) (dgs 4294967296 v)) true := by
  obtain ⟨a, e, ra, K1, h1⟩ := mul_res hu hv
  obtain ⟨b, f, rb, K2, h2⟩ := mul_res hv hu
  rw [Nat.mul_comm] at rb
  obtain ⟨rfl, rfl⟩ := ra.same rb
  obtain ⟨K3, h3⟩ := cmp_same a ra.small
  obtain ⟨K4, h4⟩ := ring_j7 u hu
  refine Ev.step (f := fun k => heraldlaw04_NatRing.j6 (k + 1) (dgs 4294967296 u) (dgs 4294967296 v)) (fun k => rfl) ⟨K1 + K2 + K3 + K4, fun k hk => ?_⟩
  have g1 : nat_Nat_Mul.f k (dgs 4294967296 u) (dgs 4294967296 v) = some (dgs 4294967296 a, e) := h1 k (by omega)
  have g2 : nat_Nat_Mul.f k (dgs 4294967296 v) (dgs 4294967296 u) = some (dgs 4294967296 a, e) := h2 k (by omega)
  have g3 : nat_Nat_Compare.f k (dgs 4294967296 a) (dgs 4294967296 a) = some 0 := h3 k (by omega)
  have g4 : heraldlaw04_NatRing.j7 k false (dgs 4294967296 u) = some true := h4 k (by omega)
  show heraldlaw04_NatRing.j6 (k + 1) (dgs 4294967296 u) (dgs 4294967296 v) = some true
  rw [heraldlaw04_NatRing.j6, g1, Option.bind_some, g2, Option.bind_some, if_pos rfl, g3, Option.bind_some]
  exact g4
theorem ring_j5 (u v : Nat) (hu : bl u ≤ 65536) (hv : bl v ≤ 65536) : Ev (fun k => heraldlaw04_NatRing.j5 k false (dgs 4294967296 u) (dgs 4294967296 v)) true := by
  refine Ev.step (fun k => ?_) (ring_j6 u v hu hv)
  rw [heraldlaw04_NatRing.j5, if_neg (by decide)]
theorem ring_j4_no (u v : Nat) (hu : bl u ≤ 65536) (hv : bl v ≤ 65536) (x : Int) (P Q R : List Int) : Ev (fun k => heraldlaw04_NatRing.j4 k x false (dgs 4294967296 u) (dgs 4294967296 v) P Q R) true := by
  refine Ev.step (fun k => ?_) (ring_j6 u v hu hv)
  rw [heraldlaw04_NatRing.j4, if_neg (by decide)]
theorem ring_j4 (u v p q r : Nat) (x : Int) (hu : bl u ≤ 65536) (hv : bl v ≤ 65536) (hp : bl p ≤ 65536) (hq : bl q ≤ 65536) (hr : Res (p + q) r x) : Ev (fun k => heraldlaw04_NatRing.j4 k x true (dgs 4294967296 u) (dgs 4294967296 v) (dgs 4294967296 p) (dgs 4294967296 q) (dgs 4294967296 r)) true := by
  obtain ⟨a, e, ra, K1, h1⟩ := add_res hp hq
  obtain ⟨rfl, rfl⟩ := hr.same ra
  obtain ⟨K3, h3⟩ := cmp_same r hr.small
  obtain ⟨K4, h4⟩ := ring_j5 u v hu hv
  refine Ev.step (f := fun k => heraldlaw04_NatRing.j4 (k + 1) x true (dgs 4294967296 u) (dgs 4294967296 v) (dgs 4294967296 p) (dgs 4294967296 q) (dgs 4294967296 r)) (fun k => rfl) ⟨K1 + K3 + K4, fun k hk => ?_⟩
  have g1 : nat_Nat_Add.f k (dgs 4294967296 p) (dgs 4294967296 q) = some (dgs 4294967296 r, x) := h1 k (by omega)
  have g3 : nat_Nat_Compare.f k (dgs 4294967296 r) (dgs 4294967296 r) = some 0 := h3 k (by omega)
  have g4 : heraldlaw04_NatRing.j5 k false (dgs 4294967296 u) (dgs 4294967296 v) = some true := h4 k (by omega)
  show heraldlaw04_NatRing.j4 (k + 1) x true (dgs 4294967296 u) (dgs 4294967296 v) (dgs 4294967296 p) (dgs 4294967296 q) (dgs 4294967296 r) = some true
  rw [heraldlaw04_NatRing.j4, if_pos rfl, g1, Option.bind_some, if_pos rfl, g3, Option.bind_some]
  exact g4
theorem ring_j3 (u v z s : Nat) (e : Int) (hu : bl u ≤ 65536) (hv : bl v ≤ 65536) (hz : bl z ≤ 65536) (hs : Res (u + v) s e) : Ev (fun k => heraldlaw04_NatRing.j3 k e (dgs 4294967296 u) (dgs 4294967296 v) (dgs 4294967296 z) (dgs 4294967296 s)) true := by
  obtain ⟨p, g, rp, K1, h1⟩ := mul_res hu hz
  obtain ⟨q, h, rq, K2, h2⟩ := mul_res hv hz
  obtain ⟨r, x, rr, K3, h3⟩ := mul_res hs.small hz
  obtain ⟨K4, h4⟩ := ring_j4_no u v hu hv x (dgs 4294967296 p) (dgs 4294967296 q) (dgs 4294967296 r)
  have hyes : e = 0 → g = 0 → h = 0 → Res (p + q) r x := by
    intro e0 g0 h0
    have a1 := (hs.ok e0).2
    have a2 := (rp.ok g0).2
    have a3 := (rq.ok h0).2
    rw [a1, Nat.add_mul, ← a2, ← a3] at rr
    exact rr
  have hall : ∃ K, ∀ b : Bool, (b = true → e = 0 ∧ g = 0 ∧ h = 0) → ∀ k, K ≤ k → heraldlaw04_NatRing.j4 k x b (dgs 4294967296 u) (dgs 4294967296 v) (dgs 4294967296 p) (dgs 4294967296 q) (dgs 4294967296 r) = some true := by
    by_cases c : e = 0 ∧ g = 0 ∧ h = 0
    · obtain ⟨K5, h5⟩ := ring_j4 u v p q r x hu hv rp.small rq.small (hyes c.1 c.2.1 c.2.2)
      refine ⟨K4 + K5, fun b hb k hk => ?_⟩
      cases b with
      | false => exact h4 k (by omega)
      | true => exact h5 k (by omega)
    · refine ⟨K4, fun b hb k hk => ?_⟩
      cases b with
      | false => exact h4 k hk
      | true => exact absurd (hb rfl) c
  obtain ⟨K5, h5⟩ := hall
  refine Ev.step (f := fun k => heraldlaw04_NatRing.j3 (k + 1) e (dgs 4294967296 u) (dgs 4294967296 v) (dgs 4294967296 z) (dgs 4294967296 s)) (fun k => rfl) ⟨K1 + K2 + K3 + K4 + K5, fun k hk => ?_⟩
  have g1 : nat_Nat_Mul.f k (dgs 4294967296 u) (dgs 4294967296 z) = some (dgs 4294967296 p, g) := h1 k (by omega)
  have g2 : nat_Nat_Mul.f k (dgs 4294967296 v) (dgs 4294967296 z) = some (dgs 4294967296 q, h) := h2 k (by omega)
  have g3 : nat_Nat_Mul.f k (dgs 4294967296 s) (dgs 4294967296 z) = some (dgs 4294967296 r, x) := h3 k (by omega)
  show heraldlaw04_NatRing.j3 (k + 1) e (dgs 4294967296 u) (dgs 4294967296 v) (dgs 4294967296 z) (dgs 4294967296 s) = some true
  rw [heraldlaw04_NatRing.j3, g1, Option.bind_some, g2, Option.bind_some, g3, Option.bind_some]
  by_cases e0 : e = 0
  · rw [if_pos e0]
    by_cases g0 : g = 0
    · rw [if_pos g0]
      refine h5 _ (fun hb => ⟨e0, g0, by simpa using hb⟩) k (by omega)
    · rw [if_neg g0]
      exact h5 _ (fun hb => by cases hb) k (by omega)
  · rw [if_neg e0]
    exact h5 _ (fun hb => by cases hb) k (by omega)
theorem ring_j1 (u v z s : Nat) (e : Int) (hu : bl u ≤ 65536) (hv : bl v ≤ 65536) (hz : bl z ≤ 65536) (hs : Res (u + v) s e) : Ev (fun k => heraldlaw04_NatRing.j1 k e false (dgs 4294967296 u) (dgs 4294967296 v) (dgs 4294967296 z) (dgs 4294967296 s)) true := by
  have h3 := ring_j3 u v z s e hu hv hz hs
  by_cases e0 : e = 0
  · obtain ⟨_, hsv⟩ := hs.ok e0
    have ls := pd_len (n := s) (k := 2048) (by have := hs.small; omega)
    have hsub := sub_ev (x := s) (y := v) (by omega) (by omega)
    rw [show s - v = u by omega] at hsub
    have j2 : Ev (fun k => heraldlaw04_NatRing.j2 k e false (dgs 4294967296 u) (dgs 4294967296 v) (dgs 4294967296 z) (dgs 4294967296 s)) true := by
      refine Ev.step (fun k => ?_) h3
      rw [heraldlaw04_NatRing.j2, if_neg (by decide)]
    obtain ⟨K1, h1⟩ := hsub
    obtain ⟨K2, h2⟩ := cmp_same u hu
    obtain ⟨K3, h3⟩ := j2
    refine Ev.step (f := fun k => heraldlaw04_NatRing.j1 (k + 1) e false (dgs 4294967296 u) (dgs 4294967296 v) (dgs 4294967296 z) (dgs 4294967296 s)) (fun k => rfl) ⟨K1 + K2 + K3, fun k hk => ?_⟩
    have g1 : nat_Nat_Sub.f k (dgs 4294967296 s) (dgs 4294967296 v) = some (dgs 4294967296 u, 0) := h1 k (by omega)
    have g2 : nat_Nat_Compare.f k (dgs 4294967296 u) (dgs 4294967296 u) = some 0 := h2 k (by omega)
    have g3 : heraldlaw04_NatRing.j2 k e false (dgs 4294967296 u) (dgs 4294967296 v) (dgs 4294967296 z) (dgs 4294967296 s) = some true := h3 k (by omega)
    show heraldlaw04_NatRing.j1 (k + 1) e false (dgs 4294967296 u) (dgs 4294967296 v) (dgs 4294967296 z) (dgs 4294967296 s) = some true
    rw [heraldlaw04_NatRing.j1, if_neg (by decide), if_pos e0, g1, Option.bind_some, if_pos rfl, g2, Option.bind_some]
    exact g3
  · refine Ev.step (fun k => ?_) h3
    rw [heraldlaw04_NatRing.j1, if_neg (by decide), if_neg e0]
theorem ring_j0 (u v z : Nat) (hu : bl u ≤ 65536) (hv : bl v ≤ 65536) (hz : bl z ≤ 65536) : Ev (fun k => heraldlaw04_NatRing.j0 k false (dgs 4294967296 u) (dgs 4294967296 v) (dgs 4294967296 z)) true := by
  obtain ⟨s, e, rs, K1, h1⟩ := add_res hu hv
  obtain ⟨t, f, rt, K2, h2⟩ := add_res hv hu
  rw [Nat.add_comm] at rt
  obtain ⟨rfl, rfl⟩ := rs.same rt
  obtain ⟨K3, h3⟩ := cmp_same s rs.small
  obtain ⟨K4, h4⟩ := ring_j1 u v z s e hu hv hz rs
  refine Ev.step (f := fun k => heraldlaw04_NatRing.j0 (k + 1) false (dgs 4294967296 u) (dgs 4294967296 v) (dgs 4294967296 z)) (fun k => rfl) ⟨K1 + K2 + K3 + K4, fun k hk => ?_⟩
  have g1 : nat_Nat_Add.f k (dgs 4294967296 u) (dgs 4294967296 v) = some (dgs 4294967296 s, e) := h1 k (by omega)
  have g2 : nat_Nat_Add.f k (dgs 4294967296 v) (dgs 4294967296 u) = some (dgs 4294967296 s, e) := h2 k (by omega)
  have g3 : nat_Nat_Compare.f k (dgs 4294967296 s) (dgs 4294967296 s) = some 0 := h3 k (by omega)
  have g4 : heraldlaw04_NatRing.j1 k e false (dgs 4294967296 u) (dgs 4294967296 v) (dgs 4294967296 z) (dgs 4294967296 s) = some true := h4 k (by omega)
  show heraldlaw04_NatRing.j0 (k + 1) false (dgs 4294967296 u) (dgs 4294967296 v) (dgs 4294967296 z) = some true
  rw [heraldlaw04_NatRing.j0, if_neg (by decide), g1, Option.bind_some, g2, Option.bind_some, if_pos rfl, g3, Option.bind_some]
  exact g4
theorem NatRing_ev (a b c : List Int) (ha : Dg ((4294967296 : Nat) : Int) a) (hb : Dg ((4294967296 : Nat) : Int) b) (hc : Dg ((4294967296 : Nat) : Int) c) (la : a.length ≤ 1048576) (lb : b.length ≤ 1048576) (lc : c.length ≤ 1048576) : Ev (fun k => heraldlaw04_NatRing.f k a b c) true := by
  obtain ⟨m1, u, p1, hu, K1, h1⟩ := given_any a ha la
  obtain ⟨m2, v, p2, hv, K2, h2⟩ := given_any b hb lb
  obtain ⟨m3, z, p3, hz, K3, h3⟩ := given_any c hc lc
  obtain ⟨K4, h4⟩ := awake_ev
  obtain ⟨K5, h5⟩ := ring_j0 u v z hu hv hz
  refine ⟨K1 + K2 + K3 + K4 + K5, fun k hk => ?_⟩
  have g1 : heraldlaw04_given.f k a = some (m1, dgs 4294967296 u, p1, true) := h1 k (by omega)
  have g2 : heraldlaw04_given.f k b = some (m2, dgs 4294967296 v, p2, true) := h2 k (by omega)
  have g3 : heraldlaw04_given.f k c = some (m3, dgs 4294967296 z, p3, true) := h3 k (by omega)
  have g4 : heraldlaw04_awake.f k = some true := h4 k (by omega)
  have g5 : heraldlaw04_NatRing.j0 k false (dgs 4294967296 u) (dgs 4294967296 v) (dgs 4294967296 z) = some true := h5 k (by omega)
  show heraldlaw04_NatRing.f k a b c = some true
  unfold heraldlaw04_NatRing.f
  rw [g1, Option.bind_some, g2, Option.bind_some, g3, Option.bind_some, g4, Option.bind_some, if_pos rfl, if_pos rfl, if_pos rfl]
  exact g5
end Go.Proofs.YtgcngbmkgjphpaaDoor.Nums
end

section
namespace Go.Proofs.YtgcngbmkgjphpaaDoor.Pure
set_option linter.unusedVariables false
open Go.RowKit Go.Proofs.YtgcngbmkgjphpaaDoor.PAll Go.Proofs.YtgcngbmkgjphpaaDoor.Nums Go.Proofs.YtgcngbmkgjphpaaDoorW.PrintWords
theorem NatRing (l0 l1 l2 : List Int) (h0 : l0.length ≤ 1048576) (hw0 : ∀ x ∈ l0, (Lit.int .u32 x).wf = true) (h1 : l1.length ≤ 1048576) (hw1 : ∀ x ∈ l1, (Lit.int .u32 x).wf = true) (h2 : l2.length ≤ 1048576) (hw2 : ∀ x ∈ l2, (Lit.int .u32 x).wf = true) : ∃ k, heraldlaw04_NatRing.f k l0 l1 l2 = some true :=
  (NatRing_ev l0 l1 l2 (dg_wf l0 hw0) (dg_wf l1 hw1) (dg_wf l2 hw2) h0 h1 h2).rounds
end Go.Proofs.YtgcngbmkgjphpaaDoor.Pure
end
