/- Texts of the proof of LayoutPlaces, part 21. -/
import Derived.Test.YtbdnmdmfnopihaaLayoutPlacesM20
import Derived.Test.YtbdnmdmfnopihaaLayoutPlacesM13
section
namespace Go.Proofs.Ytbdnmdmfnopihaa.Pure
set_option linter.unusedVariables false
set_option linter.unusedSimpArgs false
open Go.RowKit Go.Proofs.Ytbdnmdmfnopihaa.Print Go.Proofs.Ytbdnmdmfnopihaa.SMath Go.Proofs.Ytbdnmdmfnopihaa.SealEv Go.Proofs.Ytbdnmdmfnopihaa.ShapeEv Go.Proofs.YtbdnmdmfnopihaaW.PrintWords Go.Proofs.YtbdnmdmfnopihaaW.PrintLast Go.Proofs.YtbdnmdmfnopihaaW.PrintMore
theorem live_evP : Ev (fun k => slipwaylaw11_live.f k) true := Ev.of slipwaylaw11_live.mono (k := 60) (by decide +kernel)
def bs (ds n : Nat) : Nat := if n = 0 then 1 + ds else 128 * n
def bk (ds i : Nat) : Nat := bs ds (i / 16) + 2 + i % 16 / 4
def pt (i : Nat) : Nat := i % 16 % 4 * 64
def pr (ds i : Nat) : Int × Int := ((bk ds i : Int), (pt i : Int))
set_option maxHeartbeats 2000000 in
theorem pr_inj {ds i i' : Nat} (hd : ds ≤ 4) (h : pr ds i = pr ds i') : i = i' := by
  have h1 : ((bk ds i : Nat) : Int) = (bk ds i' : Nat) := (Prod.mk.inj h).1
  have h2 : ((pt i : Nat) : Int) = (pt i' : Nat) := (Prod.mk.inj h).2
  unfold bk bs at h1
  unfold pt at h2
  have a1 : i = 16 * (i / 16) + i % 16 := by omega
  have a2 : i' = 16 * (i' / 16) + i' % 16 := by omega
  have b1 : i % 16 < 16 := Nat.mod_lt _ (by decide)
  have b2 : i' % 16 < 16 := Nat.mod_lt _ (by decide)
  generalize i / 16 = n at *
  generalize i' / 16 = n' at *
  generalize i % 16 = q at *
  generalize i' % 16 = q' at *
  by_cases c : n = 0
  · rw [if_pos c] at h1
    by_cases c' : n' = 0
    · rw [if_pos c'] at h1; omega
    · rw [if_neg c'] at h1; omega
  · rw [if_neg c] at h1
    by_cases c' : n' = 0
    · rw [if_pos c'] at h1; omega
    · rw [if_neg c'] at h1; omega
def ss (ds : Nat) : Nat → List (Int × Int)
  | 0 => []
  | m + 1 => pr ds m :: ss ds m
theorem ss_len (ds : Nat) : ∀ m, (ss ds m).length = m
  | 0 => rfl
  | m + 1 => by rw [ss, List.length_cons, ss_len ds m]
theorem ss_mem {ds : Nat} {x : Int × Int} : ∀ m, x ∈ ss ds m → ∃ i, i < m ∧ x = pr ds i
  | 0, h => by cases h
  | m + 1, h => by
    rcases List.mem_cons.1 h with e | h
    · exact ⟨m, by omega, e⟩
    · obtain ⟨i, hi, e⟩ := ss_mem m h
      exact ⟨i, by omega, e⟩
set_option maxHeartbeats 2000000 in
theorem mp_nat {b j : Int} {B J N ds : Nat} (s : Sh b j B J N ds) (n : Nat) (hn : n < N) : mp b j (n : Int) = ((bs ds n : Nat) : Int) ∧ wrap64 (mp b j (n : Int) + 1) = ((bs ds n + 1 : Nat) : Int) ∧ wrap64 (mp b j (n : Int) + 2) = ((bs ds n + 2 : Nat) : Int) ∧ wrap64 (wrap64 (mp b j (n : Int) + 2) + 4) = ((bs ds n + 6 : Nat) : Int) ∧ bs ds n + 6 < B + 128 ∧ bs ds n ≤ 8192 := by
  have hB := s.hB
  have hN := s.hN
  have hds := s.hds
  have hd := s.hd
  have w1 : wrap64 ((n : Int) * 128) = ((128 * n : Nat) : Int) := by rw [w64 (by omega) (by omega)]; omega
  have m1 : mp b j (n : Int) = ((bs ds n : Nat) : Int) := by
    unfold mp bs
    by_cases h : n = 0
    · rw [if_pos (by omega), if_pos h, hd, w64 (by omega) (by omega)]; omega
    · rw [if_neg (by omega), if_neg h, w1]
  have hM : bs ds n ≤ 8192 := by unfold bs; split <;> omega
  have hL : bs ds n + 6 < B + 128 := by unfold bs; split <;> omega
  have w3 : wrap64 (mp b j (n : Int) + 2) = ((bs ds n + 2 : Nat) : Int) := by rw [m1, w64 (by omega) (by omega)]; omega
  refine ⟨m1, ?_, w3, ?_, hL, hM⟩
  · rw [m1, w64 (by omega) (by omega)]; omega
  · rw [w3, w64 (by omega) (by omega)]; omega
theorem e_a (i : Nat) (h : i < 100000) : wrap64 (((i + 1 : Nat) : Int) - 1) = (i : Int) := by rw [w64 (by omega) (by omega)]; omega
theorem e_b (i : Nat) (h : i < 100000) : wrap64 (Int.tdiv (i : Int) 16) = ((i / 16 : Nat) : Int) := by rw [Int.tdiv_eq_ediv_of_nonneg (by omega), w64 (by omega) (by omega)]; omega
theorem e_c (i : Nat) : Int.tmod (i : Int) 16 = ((i % 16 : Nat) : Int) := by rw [Int.tmod_eq_emod_of_nonneg (by omega)]; omega
theorem e_d (i : Nat) (h : i < 100000) : wrap64 (Int.tdiv (i : Int) 4) = ((i / 4 : Nat) : Int) := by rw [Int.tdiv_eq_ediv_of_nonneg (by omega), w64 (by omega) (by omega)]; omega
theorem e_e (i : Nat) : Int.tmod (i : Int) 4 = ((i % 4 : Nat) : Int) := by rw [Int.tmod_eq_emod_of_nonneg (by omega)]; omega
theorem e_f (x y : Nat) (h : x < 100000) (h2 : y < 100000) : wrap64 ((x : Int) + (y : Int)) = ((x + y : Nat) : Int) := by rw [w64 (by omega) (by omega)]; omega
theorem e_g (x : Nat) (h : x < 100000) : wrap64 ((x : Int) * 64) = ((x * 64 : Nat) : Int) := by rw [w64 (by omega) (by omega)]; omega
set_option maxHeartbeats 2000000 in
theorem ino_nat {b j : Int} {B J N ds : Nat} (h : chk b j = 0) (s : Sh b j B J N ds) (i : Nat) (hi : i < 16 * N) : ino b j ((i + 1 : Nat) : Int) = (((bk ds i : Nat) : Int), ((pt i : Nat) : Int), 0) := by
  have hg := s.hg
  have hB := s.hB
  have hN := s.hN
  have hn : i / 16 < N := by omega
  obtain ⟨m1, m2, m3, m4, m5, m6⟩ := mp_nat s (i / 16) hn
  have M3 := Aside0.mk m3
  clear m1 m2 m3 m4
  have il : i < 100000 := by omega
  have q1 : bs ds (i / 16) + 2 < 100000 := by omega
  have q2 : i % 16 / 4 < 100000 := by omega
  have q3 : i % 16 % 4 < 100000 := by omega
  have q4 : i % 16 < 100000 := by omega
  have c1 : ¬ ((i + 1 : Nat) : Int) < 1 := by omega
  have c2 : ¬ ((i + 1 : Nat) : Int) > 16 * grps b j := by rw [hg]; omega
  unfold ino
  rw [if_pos h, if_neg c1, if_neg c2, e_a i il, e_b i il, e_c i, e_d _ q4, e_e (i % 16)]
  have g1 : (grp b j ((i / 16 : Nat) : Int)).2.2.2.2.1 = wrap64 (mp b j ((i / 16 : Nat) : Int) + 2) := rfl
  rw [g1, M3.out, e_f _ _ q1 q2, e_g _ q3]
  rfl
theorem bk_nat {b j : Int} {B J N ds : Nat} (s : Sh b j B J N ds) (i : Nat) (hi : i < 16 * N) : bk ds i < B ∧ bk ds i / 128 = i / 16 := by
  have hN := s.hN
  have hl := s.last
  have hr := s.room
  have hds := s.hds
  unfold bk bs
  have q : i % 16 / 4 ≤ 3 := by omega
  have n : i / 16 < N := by omega
  generalize i / 16 = n at *
  generalize i % 16 / 4 = q at *
  split <;> omega
set_option maxHeartbeats 2000000 in
theorem knd_nat {b j : Int} {B J N ds : Nat} (h : chk b j = 0) (s : Sh b j B J N ds) (i : Nat) (hi : i < 16 * N) : knd b j ((bk ds i : Nat) : Int) = 5 := by
  obtain ⟨k1, k2⟩ := bk_nat s i hi
  have hb := s.hb
  have hB := s.hB
  have hn : i / 16 < N := by omega
  obtain ⟨m1, m2, m3, m4, m5, m6⟩ := mp_nat s (i / 16) hn
  have g : gof b j ((bk ds i : Nat) : Int) = (((i / 16 : Nat) : Int), true) := by
    unfold gof
    rw [if_pos h, if_neg (by omega), if_neg (by omega), Int.tdiv_eq_ediv_of_nonneg (by omega), ← k2, w64 (by omega) (by omega)]
    rfl
  unfold knd
  rw [if_pos h, g, if_pos rfl]
  have e : kin (grp b j ((i / 16 : Nat) : Int)) ((bk ds i : Nat) : Int) = (if ((bk ds i : Nat) : Int) = 0 then 1 else if ((bk ds i : Nat) : Int) < mp b j ((i / 16 : Nat) : Int) then 2 else if ((bk ds i : Nat) : Int) = mp b j ((i / 16 : Nat) : Int) then 3 else if ((bk ds i : Nat) : Int) = wrap64 (mp b j ((i / 16 : Nat) : Int) + 1) then 4 else if ((bk ds i : Nat) : Int) < wrap64 (wrap64 (mp b j ((i / 16 : Nat) : Int) + 2) + 4) then 5 else if ((bk ds i : Nat) : Int) < dat b j ((i / 16 : Nat) : Int) then 6 else 7) := rfl
  have hk : bk ds i = bs ds (i / 16) + 2 + i % 16 / 4 := rfl
  have q : i % 16 / 4 ≤ 3 := by omega
  rw [e, m4, m2, m1, hk]
  generalize i % 16 / 4 = q at *
  generalize bs ds (i / 16) = z at *
  rw [if_neg (by omega), if_neg (by omega), if_neg (by omega), if_neg (by omega), if_pos (by omega)]
set_option maxHeartbeats 2000000 in
theorem lb_ev {S : List (Int × Int)} {x b j : Int} {r : Bool} (h : Ev (fun k => (layout_Inodes.f k b j).bind fun t249 => (if x ≤ t249 then ((layout_InodeAt.f k b j x).bind fun bt251 => (if bt251.2.2 = 0 then ((layout_Kind.f k b j bt251.1).bind fun t254 => (if t254 = 5 then (if (Int.tmod bt251.2.1 64) = 0 then (if bt251.2.1 < 0 then (none) else (if bt251.2.1 ≥ 256 then (none) else (if S.length < 100000 ∧ 0 ≤ bt251.1 ∧ bt251.1 < 100000 ∧ 0 ≤ bt251.2.1 ∧ bt251.2.1 < 100000 ∧ (bt251.1, bt251.2.1) ∉ S then (slipwaylaw11_LayoutPlaces.l0 k ((bt251.1, bt251.2.1) :: S) (wrap64 (x + 1)) b j) else (none)))) else (none)) else (none))) else (none))) else ((layout_Groups.f k b j).bind fun t250 => (some ((S.length : Int) == (wrap64 (t250 * 16))))))) r) : Ev (fun k => slipwaylaw11_LayoutPlaces.l0 k S x b j) r :=
  Ev.step (fun k => by simp only [slipwaylaw11_LayoutPlaces.l0]) h
set_option maxHeartbeats 2000000 in
theorem places_loop {b j : Int} {B J N ds : Nat} (h : chk b j = 0) (s : Sh b j B J N ds) (d : Nat) : ∀ m : Nat, m + d = 16 * N → Ev (fun k => slipwaylaw11_LayoutPlaces.l0 k (ss ds m) ((m + 1 : Nat) : Int) b j) true := by
  have hg := s.hg
  have hN := s.hN
  have hB := s.hB
  have I := inodes_ev b j
  rw [hg] at I
  have G := groups_ev b j
  rw [hg] at G
  induction d with
  | zero =>
    intro m hm
    have c1 : ¬ ((m + 1 : Nat) : Int) ≤ 16 * (N : Int) := by omega
    have c2 : wrap64 ((N : Int) * 16) = (m : Int) := by rw [w64 (by omega) (by omega)]; omega
    refine lb_ev (Ev.bind I (Ev.iff_neg c1 (Ev.bind G ?_)))
    rw [ss_len, c2, show ((m : Int) == (m : Int)) = true by simp]
    exact Ev.now _
  | succ d ih =>
    intro m hm
    have nx := ih (m + 1) (by omega)
    have A := inodeat_ev b j ((m + 1 : Nat) : Int)
    rw [ino_nat h s m (by omega)] at A
    have K := kind_ev b j ((bk ds m : Nat) : Int)
    rw [knd_nat h s m (by omega)] at K
    have hp : pt m ≤ 192 ∧ pt m % 64 = 0 := by unfold pt; omega
    obtain ⟨b1, _⟩ := bk_nat s m (by omega)
    have t : Int.tmod ((pt m : Nat) : Int) 64 = 0 := by rw [Int.tmod_eq_emod_of_nonneg (by omega)]; omega
    have sl := ss_len ds m
    have nm : ((((bk ds m : Nat) : Int), ((pt m : Nat) : Int)) : Int × Int) ∉ ss ds m := fun k => by
      obtain ⟨i, hi, e⟩ := ss_mem m k
      have := pr_inj s.hds (show pr ds m = pr ds i from e)
      omega
    have d1 : ((m + 1 : Nat) : Int) ≤ 16 * (N : Int) := by omega
    have d2 : ¬ ((pt m : Nat) : Int) < 0 := by omega
    have d3 : ¬ ((pt m : Nat) : Int) ≥ 256 := by omega
    have d4 : (ss ds m).length < 100000 := by omega
    have d5 : (0 : Int) ≤ ((bk ds m : Nat) : Int) := by omega
    have d6 : ((bk ds m : Nat) : Int) < 100000 := by omega
    have d7 : (0 : Int) ≤ ((pt m : Nat) : Int) := by omega
    have d8 : ((pt m : Nat) : Int) < 100000 := by omega
    have w : wrap64 (((m + 1 : Nat) : Int) + 1) = ((m + 1 + 1 : Nat) : Int) := by rw [w64 (by omega) (by omega)]; omega
    refine lb_ev (Ev.bind I (Ev.iff_pos d1 (Ev.bind A (Ev.iff_pos rfl (Ev.bind K (Ev.iff_pos rfl (Ev.iff_pos t (Ev.iff_neg d2 (Ev.iff_neg d3 (Ev.iff_pos ⟨d4, d5, d6, d7, d8, nm⟩ ?_))))))))))
    rw [w]
    exact nx
set_option maxHeartbeats 2000000 in
theorem LayoutPlaces : slipwaylaw11_LayoutPlaces.Pure := by
  intro a c _ _
  refine Ev.rounds ?_
  unfold slipwaylaw11_LayoutPlaces.f
  refine Ev.bind live_evP (Ev.iff_pos rfl (Ev.bind (plan_ev _ _) ?_))
  generalize wrap64 (wrap64 (Int.tmod a 1500) + 1) = s0
  generalize wrap64 (wrap64 (Int.tmod c 49) + 16) = j0
  have key : ∀ b j : Int, chk b j = 0 → Ev (fun k => slipwaylaw11_LayoutPlaces.l0 k [] 1 b j) true := fun b j h => by
    obtain ⟨B, J, N, ds, s⟩ := sh_of h
    exact places_loop h s (16 * N) 0 (by omega)
  unfold pln
  by_cases c1 : bounds s0 j0
  · rw [if_pos c1]
    by_cases c2 : Int.tmod s0 128 < 16
    · rw [if_pos c2]
      by_cases c3 : chk (wrap64 (s0 - Int.tmod s0 128)) j0 = 0
      · rw [if_pos c3]; exact Ev.iff_pos rfl (key _ _ c3)
      · rw [if_neg c3]; exact Ev.iff_neg (by decide) (Ev.now _)
    · rw [if_neg c2]
      by_cases c3 : chk s0 j0 = 0
      · rw [if_pos c3]; exact Ev.iff_pos rfl (key _ _ c3)
      · rw [if_neg c3]; exact Ev.iff_neg (by decide) (Ev.now _)
  · rw [if_neg c1]; exact Ev.iff_neg (by decide) (Ev.now _)
end Go.Proofs.Ytbdnmdmfnopihaa.Pure
end
