/- Texts of the proof of LayoutUses, part 21. -/
import Derived.Test.YtbdnmdmfnopihaaLayoutUsesM20
import Derived.Test.YtbdnmdmfnopihaaLayoutUsesM13
import Derived.Test.YtbdnmdmfnopihaaLayoutUsesM14
section
namespace Go.Proofs.Ytbdnmdmfnopihaa.Pure
set_option linter.unusedVariables false
set_option linter.unusedSimpArgs false
open Go.RowKit Go.Proofs.Ytbdnmdmfnopihaa.Print Go.Proofs.Ytbdnmdmfnopihaa.SMath Go.Proofs.Ytbdnmdmfnopihaa.SealEv Go.Proofs.Ytbdnmdmfnopihaa.ShapeEv Go.Proofs.YtbdnmdmfnopihaaW.PrintWords Go.Proofs.YtbdnmdmfnopihaaW.PrintLast Go.Proofs.YtbdnmdmfnopihaaW.PrintMore
theorem live_evU : Ev (fun k => slipwaylaw11_live.f k) true := Ev.of slipwaylaw11_live.mono (k := 60) (by decide +kernel)
def ub (ds n : Nat) : Nat := if n = 0 then 1 + ds else 128 * n
def kk (J ds x : Nat) : Nat := if x / 128 = 0 then (if x = 0 then 1 else if x < 1 + ds then 2 else if x = 1 + ds then 3 else if x = 2 + ds then 4 else if x < 7 + ds then 5 else if x < 7 + ds + J then 6 else 7) else (if x % 128 = 0 then 3 else if x % 128 = 1 then 4 else if x % 128 < 6 then 5 else 7)
def c1 (x : Nat) : Nat := if x = 0 then 0 else 1
def c2 (ds x : Nat) : Nat := if x - 1 < ds then x - 1 else ds
def c3 (ds x : Nat) : Nat := if x / 128 = 0 then (if x ≤ 1 + ds then 0 else 1) else x / 128 + (if x % 128 = 0 then 0 else 1)
def c4 (ds x : Nat) : Nat := if x / 128 = 0 then (if x ≤ 2 + ds then 0 else 1) else x / 128 + (if x % 128 ≤ 1 then 0 else 1)
def c5 (ds x : Nat) : Nat := if x / 128 = 0 then (if x < 7 + ds then x - (3 + ds) else 4) else 4 * (x / 128) + (if x % 128 < 6 then x % 128 - 2 else 4)
def c6 (J ds x : Nat) : Nat := if x < 7 + ds + J then x - (7 + ds) else J
theorem kk_cases {J ds : Nat} (x : Nat) : kk J ds x = 1 ∨ kk J ds x = 2 ∨ kk J ds x = 3 ∨ kk J ds x = 4 ∨ kk J ds x = 5 ∨ kk J ds x = 6 ∨ kk J ds x = 7 := by
  unfold kk
  repeat' (first | omega | split)
theorem c1_step {J ds : Nat} (h : 7 + ds + J < 128) (x : Nat) : c1 (x + 1) = c1 x + if kk J ds x = 1 then 1 else 0 := by
  unfold c1 kk
  repeat' (first | omega | split)
theorem c2_step {J ds : Nat} (h : 7 + ds + J < 128) (x : Nat) : c2 ds (x + 1) = c2 ds x + if kk J ds x = 2 then 1 else 0 := by
  unfold c2 kk
  repeat' (first | omega | split)
theorem c3_step {J ds : Nat} (h : 7 + ds + J < 128) (x : Nat) : c3 ds (x + 1) = c3 ds x + if kk J ds x = 3 then 1 else 0 := by
  unfold c3 kk
  repeat' (first | omega | split)
theorem c4_step {J ds : Nat} (h : 7 + ds + J < 128) (x : Nat) : c4 ds (x + 1) = c4 ds x + if kk J ds x = 4 then 1 else 0 := by
  unfold c4 kk
  repeat' (first | omega | split)
theorem c5_step {J ds : Nat} (h : 7 + ds + J < 128) (x : Nat) : c5 ds (x + 1) = c5 ds x + if kk J ds x = 5 then 1 else 0 := by
  unfold c5 kk
  repeat' (first | omega | split)
theorem c6_step {J ds : Nat} (h : 7 + ds + J < 128) (x : Nat) : c6 J ds (x + 1) = c6 J ds x + if kk J ds x = 6 then 1 else 0 := by
  unfold c6 kk
  repeat' (first | omega | split)
def kl (J ds : Nat) : Nat → List Int
  | 0 => []
  | x + 1 => ((kk J ds x : Nat) : Int) :: kl J ds x
theorem kl_len (J ds : Nat) : ∀ x, (kl J ds x).length = x
  | 0 => rfl
  | x + 1 => by rw [kl, List.length_cons, kl_len J ds x]
theorem kl_cn (J ds x : Nat) (k : Nat) : (kl J ds (x + 1)).count (k : Int) = (kl J ds x).count (k : Int) + if kk J ds x = k then 1 else 0 := by
  rw [kl, List.count_cons]
  by_cases e : kk J ds x = k
  · rw [if_pos e, e]; simp
  · rw [if_neg e]
    have : ((kk J ds x : Nat) : Int) ≠ (k : Int) := by omega
    simp [this]
structure Cnts (J ds x : Nat) : Prop where
  e1 : (kl J ds x).count ((1 : Nat) : Int) = c1 x
  e2 : (kl J ds x).count ((2 : Nat) : Int) = c2 ds x
  e3 : (kl J ds x).count ((3 : Nat) : Int) = c3 ds x
  e4 : (kl J ds x).count ((4 : Nat) : Int) = c4 ds x
  e5 : (kl J ds x).count ((5 : Nat) : Int) = c5 ds x
  e6 : (kl J ds x).count ((6 : Nat) : Int) = c6 J ds x
  e7 : (kl J ds x).count ((7 : Nat) : Int) = cnt J ds x
  all : cnt J ds x + c1 x + c2 ds x + c3 ds x + c4 ds x + c5 ds x + c6 J ds x = x
theorem kk_seven {J ds : Nat} (h : 7 + ds + J < 128) (x : Nat) : kk J ds x = 7 ↔ Dn J ds (x / 128) ≤ x := by
  unfold kk Dn
  repeat' (first | omega | split)
set_option maxHeartbeats 2000000 in
theorem cnts {J ds : Nat} (h : 7 + ds + J < 128) : ∀ x, Cnts J ds x
  | 0 => by
    have z2 : c2 ds 0 = 0 := by unfold c2; split <;> omega
    have z3 : c3 ds 0 = 0 := by unfold c3; repeat' (first | omega | split)
    have z4 : c4 ds 0 = 0 := by unfold c4; repeat' (first | omega | split)
    have z5 : c5 ds 0 = 0 := by unfold c5; repeat' (first | omega | split)
    have z6 : c6 J ds 0 = 0 := by unfold c6; split <;> omega
    exact ⟨rfl, z2.symm, z3.symm, z4.symm, z5.symm, z6.symm, rfl, by rw [z2, z3, z4, z5, z6]; rfl⟩
  | x + 1 => by
    have ih := cnts h x
    have s1 := c1_step h x
    have s2 := c2_step h x
    have s3 := c3_step h x
    have s4 := c4_step h x
    have s5 := c5_step h x
    have s6 := c6_step h x
    have s7 : cnt J ds (x + 1) = cnt J ds x + if kk J ds x = 7 then 1 else 0 := by
      rw [cnt]
      congr 1
      by_cases c : kk J ds x = 7
      · rw [if_pos c, if_pos ((kk_seven h x).1 c)]
      · rw [if_neg c, if_neg (fun q => c ((kk_seven h x).2 q))]
    refine ⟨by rw [kl_cn, ih.e1, s1], by rw [kl_cn, ih.e2, s2], by rw [kl_cn, ih.e3, s3], by rw [kl_cn, ih.e4, s4], by rw [kl_cn, ih.e5, s5], by rw [kl_cn, ih.e6, s6], by rw [kl_cn, ih.e7, s7], ?_⟩
    have a := ih.all
    rw [s1, s2, s3, s4, s5, s6, s7]
    rcases kk_cases (J := J) (ds := ds) x with e | e | e | e | e | e | e <;> (rw [e]; simp; omega)
set_option maxHeartbeats 2000000 in
theorem mp_natU {b j : Int} {B J N ds : Nat} (s : Sh b j B J N ds) (n : Nat) (hn : n < N) : mp b j (n : Int) = ((ub ds n : Nat) : Int) ∧ wrap64 (mp b j (n : Int) + 1) = ((ub ds n + 1 : Nat) : Int) ∧ wrap64 (wrap64 (mp b j (n : Int) + 2) + 4) = ((ub ds n + 6 : Nat) : Int) := by
  have hB := s.hB
  have hN := s.hN
  have hds := s.hds
  have hd := s.hd
  have w1 : wrap64 ((n : Int) * 128) = ((128 * n : Nat) : Int) := by rw [w64 (by omega) (by omega)]; omega
  have m1 : mp b j (n : Int) = ((ub ds n : Nat) : Int) := by
    unfold mp ub
    by_cases h : n = 0
    · rw [if_pos (by omega), if_pos h, hd, w64 (by omega) (by omega)]; omega
    · rw [if_neg (by omega), if_neg h, w1]
  have hM : ub ds n ≤ 8192 := by unfold ub; split <;> omega
  have w3 : wrap64 (mp b j (n : Int) + 2) = ((ub ds n + 2 : Nat) : Int) := by rw [m1, w64 (by omega) (by omega)]; omega
  refine ⟨m1, ?_, ?_⟩
  · rw [m1, w64 (by omega) (by omega)]; omega
  · rw [w3, w64 (by omega) (by omega)]; omega
set_option maxHeartbeats 2000000 in
theorem kk_flat {J ds : Nat} (h : 7 + ds + J < 128) (x : Nat) : ((kk J ds x : Nat) : Int) = if (x : Int) = 0 then 1 else if (x : Int) < ((ub ds (x / 128) : Nat) : Int) then 2 else if (x : Int) = ((ub ds (x / 128) : Nat) : Int) then 3 else if (x : Int) = ((ub ds (x / 128) + 1 : Nat) : Int) then 4 else if (x : Int) < ((ub ds (x / 128) + 6 : Nat) : Int) then 5 else if (x : Int) < ((Dn J ds (x / 128) : Nat) : Int) then 6 else 7 := by
  unfold kk ub Dn
  by_cases c : x / 128 = 0
  · simp only [if_pos c]
    repeat' (first | omega | split)
  · simp only [if_neg c]
    repeat' (first | omega | split)
set_option maxHeartbeats 2000000 in
theorem knd_in {b j : Int} {B J N ds : Nat} (h : chk b j = 0) (s : Sh b j B J N ds) (x : Nat) (hx : x < B) : knd b j (x : Int) = ((kk J ds x : Nat) : Int) := by
  have hb := s.hb
  have hB := s.hB
  have hN := s.hN
  have hr := s.room
  have hn : x / 128 < N := by omega
  have g : gof b j (x : Int) = (((x / 128 : Nat) : Int), true) := by
    unfold gof
    rw [if_pos h, if_neg (by omega), if_neg (by omega), Int.tdiv_eq_ediv_of_nonneg (by omega), w64 (by omega) (by omega)]
    rfl
  obtain ⟨m1, m2, m4⟩ := mp_natU s (x / 128) hn
  have d1 := (grp_nat s (x / 128) hn).2.2.1
  rw [show (grp b j ((x / 128 : Nat) : Int)).2.2.2.2.2 = dat b j ((x / 128 : Nat) : Int) from rfl] at d1
  unfold knd
  rw [if_pos h, g, if_pos rfl]
  have e : kin (grp b j ((x / 128 : Nat) : Int)) (x : Int) = (if (x : Int) = 0 then 1 else if (x : Int) < mp b j ((x / 128 : Nat) : Int) then 2 else if (x : Int) = mp b j ((x / 128 : Nat) : Int) then 3 else if (x : Int) = wrap64 (mp b j ((x / 128 : Nat) : Int) + 1) then 4 else if (x : Int) < wrap64 (wrap64 (mp b j ((x / 128 : Nat) : Int) + 2) + 4) then 5 else if (x : Int) < dat b j ((x / 128 : Nat) : Int) then 6 else 7) := rfl
  rw [e, m4, m2, m1, d1, kk_flat hr.1 x]
theorem knd_out {b j : Int} {B J N ds : Nat} (h : chk b j = 0) (s : Sh b j B J N ds) : knd b j b = 8 := by
  have hb := s.hb
  have hB := s.hB
  have g : gof b j b = (0, false) := by
    unfold gof
    rw [if_pos h, if_neg (by omega), if_pos (by omega)]
  unfold knd
  rw [if_pos h, g, if_neg (by decide)]
theorem cap_evU {b j : Int} {B J N ds : Nat} (s : Sh b j B J N ds) : Ev (fun k => layout_Capacity.f k b j) ((cnt J ds B : Nat) : Int) := by
  have hN := s.hN
  have hB := s.hB
  unfold layout_Capacity.f
  refine Ev.bind (groups_ev b j) ?_
  rw [s.hg]
  refine Ev.iff_pos (by omega) ?_
  rw [Int.toNat_natCast]
  refine Ev.bind (lst_ev b j N) ?_
  rw [cp_all s]
  exact Ev.now _
set_option maxHeartbeats 2000000 in
theorem st_upto {b j : Int} {B J N ds : Nat} (s : Sh b j B J N ds) : ∀ m : Nat, m ≤ N → Uses.us_st (Cap.upto (fun i => (i, grp b j (i : Int))) m) = (((if 128 * m < B then 128 * m else B : Nat) : Int), (m : Int))
  | 0, _ => by
    have := s.hB
    rw [if_pos (by omega)]; rfl
  | m + 1, hm => by
    have ih := st_upto s m (by omega)
    have hN := s.hN
    have hB := s.hB
    have g := (grp_nat s m (by omega)).2.1
    rw [Cap.upto_succ, Uses.us_st_snoc, ih]
    show (wrap64 (((if 128 * m < B then 128 * m else B : Nat) : Int) + (grp b j (m : Int)).2.1), wrap64 ((m : Int) + 1)) = _
    rw [g, if_pos (show 128 * m < B by omega), w64 (n := (m : Int) + 1) (by omega) (by omega), w64 (by omega) (by omega)]
    refine Prod.ext ?_ ?_
    · show ((128 * m : Nat) : Int) + ((min 128 (B - 128 * m) : Nat) : Int) = _
      by_cases c : 128 * (m + 1) < B
      · rw [if_pos c]; omega
      · rw [if_neg c]; omega
    · show (m : Int) + 1 = ((m + 1 : Nat) : Int)
      omega
theorem drop_upto {α : Type} (f : Nat → α) (N m : Nat) (h : m < N) : (Cap.upto f N).drop m = f m :: (Cap.upto f N).drop (m + 1) := by
  rw [List.drop_eq_getElem_cons (by rw [Cap.upto_length]; exact h)]
  congr 1
  simp [Cap.upto]
set_option maxHeartbeats 2000000 in
theorem okl_from {b j : Int} {B J N ds : Nat} (s : Sh b j B J N ds) (d : Nat) : ∀ m : Nat, m + d = N → Uses.us_okl (Uses.us_st (Cap.upto (fun i => (i, grp b j (i : Int))) m)) ((Cap.upto (fun i => (i, grp b j (i : Int))) N).drop m) = true := by
  induction d with
  | zero =>
    intro m hm
    rw [List.drop_of_length_le (by rw [Cap.upto_length]; omega)]
    rfl
  | succ d ih =>
    intro m hm
    have nx := ih (m + 1) (by omega)
    have hN := s.hN
    have hB := s.hB
    have hl := s.last
    have hr := s.room
    obtain ⟨g1, g2, g3, _⟩ := grp_nat s m (by omega)
    have st := st_upto s m (by omega)
    rw [drop_upto _ N m (by omega), Uses.us_okl, Bool.and_eq_true]
    rw [Cap.upto_succ, Uses.us_st_snoc] at nx
    refine ⟨decide_eq_true ?_, nx⟩
    rw [st, if_pos (show 128 * m < B by omega)]
    have w : wrap64 (((128 * m : Nat) : Int) + (grp b j (m : Int)).2.1) = ((128 * m + min 128 (B - 128 * m) : Nat) : Int) := by
      rw [g2, w64 (by omega) (by omega)]; omega
    refine ⟨rfl, g1, ?_, ?_⟩
    · show ¬ (grp b j (m : Int)).2.1 < 16
      rw [g2]; omega
    · show ¬ (grp b j (m : Int)).2.2.2.2.2 > wrap64 (((128 * m : Nat) : Int) + (grp b j (m : Int)).2.1)
      rw [w, g3]
      have hD : Dn J ds m ≤ 128 * m + min 128 (B - 128 * m) := by
        unfold Dn
        split <;> omega
      omega
theorem grp_evU {b j : Int} {B J N ds : Nat} (s : Sh b j B J N ds) : Ev (fun k => slipwaylaw11_LayoutUses.grp k b j) (b, (N : Int)) := by
  have hN := s.hN
  have hB := s.hB
  unfold slipwaylaw11_LayoutUses.grp
  refine Ev.bind (groups_ev b j) ?_
  rw [s.hg]
  refine Ev.iff_pos (by omega) ?_
  rw [Int.toNat_natCast]
  refine Ev.bind (lst_ev b j N) (Ev.iff_pos (okl_from s N 0 (by omega)) ?_)
  rw [st_upto s N (Nat.le_refl _), if_neg (by omega), ← s.hb]
  exact Ev.now _
theorem uadd (x y : Nat) (hx : x < 100000) (hy : y < 100000) : wrap64 ((x : Int) + (y : Int)) = ((x + y : Nat) : Int) := by rw [w64 (by omega) (by omega)]; omega
theorem umul (x : Nat) (hx : x < 100000) : ((4 * x : Nat) : Int) = wrap64 ((x : Int) * 4) := by rw [w64 (by omega) (by omega)]; omega
set_option maxHeartbeats 2000000 in
theorem uses_loop {b j : Int} {B J N ds : Nat} (h : chk b j = 0) (s : Sh b j B J N ds) (d : Nat) : ∀ x : Nat, x + d = B → Ev (fun k => slipwaylaw11_LayoutUses.l0 k (kl J ds x) (x : Int) b j b (N : Int)) true := by
  have hb := s.hb
  have hB := s.hB
  have hN := s.hN
  have hr := s.room
  induction d with
  | zero =>
    intro x hx
    have e : x = B := by omega
    subst e
    obtain ⟨e1, e2, e3, e4, e5, e6, e7, all⟩ := cnts hr.1 x
    have hl := s.last
    have hds := s.hds
    have hJ := s.hJ
    have v1 : c1 x = 1 := by unfold c1; rw [if_neg (by omega)]
    have v2 : c2 ds x = ds := by unfold c2; rw [if_neg (by omega)]
    have v3 : c3 ds x = N := by unfold c3; repeat' (first | omega | split)
    have v4 : c4 ds x = N := by unfold c4; repeat' (first | omega | split)
    have v5 : c5 ds x = 4 * N := by unfold c5; repeat' (first | omega | split)
    have v6 : c6 J ds x = J := by unfold c6; rw [if_neg (by omega)]
    rw [v1, v2, v3, v4, v5, v6] at all
    have n1 : Uses.us_cn (kl J ds x) 1 = 1 := by unfold Uses.us_cn; have := e1; rw [v1] at this; exact congrArg Int.ofNat this
    have n2 : Uses.us_cn (kl J ds x) 2 = (ds : Int) := by unfold Uses.us_cn; have := e2; rw [v2] at this; exact congrArg Int.ofNat this
    have n3 : Uses.us_cn (kl J ds x) 3 = (N : Int) := by unfold Uses.us_cn; have := e3; rw [v3] at this; exact congrArg Int.ofNat this
    have n4 : Uses.us_cn (kl J ds x) 4 = (N : Int) := by unfold Uses.us_cn; have := e4; rw [v4] at this; exact congrArg Int.ofNat this
    have n5 : Uses.us_cn (kl J ds x) 5 = ((4 * N : Nat) : Int) := by unfold Uses.us_cn; have := e5; rw [v5] at this; exact congrArg Int.ofNat this
    have n6 : Uses.us_cn (kl J ds x) 6 = (J : Int) := by unfold Uses.us_cn; have := e6; rw [v6] at this; exact congrArg Int.ofNat this
    have n7 : Uses.us_cn (kl J ds x) 7 = ((cnt J ds x : Nat) : Int) := by unfold Uses.us_cn; exact congrArg Int.ofNat e7
    clear e1 e2 e3 e4 e5 e6 e7 v1 v2 v3 v4 v5 v6
    have G := groups_ev b j
    rw [s.hg] at G
    have D := descs_ev b j
    rw [s.hd] at D
    have C := cap_evU s
    have K := kind_ev b j b
    rw [knd_out h s] at K
    generalize cnt J ds x = c at all n7 C
    have p1 : ¬ (x : Int) < b := by omega
    have a7 : (c : Int) > 0 := by omega
    have r0 : ds < 100000 := by omega
    have r1 : 1 + ds < 100000 := by omega
    have r2 : N < 100000 := by omega
    have r3 : 1 + ds + N < 100000 := by omega
    have r4 : 1 + ds + N + N < 100000 := by omega
    have r5 : 4 * N < 100000 := by omega
    have r6 : 1 + ds + N + N + 4 * N < 100000 := by omega
    have r7 : J < 100000 := by omega
    have r8 : 1 + ds + N + N + 4 * N + J < 100000 := by omega
    have r9 : c < 100000 := by omega
    have rs : ((c + (1 + ds + N + N + 4 * N + J) : Nat) : Int) = b := by omega
    have q5 := umul N r2
    have a1 : wrap64 ((1 : Int) + (ds : Int)) = ((1 + ds : Nat) : Int) := uadd 1 ds (by decide) r0
    have a2 := uadd (1 + ds) N r1 r2
    have a3 := uadd (1 + ds + N) N r3 r2
    have a4 := uadd (1 + ds + N + N) (4 * N) r4 r5
    have a5 := uadd (1 + ds + N + N + 4 * N) J r6 r7
    have a6 : wrap64 ((c : Int) + ((1 + ds + N + N + 4 * N + J : Nat) : Int)) = b := (uadd c (1 + ds + N + N + 4 * N + J) r9 r8).trans rs
    have hj := s.hj
    refine Ev.step (f := fun k => (layout_Groups.f k b j).bind fun t267 => ((layout_Descs.f k b j).bind fun t268 => ((layout_Capacity.f k b j).bind fun t269 => ((layout_Kind.f k b j b).bind fun t270 => (if b = b ∧ (N : Int) = t267 ∧ Uses.us_cn (kl J ds x) 1 = 1 ∧ Uses.us_cn (kl J ds x) 2 = t268 ∧ Uses.us_cn (kl J ds x) 3 = (N : Int) ∧ Uses.us_cn (kl J ds x) 4 = (N : Int) ∧ Uses.us_cn (kl J ds x) 5 = wrap64 ((N : Int) * 4) ∧ Uses.us_cn (kl J ds x) 6 = j ∧ Uses.us_cn (kl J ds x) 7 = t269 ∧ wrap64 (Uses.us_cn (kl J ds x) 7 + wrap64 (wrap64 (wrap64 (wrap64 (wrap64 (Uses.us_cn (kl J ds x) 1 + Uses.us_cn (kl J ds x) 2) + Uses.us_cn (kl J ds x) 3) + Uses.us_cn (kl J ds x) 4) + Uses.us_cn (kl J ds x) 5) + Uses.us_cn (kl J ds x) 6)) = b ∧ Uses.us_cn (kl J ds x) 7 > 0 then (some (t270 == 8)) else (none)))))) (fun k => ?_) (Ev.bind G (Ev.bind D (Ev.bind C (Ev.bind K (Ev.iff_pos ?_ (Ev.now _))))))
    · simp only [slipwaylaw11_LayoutUses.l0]
      rw [if_neg p1]
    · rw [n1, n2, n3, n4, n5, n6, n7, a1, a2, a3, a4, a5, a6]
      exact ⟨rfl, rfl, rfl, rfl, rfl, rfl, q5, hj.symm, rfl, rfl, a7⟩
  | succ d ih =>
    intro x hx
    have nx := ih (x + 1) (by omega)
    have K := kind_ev b j (x : Int)
    rw [knd_in h s x (by omega)] at K
    have kc := kk_cases (J := J) (ds := ds) x
    have p1 : (x : Int) < b := by omega
    have p2 : (0 : Int) ≤ ((kk J ds x : Nat) : Int) ∧ ((kk J ds x : Nat) : Int) < 100 ∧ (kl J ds x).length < 100000 := by
      rw [kl_len]; omega
    have w : wrap64 ((x : Int) + 1) = ((x + 1 : Nat) : Int) := by rw [w64 (by omega) (by omega)]; omega
    refine Ev.step (f := fun k => (layout_Kind.f k b j (x : Int)).bind fun t266 => (if 0 ≤ t266 ∧ t266 < 100 ∧ (kl J ds x).length < 100000 then (slipwaylaw11_LayoutUses.l0 k (t266 :: kl J ds x) (wrap64 ((x : Int) + 1)) b j b (N : Int)) else (none))) (fun k => ?_) (Ev.bind K (Ev.iff_pos p2 ?_))
    · simp only [slipwaylaw11_LayoutUses.l0]
      rw [if_pos p1]
    · rw [w]
      exact nx
set_option maxHeartbeats 2000000 in
theorem LayoutUses : slipwaylaw11_LayoutUses.Pure := by
  intro a c _ _
  refine Ev.rounds ?_
  unfold slipwaylaw11_LayoutUses.f
  refine Ev.bind live_evU (Ev.iff_pos rfl (Ev.bind (plan_ev _ _) ?_))
  generalize wrap64 (wrap64 (Int.tmod a 1500) + 1) = s0
  generalize wrap64 (wrap64 (Int.tmod c 49) + 16) = j0
  have key : ∀ b j : Int, chk b j = 0 → Ev (fun k => (slipwaylaw11_LayoutUses.grp k b j).bind fun bt264 => (slipwaylaw11_LayoutUses.l0 k [] 0 b j bt264.1 bt264.2)) true := fun b j h => by
    obtain ⟨B, J, N, ds, s⟩ := sh_of h
    exact Ev.bind (grp_evU s) (uses_loop h s B 0 (by omega))
  unfold pln
  by_cases c1 : bounds s0 j0
  · rw [if_pos c1]
    by_cases c2 : Int.tmod s0 128 < 16
    · rw [if_pos c2]
      by_cases c3 : chk (wrap64 (s0 - Int.tmod s0 128)) j0 = 0
      · rw [if_pos c3]; exact Ev.iff_pos rfl (key _ _ c3)
      · rw [if_neg c3]; exact Ev.iff_neg (by decide) (Ev.now _)
    · rw [if_neg c2]
      by_cases c3 : chk s0 j0 = 0
      · rw [if_pos c3]; exact Ev.iff_pos rfl (key _ _ c3)
      · rw [if_neg c3]; exact Ev.iff_neg (by decide) (Ev.now _)
  · rw [if_neg c1]; exact Ev.iff_neg (by decide) (Ev.now _)
end Go.Proofs.Ytbdnmdmfnopihaa.Pure
end
