/- Texts of the proof of LayoutUses, part 20. -/
import Derived.Test.YtbdnmdmfnopihaaLayoutUsesM19
import Derived.Test.YtbdnmdmfnopihaaLayoutUsesM13
import Derived.Test.YtbdnmdmfnopihaaLayoutUsesM16
section
namespace Go.Proofs.Ytbdnmdmfnopihaa.ShapeEv
set_option linter.unusedVariables false
set_option linter.unusedSimpArgs false
open Go.RowKit Go.Proofs.Ytbdnmdmfnopihaa.Print Go.Proofs.Ytbdnmdmfnopihaa.SMath Go.Proofs.Ytbdnmdmfnopihaa.SealEv Go.Proofs.YtbdnmdmfnopihaaW.PrintWords Go.Proofs.YtbdnmdmfnopihaaW.PrintLast Go.Proofs.YtbdnmdmfnopihaaW.PrintMore
def gof (b j x : Int) : Int × Bool := if chk b j = 0 then (if x < 0 then (0, false) else if x ≥ b then (0, false) else (wrap64 (Int.tdiv x 128), true)) else (0, false)
theorem groupof_ev (b j x : Int) : Ev (fun k => layout_GroupOf.f k b j x) (gof b j x) := by
  unfold layout_GroupOf.f gof
  refine Ev.bind (check_ev b j) (Ev.fix (fun _ => ?_))
  repeat (first | rfl | split)
theorem grps_nat {b j : Int} (h : chk b j = 0) : grps b j = (b + 127) / 128 := by
  have hb := (chk_ok h).1
  unfold grps
  rw [if_pos h, ceil_small (by omega) (by omega) (by decide) (by decide)]
  omega
def kin (G : Int × Int × Int × Int × Int × Int) (x : Int) : Int :=
  if x = 0 then 1 else if x < G.2.2.1 then 2 else if x = G.2.2.1 then 3 else if x = G.2.2.2.1 then 4 else if x < wrap64 (G.2.2.2.2.1 + 4) then 5 else if x < G.2.2.2.2.2 then 6 else 7
def knd (b j x : Int) : Int := if chk b j = 0 then (if (gof b j x).2 = true then kin (grp b j (gof b j x).1) x else 8) else 0
theorem kin_ev (G : Int × Int × Int × Int × Int × Int) (x : Int) : Ev (fun _ => if x = 0 then (some 1) else (if x < G.2.2.1 then (some 2) else (if x = G.2.2.1 then (some 3) else (if x = G.2.2.2.1 then (some 4) else (if x < (wrap64 (G.2.2.2.2.1 + 4)) then (some 5) else (if x < G.2.2.2.2.2 then (some 6) else (some 7))))))) (kin G x) := by
  refine Ev.fix (fun _ => ?_)
  unfold kin
  repeat (first | rfl | split)
theorem kind_ev (b j x : Int) : Ev (fun k => layout_Kind.f k b j x) (knd b j x) := by
  unfold layout_Kind.f knd
  refine Ev.bind (check_ev b j) ?_
  by_cases h : chk b j = 0
  · rw [if_pos h]
    refine Ev.iff_pos h (Ev.bind (groupof_ev b j x) ?_)
    by_cases h1 : (gof b j x).2 = true
    · rw [if_pos h1]
      exact Ev.iff_pos h1 (Ev.bind (group_ev b j _) (kin_ev _ x))
    · rw [if_neg h1]
      exact Ev.iff_neg h1 (Ev.now _)
  · rw [if_neg h]; exact Ev.iff_neg h (Ev.now _)
structure Sh (b j : Int) (B J N ds : Nat) : Prop where
  hb : b = (B : Int)
  hj : j = (J : Int)
  hB : 1 ≤ B ∧ B ≤ 8192
  hJ : 16 ≤ J ∧ J ≤ 64
  hN : N = (B + 127) / 128
  hg : grps b j = (N : Int)
  hd : dsc b j = (ds : Int)
  hds : ds ≤ 4
  last : 128 * (N - 1) + 16 ≤ B
  room : 7 + ds + J < 128 ∧ 7 + ds + J < B
set_option maxHeartbeats 2000000 in
theorem sh_of {b j : Int} (h : chk b j = 0) : ∃ B J N ds, Sh b j B J N ds := by
  have hbd := chk_ok h
  have hb := hbd.1
  have hj := hbd.2
  have hg := grps_nat h
  have c1 : ceil_ b 128 = (b + 127) / 128 := by rw [ceil_small (by omega) (by omega) (by decide) (by decide)]; omega
  have c2 : wrap64 (ceil_ b 128 * 16) = (b + 127) / 128 * 16 := by rw [c1]; exact w64 (by omega) (by omega)
  have c3 : ceil_ (wrap64 (ceil_ b 128 * 16)) 256 = ((b + 127) / 128 * 16 + 255) / 256 := by rw [c2, ceil_small (by omega) (by omega) (by decide) (by decide)]; omega
  have hd : dsc b j = ((b + 127) / 128 * 16 + 255) / 256 := by
    unfold dsc
    rw [hg, w64 (by omega) (by omega), ceil_small (by omega) (by omega) (by decide) (by decide)]
    omega
  have h' := h
  unfold chk at h'
  rw [if_pos hbd, c3, c1] at h'
  rw [w64 (n := (b + 127) / 128 - 1) (by omega) (by omega), w64 (n := ((b + 127) / 128 - 1) * 128) (by omega) (by omega), w64 (n := b - ((b + 127) / 128 - 1) * 128) (by omega) (by omega)] at h'
  by_cases q1 : b - ((b + 127) / 128 - 1) * 128 < 16
  · rw [if_pos q1] at h'; exact absurd h' (by decide)
  · rw [if_neg q1] at h'
    rw [w64 (n := 1 + ((b + 127) / 128 * 16 + 255) / 256) (by omega) (by omega), w64 (n := 1 + ((b + 127) / 128 * 16 + 255) / 256 + 2) (by omega) (by omega), w64 (n := 1 + ((b + 127) / 128 * 16 + 255) / 256 + 2 + 4) (by omega) (by omega), w64 (n := 1 + ((b + 127) / 128 * 16 + 255) / 256 + 2 + 4 + j) (by omega) (by omega)] at h'
    by_cases q2 : 1 + ((b + 127) / 128 * 16 + 255) / 256 + 2 + 4 + j ≥ mn b 128
    · rw [if_pos q2] at h'; exact absurd h' (by decide)
    · unfold mn at q2
      refine ⟨b.toNat, j.toNat, (b.toNat + 127) / 128, (((b.toNat + 127) / 128) * 16 + 255) / 256, ⟨by omega, by omega, by omega, by omega, rfl, by rw [hg]; omega, by rw [hd]; omega, by omega, by omega, by split at q2 <;> omega⟩⟩
def Dn (J ds n : Nat) : Nat := if n = 0 then 7 + ds + J else 128 * n + 6
theorem Dn_ge (J ds n : Nat) (h : 7 + ds + J < 128) : 128 * n ≤ Dn J ds n ∧ Dn J ds n < 128 * (n + 1) := by
  unfold Dn
  split <;> omega
set_option maxHeartbeats 2000000 in
theorem grp_nat {b j : Int} {B J N ds : Nat} (s : Sh b j B J N ds) (n : Nat) (hn : n < N) :
    (grp b j (n : Int)).1 = ((128 * n : Nat) : Int) ∧ (grp b j (n : Int)).2.1 = ((min 128 (B - 128 * n) : Nat) : Int) ∧ (grp b j (n : Int)).2.2.2.2.2 = ((Dn J ds n : Nat) : Int) ∧
    (∀ x : Int, ((128 * n : Nat) : Int) ≤ x → (kin (grp b j (n : Int)) x = 7 ↔ ((Dn J ds n : Nat) : Int) ≤ x)) := by
  have hb := s.hb
  have hj := s.hj
  have hB := s.hB
  have hJ := s.hJ
  have hN := s.hN
  have hds := s.hds
  have hd := s.hd
  have hr := s.room
  have hB128 : 128 * n < B := by omega
  have w1 : wrap64 ((n : Int) * 128) = ((128 * n : Nat) : Int) := by rw [w64 (by omega) (by omega)]; omega
  have w2 : wrap64 (b - wrap64 ((n : Int) * 128)) = ((B - 128 * n : Nat) : Int) := by rw [w1, w64 (by omega) (by omega)]; omega
  have m1 : mp b j (n : Int) = (((if n = 0 then 1 + ds else 128 * n) : Nat) : Int) := by
    unfold mp
    by_cases h : n = 0
    · rw [if_pos (by omega), if_pos h, hd, w64 (by omega) (by omega)]; omega
    · rw [if_neg (by omega), if_neg h, w1]
  have hM : (if n = 0 then 1 + ds else 128 * n) ≤ 8192 := by split <;> omega
  have w3 : wrap64 (mp b j (n : Int) + 2) = (((if n = 0 then 1 + ds else 128 * n) + 2 : Nat) : Int) := by rw [m1, w64 (by omega) (by omega)]; omega
  have w4 : wrap64 (wrap64 (mp b j (n : Int) + 2) + 4) = (((if n = 0 then 1 + ds else 128 * n) + 6 : Nat) : Int) := by rw [w3, w64 (by omega) (by omega)]; omega
  have w5 : wrap64 (mp b j (n : Int) + 1) = (((if n = 0 then 1 + ds else 128 * n) + 1 : Nat) : Int) := by rw [m1, w64 (by omega) (by omega)]; omega
  have d1 : dat b j (n : Int) = ((Dn J ds n : Nat) : Int) := by
    unfold dat Dn
    by_cases h : n = 0
    · rw [if_pos (by omega), if_pos h, w4, if_pos h, w64 (by omega) (by omega)]; omega
    · rw [if_neg (by omega), if_neg h, w4, if_neg h]
  refine ⟨w1, ?_, d1, fun x hx => ?_⟩
  · show mn 128 (wrap64 (b - wrap64 ((n : Int) * 128))) = _
    rw [w2]
    unfold mn
    split <;> omega
  · have e : kin (grp b j (n : Int)) x = (if x = 0 then 1 else if x < mp b j (n : Int) then 2 else if x = mp b j (n : Int) then 3 else if x = wrap64 (mp b j (n : Int) + 1) then 4 else if x < wrap64 (wrap64 (mp b j (n : Int) + 2) + 4) then 5 else if x < dat b j (n : Int) then 6 else 7) := rfl
    rw [e, w4, w5, d1, m1]
    have hD : Dn J ds n = if n = 0 then 7 + ds + J else 128 * n + 6 := rfl
    by_cases hn0 : n = 0
    · rw [if_pos hn0] at hD
      simp only [hn0, if_true] at *
      repeat (first | omega | split)
    · rw [if_neg hn0] at hD
      rw [if_neg hn0, hD]
      repeat (first | omega | split)
def cnt (J ds : Nat) : Nat → Nat
  | 0 => 0
  | x + 1 => cnt J ds x + if Dn J ds (x / 128) ≤ x then 1 else 0
def Sg (J ds : Nat) : Nat → Nat
  | 0 => 0
  | n + 1 => Sg J ds n + (128 * (n + 1) - Dn J ds n)
set_option maxHeartbeats 2000000 in
theorem cnt_eq (J ds : Nat) (h : 7 + ds + J < 128) : ∀ x : Nat, cnt J ds x = Sg J ds (x / 128) + (x - Dn J ds (x / 128))
  | 0 => by simp [cnt, Sg]
  | x + 1 => by
    have ih := cnt_eq J ds h x
    have d0 := Dn_ge J ds (x / 128) h
    rw [cnt, ih]
    by_cases c : (x + 1) % 128 = 0
    · have e : (x + 1) / 128 = x / 128 + 1 := by omega
      have d1 := Dn_ge J ds (x / 128 + 1) h
      rw [e, Sg, if_pos (by omega)]
      omega
    · have e : (x + 1) / 128 = x / 128 := by omega
      rw [e]
      split <;> omega
theorem Sg_le (J ds : Nat) : ∀ n, Sg J ds n ≤ 128 * n
  | 0 => by simp [Sg]
  | n + 1 => by
    have ih := Sg_le J ds n
    have d0 : 128 * n ≤ Dn J ds n ∨ n = 0 := by unfold Dn; split <;> omega
    rw [Sg]
    omega
theorem lst_ev (b j : Int) : ∀ m : Nat, Ev (fun k => layout_Capacity.lst k b j m) (Cap.upto (fun i => (i, grp b j (i : Int))) m)
  | 0 => by
    unfold layout_Capacity.lst
    exact Ev.now _
  | m + 1 => by
    unfold layout_Capacity.lst
    rw [Cap.upto_succ]
    exact Ev.bind (lst_ev b j m) (Ev.bind (group_ev b j _) (Ev.now _))
set_option maxHeartbeats 2000000 in
theorem cp_nat {b j : Int} {B J N ds : Nat} (s : Sh b j B J N ds) : ∀ m : Nat, m < N → Cap.cp (Cap.upto (fun i => (i, grp b j (i : Int))) m) = ((Sg J ds m : Nat) : Int)
  | 0, _ => rfl
  | m + 1, hm => by
    have hB := s.hB
    have hN := s.hN
    have ih := cp_nat s m (by omega)
    obtain ⟨g1, g2, g3, _⟩ := grp_nat s m (by omega)
    have d0 := Dn_ge J ds m s.room.1
    have sl := Sg_le J ds m
    rw [Cap.upto_succ, Cap.cp_snoc, ih]
    simp only []
    rw [g1, g2, g3, Sg, w64 (n := ((128 * m : Nat) : Int) + ((min 128 (B - 128 * m) : Nat) : Int)) (by omega) (by omega)]
    rw [w64 (n := ((128 * m : Nat) : Int) + ((min 128 (B - 128 * m) : Nat) : Int) - ((Dn J ds m : Nat) : Int)) (by omega) (by omega), w64 (by omega) (by omega)]
    omega
set_option maxHeartbeats 2000000 in
theorem cp_all {b j : Int} {B J N ds : Nat} (s : Sh b j B J N ds) : Cap.cp (Cap.upto (fun i => (i, grp b j (i : Int))) N) = ((cnt J ds B : Nat) : Int) := by
  have hB := s.hB
  have hN := s.hN
  have hl := s.last
  obtain ⟨m, rfl⟩ : ∃ m, N = m + 1 := ⟨N - 1, by omega⟩
  have ih := cp_nat s m (by omega)
  obtain ⟨g1, g2, g3, _⟩ := grp_nat s m (by omega)
  have d0 := Dn_ge J ds m s.room.1
  have dB : Dn J ds m ≤ B := by
    have := s.room.2
    unfold Dn
    split <;> omega
  have sl := Sg_le J ds m
  rw [Cap.upto_succ, Cap.cp_snoc, ih, cnt_eq J ds s.room.1 B]
  simp only []
  rw [g1, g2, g3, w64 (n := ((128 * m : Nat) : Int) + ((min 128 (B - 128 * m) : Nat) : Int)) (by omega) (by omega)]
  rw [w64 (n := ((128 * m : Nat) : Int) + ((min 128 (B - 128 * m) : Nat) : Int) - ((Dn J ds m : Nat) : Int)) (by omega) (by omega), w64 (by omega) (by omega)]
  by_cases c : B % 128 = 0
  · have e : B / 128 = m + 1 := by omega
    have d1 := Dn_ge J ds (m + 1) s.room.1
    rw [e, Sg]
    omega
  · have e : B / 128 = m := by omega
    rw [e]
    omega
end Go.Proofs.Ytbdnmdmfnopihaa.ShapeEv
end
