/- Texts of the proof of LayoutPlaces, part 20. -/
import Derived.Test.YtbdnmdmfnopihaaLayoutPlacesM18
import Derived.Test.YtbdnmdmfnopihaaLayoutPlacesM13
import Derived.Test.YtbdnmdmfnopihaaLayoutPlacesM19
import Derived.Test.YtbdnmdmfnopihaaLayoutPlacesM15
section
namespace Go.Proofs.Ytbdnmdmfnopihaa.ShapeEv
set_option linter.unusedVariables false
set_option linter.unusedSimpArgs false
open Go.RowKit Go.Proofs.Ytbdnmdmfnopihaa.Print Go.Proofs.Ytbdnmdmfnopihaa.SMath Go.Proofs.Ytbdnmdmfnopihaa.SealEv Go.Proofs.YtbdnmdmfnopihaaW.PrintWords Go.Proofs.YtbdnmdmfnopihaaW.PrintLast Go.Proofs.YtbdnmdmfnopihaaW.PrintMore
def gof (b j x : Int) : Int × Bool := if chk b j = 0 then (if x < 0 then (0, false) else if x ≥ b then (0, false) else (wrap64 (Int.tdiv x 128), true)) else (0, false)
theorem groupof_ev (b j x : Int) : Ev (fun k => layout_GroupOf.f k b j x) (gof b j x) := by
  unfold layout_GroupOf.f gof
  refine Ev.bind (check_ev b j) (Ev.fix (fun _ => ?_))
  repeat (first | rfl | split)
theorem grps_nat {b j : Int} (h : chk b j = 0) : grps b j = (b + 127) / 128 := by
  have hb := (chk_ok h).1
  unfold grps
  rw [if_pos h, ceil_small (by omega) (by omega) (by decide) (by decide)]
  omega
def ino (b j x : Int) : Int × Int × Int :=
  if chk b j = 0 then (if x < 1 then (0, 0, 1) else if x > 16 * grps b j then (0, 0, 1) else
    (wrap64 ((grp b j (wrap64 (Int.tdiv (wrap64 (x - 1)) 16))).2.2.2.2.1 + (wrap64 (Int.tdiv (Int.tmod (wrap64 (x - 1)) 16) 4))), wrap64 ((Int.tmod (Int.tmod (wrap64 (x - 1)) 16) 4) * 64), 0)) else (0, 0, chk b j)
set_option maxHeartbeats 2000000 in
theorem inodeat_ev (b j x : Int) : Ev (fun k => layout_InodeAt.f k b j x) (ino b j x) := by
  unfold layout_InodeAt.f ino
  refine Ev.bind (check_ev b j) ?_
  by_cases h : chk b j = 0
  · rw [if_pos h]
    refine Ev.iff_pos h ?_
    by_cases h1 : x < 1
    · rw [if_pos h1]; exact Ev.iff_pos h1 (Ev.now _)
    · rw [if_neg h1]
      refine Ev.iff_neg h1 (Ev.bind (inodes_ev b j) ?_)
      by_cases h2 : x > 16 * grps b j
      · rw [if_pos h2]; exact Ev.iff_pos h2 (Ev.now _)
      · rw [if_neg h2]; exact Ev.iff_neg h2 (Ev.bind (group_ev b j _) (Ev.now _))
  · rw [if_neg h]; exact Ev.iff_neg h (Ev.now _)
def kin (G : Int × Int × Int × Int × Int × Int) (x : Int) : Int :=
  if x = 0 then 1 else if x < G.2.2.1 then 2 else if x = G.2.2.1 then 3 else if x = G.2.2.2.1 then 4 else if x < wrap64 (G.2.2.2.2.1 + 4) then 5 else if x < G.2.2.2.2.2 then 6 else 7
def knd (b j x : Int) : Int := if chk b j = 0 then (if (gof b j x).2 = true then kin (grp b j (gof b j x).1) x else 8) else 0
theorem kin_ev (G : Int × Int × Int × Int × Int × Int) (x : Int) : Ev (fun _ => if x = 0 then (some 1) else (if x < G.2.2.1 then (some 2) else (if x = G.2.2.1 then (some 3) else (if x = G.2.2.2.1 then (some 4) else (if x < (wrap64 (G.2.2.2.2.1 + 4)) then (some 5) else (if x < G.2.2.2.2.2 then (some 6) else (some 7))))))) (kin G x) := by
  refine Ev.fix (fun _ => ?_)
  unfold kin
  repeat (first | rfl | split)
theorem kind_ev (b j x : Int) : Ev (fun k => layout_Kind.f k b j x) (knd b j x) := by
  unfold layout_Kind.f knd
  refine Ev.bind (check_ev b j) ?_
  by_cases h : chk b j = 0
  · rw [if_pos h]
    refine Ev.iff_pos h (Ev.bind (groupof_ev b j x) ?_)
    by_cases h1 : (gof b j x).2 = true
    · rw [if_pos h1]
      exact Ev.iff_pos h1 (Ev.bind (group_ev b j _) (kin_ev _ x))
    · rw [if_neg h1]
      exact Ev.iff_neg h1 (Ev.now _)
  · rw [if_neg h]; exact Ev.iff_neg h (Ev.now _)
structure Sh (b j : Int) (B J N ds : Nat) : Prop where
  hb : b = (B : Int)
  hj : j = (J : Int)
  hB : 1 ≤ B ∧ B ≤ 8192
  hJ : 16 ≤ J ∧ J ≤ 64
  hN : N = (B + 127) / 128
  hg : grps b j = (N : Int)
  hd : dsc b j = (ds : Int)
  hds : ds ≤ 4
  last : 128 * (N - 1) + 16 ≤ B
  room : 7 + ds + J < 128 ∧ 7 + ds + J < B
set_option maxHeartbeats 2000000 in
theorem sh_of {b j : Int} (h : chk b j = 0) : ∃ B J N ds, Sh b j B J N ds := by
  have hbd := chk_ok h
  have hb := hbd.1
  have hj := hbd.2
  have hg := grps_nat h
  have c1 : ceil_ b 128 = (b + 127) / 128 := by rw [ceil_small (by omega) (by omega) (by decide) (by decide)]; omega
  have c2 : wrap64 (ceil_ b 128 * 16) = (b + 127) / 128 * 16 := by rw [c1]; exact w64 (by omega) (by omega)
  have c3 : ceil_ (wrap64 (ceil_ b 128 * 16)) 256 = ((b + 127) / 128 * 16 + 255) / 256 := by rw [c2, ceil_small (by omega) (by omega) (by decide) (by decide)]; omega
  have hd : dsc b j = ((b + 127) / 128 * 16 + 255) / 256 := by
    unfold dsc
    rw [hg, w64 (by omega) (by omega), ceil_small (by omega) (by omega) (by decide) (by decide)]
    omega
  have h' := h
  unfold chk at h'
  rw [if_pos hbd, c3, c1] at h'
  rw [w64 (n := (b + 127) / 128 - 1) (by omega) (by omega), w64 (n := ((b + 127) / 128 - 1) * 128) (by omega) (by omega), w64 (n := b - ((b + 127) / 128 - 1) * 128) (by omega) (by omega)] at h'
  by_cases q1 : b - ((b + 127) / 128 - 1) * 128 < 16
  · rw [if_pos q1] at h'; exact absurd h' (by decide)
  · rw [if_neg q1] at h'
    rw [w64 (n := 1 + ((b + 127) / 128 * 16 + 255) / 256) (by omega) (by omega), w64 (n := 1 + ((b + 127) / 128 * 16 + 255) / 256 + 2) (by omega) (by omega), w64 (n := 1 + ((b + 127) / 128 * 16 + 255) / 256 + 2 + 4) (by omega) (by omega), w64 (n := 1 + ((b + 127) / 128 * 16 + 255) / 256 + 2 + 4 + j) (by omega) (by omega)] at h'
    by_cases q2 : 1 + ((b + 127) / 128 * 16 + 255) / 256 + 2 + 4 + j ≥ mn b 128
    · rw [if_pos q2] at h'; exact absurd h' (by decide)
    · unfold mn at q2
      refine ⟨b.toNat, j.toNat, (b.toNat + 127) / 128, (((b.toNat + 127) / 128) * 16 + 255) / 256, ⟨by omega, by omega, by omega, by omega, rfl, by rw [hg]; omega, by rw [hd]; omega, by omega, by omega, by split at q2 <;> omega⟩⟩
end Go.Proofs.Ytbdnmdmfnopihaa.ShapeEv
end
