/- Texts of the proof of InodeMakes, part 33. -/
import Derived.Test.YtjoojmodghpimaaInodeMakesM32
import Derived.Test.YtjoojmodghpimaaInodeMakesM19
import Derived.Test.YtjoojmodghpimaaInodeMakesM21
section
namespace Go.Proofs.Ytjoojmodghpimaa.InoEv
set_option linter.unusedVariables false
set_option linter.unusedSimpArgs false
open Go.RowKit Go.Proofs.Ytjoojmodghpimaa.Print Go.Proofs.Ytjoojmodghpimaa.SMath Go.Proofs.Ytjoojmodghpimaa.SealEv Go.Proofs.Ytjoojmodghpimaa.PackMath Go.Proofs.Ytjoojmodghpimaa.PackEv Go.Proofs.YtjoojmodghpimaaW.PrintWords Go.Proofs.YtjoojmodghpimaaW.PrintLast Go.Proofs.YtjoojmodghpimaaW.PrintMore
set_option maxHeartbeats 2000000 in
theorem pad_ev (d : Nat) : ∀ b : List Int, b.length + d = 64 → Ev (fun k => slipwayref14_Encode.l1 k b) (b ++ List.replicate d 0, 0) := by
  induction d with
  | zero =>
    intro b hb
    refine Ev.step (f := fun _ => some (b, 0)) (fun k => ?_) (by simpa using Ev.now _)
    simp only [slipwayref14_Encode.l1]
    rw [if_neg (by omega)]
  | succ d ih =>
    intro b hb
    have := ih (b ++ [0]) (by rw [List.length_append, List.length_singleton]; omega)
    rw [List.append_assoc] at this
    refine Ev.step (fun k => ?_) this
    simp only [slipwayref14_Encode.l1]
    rw [if_pos (by omega), if_pos (by omega)]
set_option maxHeartbeats 2000000 in
theorem go_both (a0 a1 a2 a3 a4 a5 : Int) (l : List S51) (hn : l.length ≤ 4) (hx : ∀ x ∈ l, RootOK x) (d : Nat) : ∀ (i : Nat) (b : List Int), i + d = l.length → b.length + 9 * d ≤ 64 →
    EvB (fun k => (inode_Encode.go k (l.drop i) b).bind fun b => if b.length ≤ 64 then some (b ++ List.replicate (64 - b.length) 0, (0 : Int)) else none) (fun k => slipwayref14_Encode.l0 k b (i : Int) a0 a1 a2 a3 a4 a5 l) (fun _ => True) := by
  induction d with
  | zero =>
    intro i b hi hb
    have e : l.drop i = [] := List.drop_eq_nil_of_le (by omega)
    rw [e]
    unfold inode_Encode.go
    refine EvB.lbind (Ev.now _) (EvB.lpos (by omega) ⟨_, Ev.now _, ?_, trivial⟩)
    refine Ev.step (fun k => ?_) (pad_ev (64 - b.length) b (by omega))
    simp only [slipwayref14_Encode.l0]
    rw [if_neg (by omega)]
  | succ d ih =>
    intro i b hi hb
    have hlt : i < l.length := by omega
    have hs := suc64 i l.length hlt (by omega)
    have hxi := hx _ (List.getElem_mem hlt)
    obtain ⟨r, hr, rR⟩ := seal_pack_ev rws (rv l[i]) (rv_u64 hxi)
    obtain ⟨q, hq, qR⟩ := ref_pack_ev rws (rv l[i]) (rv_u64 hxi)
    obtain rfl := rR.unique qR
    obtain ⟨r2, rP⟩ := rR.1 (rv_fit hxi)
    have hu := rv_u64 hxi
    have u0 := u_id (hu l[i].f0 (by simp [rv]))
    have u1 := u_id (hu l[i].f1 (by simp [rv]))
    have u2 := u_id (hu l[i].f2 (by simp [rv]))
    have hlen : r.1.length = 9 := by rw [rP.2.1, rws_tot]
    have e : l.drop i = l[i] :: l.drop (i + 1) := List.drop_eq_getElem_cons hlt
    rw [e]
    obtain ⟨s, s1, s2, _⟩ := ih (i + 1) (b ++ r.1) (by omega) (by rw [List.length_append, hlen]; omega)
    refine ⟨s, ?_, ?_, trivial⟩
    · unfold inode_Encode.go
      rw [u0, u1, u2]
      obtain ⟨n, hn'⟩ := s1
      obtain ⟨m, hm⟩ := hr
      refine ⟨n + m, fun k hk => ?_⟩
      have z1 := hn' k (by omega)
      have z2 := hm k (by omega)
      show ((((seal_Pack.f k [24, 16, 32] [l[i].f0, l[i].f1, l[i].f2]).bind _)).bind _) = _
      have z2 : seal_Pack.f k [24, 16, 32] [l[i].f0, l[i].f1, l[i].f2] = some r := z2
      rw [z2, Option.bind_some, if_pos r2, if_pos (by rw [hlen]; omega)]
      exact z1
    · refine Ev.step (fun k => by simp only [slipwayref14_Encode.l0]; rfl) ?_
      rw [rdT51 l i hlt, hs, u0, u1, u2]
      refine Ev.iff_pos (by omega) (Ev.bind (Ev.fix (fun _ => rfl)) (Ev.iff_pos (by omega) (Ev.bind hq (Ev.iff_pos (by rw [hlen]; omega) s2))))
set_option maxHeartbeats 2000000 in
theorem enc_both (a0 a1 a2 a3 a4 a5 : Int) (l : List S51) : EvB (fun k => inode_Encode.f k a0 a1 a2 a3 a4 a5 l) (fun k => slipwayref14_Encode.f k a0 a1 a2 a3 a4 a5 l) (fun r => EncR a0 a1 a2 a3 a4 a5 l r ∧ r.1.length ≤ 64) := by
  have weak : EvB (fun k => inode_Encode.f k a0 a1 a2 a3 a4 a5 l) (fun k => slipwayref14_Encode.f k a0 a1 a2 a3 a4 a5 l) (fun _ => True) := by
    obtain ⟨c, c1, cP⟩ := chk_ev a0 a1 a2 a3 a4 a5 l
    obtain ⟨e, e1, e2, _⟩ := chk_both a0 a1 a2 a3 a4 a5 l
    obtain rfl := Ev.same c1 e1
    unfold inode_Encode.f slipwayref14_Encode.f
    refine EvB.lbind e1 (EvB.rbind e2 (EvB.ite (fun h0 => ?_) (fun _ => EvB.now trivial)))
    have ok := cP h0
    obtain ⟨r, hr, rR⟩ := seal_pack_ev hws (hv a0 a1 a2 a3 a4 a5 l) (hv_u64 ok)
    obtain ⟨q, hq, qR⟩ := ref_pack_ev hws (hv a0 a1 a2 a3 a4 a5 l) (hv_u64 ok)
    obtain rfl := rR.unique qR
    obtain ⟨r2, rP⟩ := rR.1 (hv_fit ok)
    have hu := hv_u64 ok
    rw [u_id (hu a0 (by simp [hv])), u_id (hu a5 (by simp [hv])), u_id (hu (l.length : Int) (by simp [hv])), u_id (hu a1 (by simp [hv])), u_id (hu a2 (by simp [hv])), u_id (hu a3 (by simp [hv])), u_id (hu a4 (by simp [hv]))]
    have hlen : r.1.length = 24 := by rw [rP.2.1, hws_tot]
    have h4 : l.length ≤ 4 := ok.2.2.2.2.2.2.1
    refine EvB.lbind hr (EvB.lpos r2 (EvB.rbind (Ev.fix (fun _ => rfl)) (EvB.rbind hq ?_)))
    exact go_both a0 a1 a2 a3 a4 a5 l h4 ok.2.2.2.2.2.2.2 l.length 0 r.1 (by omega) (by rw [hlen]; omega)
  obtain ⟨s, s1, s2, _⟩ := weak
  obtain ⟨r, r1, rP⟩ := enc_ev a0 a1 a2 a3 a4 a5 l
  obtain rfl := Ev.same s1 r1
  exact ⟨s, s1, s2, rP⟩
end Go.Proofs.Ytjoojmodghpimaa.InoEv
end
