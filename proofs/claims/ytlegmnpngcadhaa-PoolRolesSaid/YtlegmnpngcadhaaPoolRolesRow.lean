/- The statement PoolRoles of layer 04 is proved: the law returns true for every input and leaves its arguments as they were; there is no condition -/
import Derived.Test.YtlegmnpngcadhaaRows
import Derived.Test.YtlegmnpngcadhaaPoolRolesM14
import Derived.Test.YtlegmnpngcadhaaPoolRolesM16
import Derived.Test.YtlegmnpngcadhaaPoolRolesM17
import Derived.WalkKit
import Derived.ProofKit
import Derived.OpenShut
import Derived.ShutString
import Derived.ChangeOld
import Derived.Below
import Derived.SizedLaws
namespace Go.Proofs.Ytlegmnpngcadhaa.poolRoles
open Go.ChangeShapes Go.WideShapes Go.ChangeAt Go.RowKit
open Go.ChangeMaps (open_string shut_string)
open Go.Proofs.YtlegmnpngcadhaaW.PrintWords Go.Proofs.Ytlegmnpngcadhaa.Print
set_option linter.unusedVariables false
theorem own : ownKnob Try.prog.godebug = none := by kernel_rfl
theorem laidOut : laidOutB Try.prog = true := by kernel_rfl
set_option maxRecDepth 100000 in
theorem lifted (os : Os) (started : os.Started) (H : Type) (enc : TypeId × Value → H) :
    ReturnsInHanded {} Try.checked os 4 .any (Rows.poolRolesSpec.pre6 enc Try.prog Try.f4 Rows.poolRolesRow.domain false) (Rows.poolRolesSpec.post enc Try.prog Try.f4 false true false false) := by
  refine returnsInHanded_of_change_sized (C := Try.checked) own started (by kernel_rfl) Try.func4
    (ChangeSpec.witness6 (enc := enc) (C := Try.checked) false ⟨#[], #[.agg #[.slice none 0 0, .slice none 0 0], .agg #[.slice none 0 0, .slice none 0 0]], []⟩ 8 (by kernel_rfl) (by kernel_rfl) (by kernel_rfl) (by kernel_rfl)) ?_
  intro W base args ds gs before hval0 hW hcnd hsz0 _
  have hsz : (DataW.weightsEach Try.prog (Try.f4.params.toList ++ Rows.poolRolesSpec.plain.varTypes Try.prog) (ds ++ gs)).all (· ≤ reachBytes) = true := hsz0
  have hval : ∀ (j : Nat) t v, Try.f4.params[j]? = some t → args[j]? = some v → Value.okWide Try.prog W .any base t v := hval0
  have hW' := hW
  obtain ⟨p, q, hA0, hV, rfl, hfz, hnd⟩ := hW
  have hA : DataW.TrodAll enc Try.prog W 0 (fun _ => true) true Try.f4.params.toList args.toList ds p := hA0
  rw [Try.params4] at hA hval hsz
  obtain ⟨v0, vs0, d0, ds0, p0, q0, hargs, rfl, rfl, h0, r0⟩ := trodAll_cons hA
  obtain ⟨v1, vs1, d1, ds1, p1, q1, rfl, rfl, rfl, h1, r1⟩ := trodAll_cons r0
  obtain ⟨rfl, rfl, rfl⟩ := trodAll_nil r1
  obtain rfl : args = #[v0, v1] := by cases args; simp_all
  obtain ⟨rfl, rfl⟩ := trodVars_none hV
  have k0 := h0
  have lt0 : ∀ x ∈ p0, x.block < W.heap.size := by obtain ⟨m, hm⟩ := k0; exact DataW.trod_lt m _ _ _ hm
  obtain ⟨⟨cs0⟩, rfl, _⟩ := okWide_struct Try.underlying25 (hval 0 25 v0 rfl rfl)
  obtain ⟨x0, g0, e0⟩ := Opn.opened (kd := (Kd.pair (Kd.slice 3 (Kd.int .i64)) (Kd.slice 2 (Kd.int .i64)))) hsz 0 rfl rfl (Opn.Opens.struct Try.underlying25 (by kernel_rfl) (Opn.OpensFs.cons (off2 := 1) (by rfl) (by kernel_rfl) (by kernel_rfl) (Opn.Opens.slice (B := 8) Try.underlying22 (by kernel_rfl) (by kernel_rfl) (Opn.Opens.int Try.underlying3)) (Opn.OpensFs.one (by rfl) (by kernel_rfl) (Opn.Opens.slice (B := 8) Try.underlying23 (by kernel_rfl) (by kernel_rfl) (Opn.Opens.int Try.underlying2))))) h0
  obtain ⟨l0_0, l0_1⟩ := x0
  obtain ⟨g0_0, g0_1⟩ := g0
  have e0 : ((Kd.pair (Kd.slice 3 (Kd.int .i64)) (Kd.slice 2 (Kd.int .i64)))).K W _ cs0 := e0
  obtain ⟨_, _, rfl, ⟨A0_0, c0_0, rfl, hc0_0, hr0_0⟩, ⟨A0_1, c0_1, rfl, hc0_1, hr0_1⟩⟩ := e0
  have k1 := h1
  have lt1 : ∀ x ∈ p1, x.block < W.heap.size := by obtain ⟨m, hm⟩ := k1; exact DataW.trod_lt m _ _ _ hm
  obtain ⟨⟨cs1⟩, rfl, _⟩ := okWide_struct Try.underlying25 (hval 1 25 v1 rfl rfl)
  obtain ⟨x1, g1, e1⟩ := Opn.opened (kd := (Kd.pair (Kd.slice 3 (Kd.int .i64)) (Kd.slice 2 (Kd.int .i64)))) hsz 1 rfl rfl (Opn.Opens.struct Try.underlying25 (by kernel_rfl) (Opn.OpensFs.cons (off2 := 1) (by rfl) (by kernel_rfl) (by kernel_rfl) (Opn.Opens.slice (B := 8) Try.underlying22 (by kernel_rfl) (by kernel_rfl) (Opn.Opens.int Try.underlying3)) (Opn.OpensFs.one (by rfl) (by kernel_rfl) (Opn.Opens.slice (B := 8) Try.underlying23 (by kernel_rfl) (by kernel_rfl) (Opn.Opens.int Try.underlying2))))) h1
  obtain ⟨l1_0, l1_1⟩ := x1
  obtain ⟨g1_0, g1_1⟩ := g1
  have e1 : ((Kd.pair (Kd.slice 3 (Kd.int .i64)) (Kd.slice 2 (Kd.int .i64)))).K W _ cs1 := e1
  obtain ⟨_, _, rfl, ⟨A1_0, c1_0, rfl, hc1_0, hr1_0⟩, ⟨A1_1, c1_1, rfl, hc1_1, hr1_1⟩⟩ := e1
  clear hA0 hval0 hsz0 hsz
  refine (Print.slipwaylaw04_PoolRoles.walk Pure.PoolRoles A0_0 c0_0 l0_0 A0_1 c0_1 l0_1 A1_0 c1_0 l1_0 A1_1 c1_1 l1_1 W hr0_0 hc0_0 hr0_1 hc0_1 hr1_0 hc1_0 hr1_1 hc1_1 g0_0 g0_1 g1_0 g1_1).mono fun e W' ⟨he, bel⟩ => ?_
  subst he
  exact ⟨_, rfl, _, _, _, [], _, [], hW', trodAll_mk1 (shut_bool Try.underlying4 _), (trodAll_cons_mk (Below.trod laidOut (by kernel_rfl) (of_decide_eq_true (by kernel_rfl)) k0 bel lt0) (trodAll_cons_mk (Below.trod laidOut (by kernel_rfl) (of_decide_eq_true (by kernel_rfl)) k1 bel lt1) trodAll_mk0)), rfl, bel.frame _, fun h => by cases h⟩
theorem over : Rows.poolRolesRow.holds Try.pinned (OpenSpec.ofChange Rows.poolRolesSpec) :=
  OpenClaim.holds_of_wide 4 Try.f4 rfl rfl rfl rfl rfl rfl rfl ⟨rfl, rfl, rfl, rfl, rfl⟩ rfl rfl rfl rfl rfl (by kernel_rfl) Try.func4 (by kernel_rfl)
    (of_decide_eq_true (by kernel_rfl)) (by unfold Func.isWrapper; first | (rw [if_pos (by decide +kernel)]; kernel_rfl) | (rw [if_neg (by decide +kernel)]; exact ⟨rfl, rfl⟩))
    (fun os started H enc _ => lifted os started H enc)
theorem proved : Rows.PoolRolesSaid := over
#print axioms proved
end Go.Proofs.Ytlegmnpngcadhaa.poolRoles
namespace Go.Proofs.Ytlegmnpngcadhaa
/-- The row, under a short name, for the claim. -/
theorem poolRoles_holds : Rows.PoolRolesSaid := poolRoles.proved
end Go.Proofs.Ytlegmnpngcadhaa
