/- The statement PoolTells of layer 04 is proved: the law returns true for every input and leaves its arguments as they were; there is no condition -/
import Derived.Test.YtlegmnpngcadhaaRows
import Derived.Test.YtlegmnpngcadhaaPoolTellsM16
import Derived.Test.YtlegmnpngcadhaaPoolTellsM19
import Derived.Test.YtlegmnpngcadhaaPoolTellsM20
import Derived.WalkKit
import Derived.ProofKit
import Derived.OpenShut
import Derived.ShutString
import Derived.ChangeOld
import Derived.Below
import Derived.SizedLaws
namespace Go.Proofs.Ytlegmnpngcadhaa.poolTells
open Go.ChangeShapes Go.WideShapes Go.ChangeAt Go.RowKit
open Go.ChangeMaps (open_string shut_string)
open Go.Proofs.YtlegmnpngcadhaaW.PrintWords Go.Proofs.Ytlegmnpngcadhaa.Print
set_option linter.unusedVariables false
theorem own : ownKnob Try.prog.godebug = none := by kernel_rfl
theorem laidOut : laidOutB Try.prog = true := by kernel_rfl
set_option maxRecDepth 100000 in
theorem lifted (os : Os) (started : os.Started) (H : Type) (enc : TypeId × Value → H) :
    ReturnsInHanded {} Try.checked os 6 .any (Rows.poolTellsSpec.pre6 enc Try.prog Try.f6 Rows.poolTellsRow.domain false) (Rows.poolTellsSpec.post enc Try.prog Try.f6 false true false false) := by
  refine returnsInHanded_of_change_sized (C := Try.checked) own started (by kernel_rfl) Try.func6
    (ChangeSpec.witness6 (enc := enc) (C := Try.checked) false ⟨#[], #[.agg #[.slice none 0 0, .slice none 0 0], .int .i64 0, .int .i64 0, .int .u8 0], []⟩ 8 (by kernel_rfl) (by kernel_rfl) (by kernel_rfl) (by kernel_rfl)) ?_
  intro W base args ds gs before hval0 hW hcnd hsz0 _
  have hsz : (DataW.weightsEach Try.prog (Try.f6.params.toList ++ Rows.poolTellsSpec.plain.varTypes Try.prog) (ds ++ gs)).all (· ≤ reachBytes) = true := hsz0
  have hval : ∀ (j : Nat) t v, Try.f6.params[j]? = some t → args[j]? = some v → Value.okWide Try.prog W .any base t v := hval0
  have hW' := hW
  obtain ⟨p, q, hA0, hV, rfl, hfz, hnd⟩ := hW
  have hA : DataW.TrodAll enc Try.prog W 0 (fun _ => true) true Try.f6.params.toList args.toList ds p := hA0
  rw [Try.params6] at hA hval hsz
  obtain ⟨v0, vs0, d0, ds0, p0, q0, hargs, rfl, rfl, h0, r0⟩ := trodAll_cons hA
  obtain ⟨v1, vs1, d1, ds1, p1, q1, rfl, rfl, rfl, h1, r1⟩ := trodAll_cons r0
  obtain ⟨v2, vs2, d2, ds2, p2, q2, rfl, rfl, rfl, h2, r2⟩ := trodAll_cons r1
  obtain ⟨v3, vs3, d3, ds3, p3, q3, rfl, rfl, rfl, h3, r3⟩ := trodAll_cons r2
  obtain ⟨rfl, rfl, rfl⟩ := trodAll_nil r3
  obtain rfl : args = #[v0, v1, v2, v3] := by cases args; simp_all
  obtain ⟨rfl, rfl⟩ := trodVars_none hV
  have k0 := h0
  have lt0 : ∀ x ∈ p0, x.block < W.heap.size := by obtain ⟨m, hm⟩ := k0; exact DataW.trod_lt m _ _ _ hm
  obtain ⟨⟨cs0⟩, rfl, _⟩ := okWide_struct Try.underlying25 (hval 0 25 v0 rfl rfl)
  obtain ⟨x0, g0, e0⟩ := Opn.opened (kd := (Kd.pair (Kd.slice 3 (Kd.int .i64)) (Kd.slice 2 (Kd.int .i64)))) hsz 0 rfl rfl (Opn.Opens.struct Try.underlying25 (by kernel_rfl) (Opn.OpensFs.cons (off2 := 1) (by rfl) (by kernel_rfl) (by kernel_rfl) (Opn.Opens.slice (B := 8) Try.underlying22 (by kernel_rfl) (by kernel_rfl) (Opn.Opens.int Try.underlying3)) (Opn.OpensFs.one (by rfl) (by kernel_rfl) (Opn.Opens.slice (B := 8) Try.underlying23 (by kernel_rfl) (by kernel_rfl) (Opn.Opens.int Try.underlying2))))) h0
  obtain ⟨l0_0, l0_1⟩ := x0
  obtain ⟨g0_0, g0_1⟩ := g0
  have e0 : ((Kd.pair (Kd.slice 3 (Kd.int .i64)) (Kd.slice 2 (Kd.int .i64)))).K W _ cs0 := e0
  obtain ⟨_, _, rfl, ⟨A0_0, c0_0, rfl, hc0_0, hr0_0⟩, ⟨A0_1, c0_1, rfl, hc0_1, hr0_1⟩⟩ := e0
  obtain ⟨a1, rfl, rfl, rfl, w1⟩ := open_int Try.underlying3 (hval 1 3 v1 rfl rfl) h1
  obtain ⟨a2, rfl, rfl, rfl, w2⟩ := open_int Try.underlying2 (hval 2 2 v2 rfl rfl) h2
  obtain ⟨a3, rfl, rfl, rfl, w3⟩ := open_int Try.underlying5 (hval 3 5 v3 rfl rfl) h3
  clear hA0 hval0 hsz0 hsz
  refine (Print.slipwaylaw04_PoolTells.walk Pure.PoolTells A0_0 c0_0 l0_0 A0_1 c0_1 l0_1 a1 a2 a3 W hr0_0 hc0_0 hr0_1 hc0_1 g0_0 g0_1 w1 w2 w3).mono fun e W' ⟨he, bel⟩ => ?_
  subst he
  exact ⟨_, rfl, _, _, _, [], _, [], hW', trodAll_mk1 (shut_bool Try.underlying4 _), (trodAll_cons_mk (Below.trod laidOut (by kernel_rfl) (of_decide_eq_true (by kernel_rfl)) k0 bel lt0) (trodAll_cons_mk (shut_int Try.underlying3 w1) (trodAll_cons_mk (shut_int Try.underlying2 w2) (trodAll_cons_mk (shut_int Try.underlying5 w3) trodAll_mk0)))), rfl, bel.frame _, fun h => by cases h⟩
theorem over : Rows.poolTellsRow.holds Try.pinned (OpenSpec.ofChange Rows.poolTellsSpec) :=
  OpenClaim.holds_of_wide 6 Try.f6 rfl rfl rfl rfl rfl rfl rfl ⟨rfl, rfl, rfl, rfl, rfl⟩ rfl rfl rfl rfl rfl (by kernel_rfl) Try.func6 (by kernel_rfl)
    (of_decide_eq_true (by kernel_rfl)) (by unfold Func.isWrapper; first | (rw [if_pos (by decide +kernel)]; kernel_rfl) | (rw [if_neg (by decide +kernel)]; exact ⟨rfl, rfl⟩))
    (fun os started H enc _ => lifted os started H enc)
theorem proved : Rows.PoolTellsSaid := over
#print axioms proved
end Go.Proofs.Ytlegmnpngcadhaa.poolTells
namespace Go.Proofs.Ytlegmnpngcadhaa
/-- The row, under a short name, for the claim. -/
theorem poolTells_holds : Rows.PoolTellsSaid := poolTells.proved
end Go.Proofs.Ytlegmnpngcadhaa
