/- The statement PoolMakes of layer 04 is proved: the law returns true for every input and leaves its arguments as they were; there is no condition -/
import Derived.Test.YtlegmnpngcadhaaRows
import Derived.Test.YtlegmnpngcadhaaPoolMakesM15
import Derived.Test.YtlegmnpngcadhaaPoolMakesM18
import Derived.Test.YtlegmnpngcadhaaPoolMakesM19
import Derived.WalkKit
import Derived.ProofKit
import Derived.OpenShut
import Derived.ShutString
import Derived.ChangeOld
import Derived.Below
import Derived.SizedLaws
namespace Go.Proofs.Ytlegmnpngcadhaa.poolMakes
open Go.ChangeShapes Go.WideShapes Go.ChangeAt Go.RowKit
open Go.ChangeMaps (open_string shut_string)
open Go.Proofs.YtlegmnpngcadhaaW.PrintWords Go.Proofs.Ytlegmnpngcadhaa.Print
set_option linter.unusedVariables false
theorem own : ownKnob Try.prog.godebug = none := by kernel_rfl
theorem laidOut : laidOutB Try.prog = true := by kernel_rfl
set_option maxRecDepth 100000 in
theorem lifted (os : Os) (started : os.Started) (H : Type) (enc : TypeId × Value → H) :
    ReturnsInHanded {} Try.checked os 3 .any (Rows.poolMakesSpec.pre6 enc Try.prog Try.f3 Rows.poolMakesRow.domain false) (Rows.poolMakesSpec.post enc Try.prog Try.f3 false true false false) := by
  refine returnsInHanded_of_change_sized (C := Try.checked) own started (by kernel_rfl) Try.func3
    (ChangeSpec.witness6 (enc := enc) (C := Try.checked) false ⟨#[], #[.agg #[.slice none 0 0, .slice none 0 0], .int .i64 0, .slice none 0 0, .agg #[.int .i64 0, .int .i64 0], .int .i64 0, .int .i64 0, .int .i64 0], []⟩ 8 (by kernel_rfl) (by kernel_rfl) (by kernel_rfl) (by kernel_rfl)) ?_
  intro W base args ds gs before hval0 hW hcnd hsz0 _
  have hsz : (DataW.weightsEach Try.prog (Try.f3.params.toList ++ Rows.poolMakesSpec.plain.varTypes Try.prog) (ds ++ gs)).all (· ≤ reachBytes) = true := hsz0
  have hval : ∀ (j : Nat) t v, Try.f3.params[j]? = some t → args[j]? = some v → Value.okWide Try.prog W .any base t v := hval0
  have hW' := hW
  obtain ⟨p, q, hA0, hV, rfl, hfz, hnd⟩ := hW
  have hA : DataW.TrodAll enc Try.prog W 0 (fun _ => true) true Try.f3.params.toList args.toList ds p := hA0
  rw [Try.params3] at hA hval hsz
  obtain ⟨v0, vs0, d0, ds0, p0, q0, hargs, rfl, rfl, h0, r0⟩ := trodAll_cons hA
  obtain ⟨v1, vs1, d1, ds1, p1, q1, rfl, rfl, rfl, h1, r1⟩ := trodAll_cons r0
  obtain ⟨v2, vs2, d2, ds2, p2, q2, rfl, rfl, rfl, h2, r2⟩ := trodAll_cons r1
  obtain ⟨v3, vs3, d3, ds3, p3, q3, rfl, rfl, rfl, h3, r3⟩ := trodAll_cons r2
  obtain ⟨v4, vs4, d4, ds4, p4, q4, rfl, rfl, rfl, h4, r4⟩ := trodAll_cons r3
  obtain ⟨v5, vs5, d5, ds5, p5, q5, rfl, rfl, rfl, h5, r5⟩ := trodAll_cons r4
  obtain ⟨v6, vs6, d6, ds6, p6, q6, rfl, rfl, rfl, h6, r6⟩ := trodAll_cons r5
  obtain ⟨rfl, rfl, rfl⟩ := trodAll_nil r6
  obtain rfl : args = #[v0, v1, v2, v3, v4, v5, v6] := by cases args; simp_all
  obtain ⟨rfl, rfl⟩ := trodVars_none hV
  have k0 := h0
  have lt0 : ∀ x ∈ p0, x.block < W.heap.size := by obtain ⟨m, hm⟩ := k0; exact DataW.trod_lt m _ _ _ hm
  obtain ⟨⟨cs0⟩, rfl, _⟩ := okWide_struct Try.underlying25 (hval 0 25 v0 rfl rfl)
  obtain ⟨x0, g0, e0⟩ := Opn.opened (kd := (Kd.pair (Kd.slice 3 (Kd.int .i64)) (Kd.slice 2 (Kd.int .i64)))) hsz 0 rfl rfl (Opn.Opens.struct Try.underlying25 (by kernel_rfl) (Opn.OpensFs.cons (off2 := 1) (by rfl) (by kernel_rfl) (by kernel_rfl) (Opn.Opens.slice (B := 8) Try.underlying22 (by kernel_rfl) (by kernel_rfl) (Opn.Opens.int Try.underlying3)) (Opn.OpensFs.one (by rfl) (by kernel_rfl) (Opn.Opens.slice (B := 8) Try.underlying23 (by kernel_rfl) (by kernel_rfl) (Opn.Opens.int Try.underlying2))))) h0
  obtain ⟨l0_0, l0_1⟩ := x0
  obtain ⟨g0_0, g0_1⟩ := g0
  have e0 : ((Kd.pair (Kd.slice 3 (Kd.int .i64)) (Kd.slice 2 (Kd.int .i64)))).K W _ cs0 := e0
  obtain ⟨_, _, rfl, ⟨A0_0, c0_0, rfl, hc0_0, hr0_0⟩, ⟨A0_1, c0_1, rfl, hc0_1, hr0_1⟩⟩ := e0
  obtain ⟨a1, rfl, rfl, rfl, w1⟩ := open_int Try.underlying3 (hval 1 3 v1 rfl rfl) h1
  have k2 := h2
  have lt2 : ∀ x ∈ p2, x.block < W.heap.size := by obtain ⟨m, hm⟩ := k2; exact DataW.trod_lt m _ _ _ hm
  obtain ⟨A2, n2, c2, rfl⟩ := okWide_slice Try.underlying22 (hval 2 22 v2 rfl rfl)
  obtain ⟨x2, g2, e2⟩ := Opn.opened (kd := (Kd.slice 3 (Kd.int .i64))) hsz 2 rfl rfl (Opn.Opens.slice (B := 8) Try.underlying22 (by kernel_rfl) (by kernel_rfl) (Opn.Opens.int Try.underlying3)) h2
  obtain ⟨A2', c2', hcs2, hc2, hr2⟩ := e2
  have hcs2 : [Value.slice A2 n2 c2] = [Value.slice A2' x2.length c2'] := hcs2
  simp only [List.cons.injEq, Value.slice.injEq, and_true] at hcs2
  obtain ⟨rfl, rfl, rfl⟩ := hcs2
  have k3 := h3
  have lt3 : ∀ x ∈ p3, x.block < W.heap.size := by obtain ⟨m, hm⟩ := k3; exact DataW.trod_lt m _ _ _ hm
  obtain ⟨⟨cs3⟩, rfl, _⟩ := okWide_struct Try.underlying27 (hval 3 27 v3 rfl rfl)
  obtain ⟨x3, g3, e3⟩ := Opn.opened (kd := (Kd.pair (Kd.int .i64) (Kd.int .i64))) hsz 3 rfl rfl (Opn.Opens.struct Try.underlying27 (by kernel_rfl) (Opn.OpensFs.cons (off2 := 1) (by rfl) (by kernel_rfl) (by kernel_rfl) (Opn.Opens.int Try.underlying3) (Opn.OpensFs.one (by rfl) (by kernel_rfl) (Opn.Opens.int Try.underlying3)))) h3
  obtain ⟨a3_0, a3_1⟩ := x3
  obtain ⟨g3_0, g3_1⟩ := g3
  have e3 : ((Kd.pair (Kd.int .i64) (Kd.int .i64))).K W _ cs3 := e3
  obtain ⟨_, _, rfl, rfl, rfl⟩ := e3
  obtain ⟨a4, rfl, rfl, rfl, w4⟩ := open_int Try.underlying3 (hval 4 3 v4 rfl rfl) h4
  obtain ⟨a5, rfl, rfl, rfl, w5⟩ := open_int Try.underlying3 (hval 5 3 v5 rfl rfl) h5
  obtain ⟨a6, rfl, rfl, rfl, w6⟩ := open_int Try.underlying3 (hval 6 3 v6 rfl rfl) h6
  clear hA0 hval0 hsz0 hsz
  refine (Print.slipwaylaw04_PoolMakes.walk Pure.PoolMakes A0_0 c0_0 l0_0 A0_1 c0_1 l0_1 a1 A2 c2 x2 a3_0 a3_1 a4 a5 a6 W hr0_0 hc0_0 hr0_1 hc0_1 hr2 hc2 g0_0 g0_1 w1 g2 g3_0 g3_1 w4 w5 w6).mono fun e W' ⟨he, bel⟩ => ?_
  subst he
  exact ⟨_, rfl, _, _, _, [], _, [], hW', trodAll_mk1 (shut_bool Try.underlying4 _), (trodAll_cons_mk (Below.trod laidOut (by kernel_rfl) (of_decide_eq_true (by kernel_rfl)) k0 bel lt0) (trodAll_cons_mk (shut_int Try.underlying3 w1) (trodAll_cons_mk (Below.trod laidOut (by kernel_rfl) (of_decide_eq_true (by kernel_rfl)) k2 bel lt2) (trodAll_cons_mk (Below.trod laidOut (by kernel_rfl) (of_decide_eq_true (by kernel_rfl)) k3 bel lt3) (trodAll_cons_mk (shut_int Try.underlying3 w4) (trodAll_cons_mk (shut_int Try.underlying3 w5) (trodAll_cons_mk (shut_int Try.underlying3 w6) trodAll_mk0))))))), rfl, bel.frame _, fun h => by cases h⟩
theorem over : Rows.poolMakesRow.holds Try.pinned (OpenSpec.ofChange Rows.poolMakesSpec) :=
  OpenClaim.holds_of_wide 3 Try.f3 rfl rfl rfl rfl rfl rfl rfl ⟨rfl, rfl, rfl, rfl, rfl⟩ rfl rfl rfl rfl rfl (by kernel_rfl) Try.func3 (by kernel_rfl)
    (of_decide_eq_true (by kernel_rfl)) (by unfold Func.isWrapper; first | (rw [if_pos (by decide +kernel)]; kernel_rfl) | (rw [if_neg (by decide +kernel)]; exact ⟨rfl, rfl⟩))
    (fun os started H enc _ => lifted os started H enc)
theorem proved : Rows.PoolMakesSaid := over
#print axioms proved
end Go.Proofs.Ytlegmnpngcadhaa.poolMakes
namespace Go.Proofs.Ytlegmnpngcadhaa
/-- The row, under a short name, for the claim. -/
theorem poolMakes_holds : Rows.PoolMakesSaid := poolMakes.proved
end Go.Proofs.Ytlegmnpngcadhaa
