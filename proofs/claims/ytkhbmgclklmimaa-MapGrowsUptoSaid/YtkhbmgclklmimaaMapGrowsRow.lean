/- The statement MapGrows of layer 06 is proved: the law returns true for every input and leaves its arguments as they were; there is no condition -/
import Derived.Test.YtkhbmgclklmimaaRows
import Derived.Test.YtkhbmgclklmimaaMapGrowsM19
import Derived.Test.YtkhbmgclklmimaaMapGrowsM29
import Derived.Test.YtkhbmgclklmimaaMapGrowsM30
import Derived.Test.YtkhbmgclklmimaaMapGrowsM31
import Derived.JoinedCond
import Derived.Deep.CondSized
import Derived.WalkKit
import Derived.ProofKit
import Derived.OpenShut
import Derived.ShutString
import Derived.ChangeOld
import Derived.Below
import Derived.SizedLaws
namespace Go.Proofs.Ytkhbmgclklmimaa.mapGrows
open Go.ChangeShapes Go.WideShapes Go.ChangeAt Go.RowKit
open Go.ChangeMaps (open_string shut_string)
open Go.Proofs.YtkhbmgclklmimaaW.PrintWords Go.Proofs.Ytkhbmgclklmimaa.Print
set_option linter.unusedVariables false
theorem own : ownKnob Try.prog.godebug = none := by kernel_rfl
theorem laidOut : laidOutB Try.prog = true := by kernel_rfl
set_option maxRecDepth 100000 in
theorem lifted (os : Os) (started : os.Started) (H : Type) (enc : TypeId × Value → H) (F : Stop.Interp) :
    ReturnsInHanded {} Try.checked os 6 .any ((Rows.OpenSpec.upto Rows.mapGrowsSpec).pre6 enc Try.prog Try.f6 Rows.mapGrowsUptoRow.domain false) (((Rows.OpenSpec.upto Rows.mapGrowsSpec).at F).post enc Try.prog Try.f6 false true false false) := by
  refine returnsInHanded_of_cond_sized (C := Try.checked) (s := Rows.OpenSpec.upto Rows.mapGrowsSpec) (k := Rows.uptoSmall) rfl own started (by kernel_rfl) Try.func6
    (OpenSpec.witness (enc := enc) (C := Try.checked) (s := Rows.OpenSpec.upto Rows.mapGrowsSpec) (k := Rows.uptoSmall) rfl false ⟨#[], #[.agg #[.slice none 0 0, .slice none 0 0, .int .i64 0], .agg #[.slice none 0 0, .slice none 0 0, .int .i64 0], .agg #[.slice none 0 0, .slice none 0 0, .int .i64 0], .slice none 0 0], []⟩ 8 (by kernel_rfl) (by kernel_rfl) (by kernel_rfl)
      (x := ([.agg [.nil, .nil, .lit (.int .i64 0)], .agg [.nil, .nil, .lit (.int .i64 0)], .agg [.nil, .nil, .lit (.int .i64 0)], .nil], [], [])) (by kernel_rfl) rfl (by kernel_rfl)) ?_
  intro W base args ds gs before hval0 hW hcnd hk hsz0 _
  have hsz : (DataW.weightsEach Try.prog (Try.f6.params.toList ++ Rows.mapGrowsSpec.plain.varTypes Try.prog) (ds ++ gs)).all (· ≤ reachBytes) = true := hsz0
  have hval : ∀ (j : Nat) t v, Try.f6.params[j]? = some t → args[j]? = some v → Value.okWide Try.prog W .any base t v := hval0
  have hW' := hW
  obtain ⟨p, q, hA0, hV, rfl, hfz, hnd⟩ := hW
  have hA : DataW.TrodAll enc Try.prog W 0 (fun _ => true) true Try.f6.params.toList args.toList ds p := hA0
  rw [Try.params6] at hA hval hsz
  obtain ⟨v0, vs0, d0, ds0, p0, q0, hargs, rfl, rfl, h0, r0⟩ := trodAll_cons hA
  obtain ⟨v1, vs1, d1, ds1, p1, q1, rfl, rfl, rfl, h1, r1⟩ := trodAll_cons r0
  obtain ⟨v2, vs2, d2, ds2, p2, q2, rfl, rfl, rfl, h2, r2⟩ := trodAll_cons r1
  obtain ⟨v3, vs3, d3, ds3, p3, q3, rfl, rfl, rfl, h3, r3⟩ := trodAll_cons r2
  obtain ⟨rfl, rfl, rfl⟩ := trodAll_nil r3
  obtain rfl : args = #[v0, v1, v2, v3] := by cases args; simp_all
  obtain ⟨rfl, rfl⟩ := trodVars_none hV
  have k0 := h0
  have lt0 : ∀ x ∈ p0, x.block < W.heap.size := by obtain ⟨m, hm⟩ := k0; exact DataW.trod_lt m _ _ _ hm
  obtain ⟨⟨cs0⟩, rfl, _⟩ := okWide_struct Try.underlying25 (hval 0 25 v0 rfl rfl)
  obtain ⟨x0, g0, e0⟩ := Opn.opened (kd := (Kd.pair (Kd.slice 4 Kd.bool) (Kd.pair (Kd.slice 2 (Kd.int .i64)) (Kd.int .i64)))) hsz 0 rfl rfl (Opn.Opens.struct Try.underlying25 (by kernel_rfl) (Opn.OpensFs.cons (off2 := 1) (by rfl) (by kernel_rfl) (by kernel_rfl) (Opn.Opens.slice (B := 1) Try.underlying22 (by kernel_rfl) (by kernel_rfl) (Opn.Opens.bool Try.underlying4)) (Opn.OpensFs.cons (off2 := 2) (by rfl) (by kernel_rfl) (by kernel_rfl) (Opn.Opens.slice (B := 8) Try.underlying23 (by kernel_rfl) (by kernel_rfl) (Opn.Opens.int Try.underlying2)) (Opn.OpensFs.one (by rfl) (by kernel_rfl) (Opn.Opens.int Try.underlying2))))) h0
  obtain ⟨l0_0, ⟨l0_1, a0_2⟩⟩ := x0
  obtain ⟨g0_0, ⟨g0_1, g0_2⟩⟩ := g0
  have e0 : ((Kd.pair (Kd.slice 4 Kd.bool) (Kd.pair (Kd.slice 2 (Kd.int .i64)) (Kd.int .i64)))).K W _ cs0 := e0
  obtain ⟨_, _, rfl, ⟨A0_0, c0_0, rfl, hc0_0, hr0_0⟩, ⟨_, _, rfl, ⟨A0_1, c0_1, rfl, hc0_1, hr0_1⟩, rfl⟩⟩ := e0
  have k1 := h1
  have lt1 : ∀ x ∈ p1, x.block < W.heap.size := by obtain ⟨m, hm⟩ := k1; exact DataW.trod_lt m _ _ _ hm
  obtain ⟨⟨cs1⟩, rfl, _⟩ := okWide_struct Try.underlying25 (hval 1 25 v1 rfl rfl)
  obtain ⟨x1, g1, e1⟩ := Opn.opened (kd := (Kd.pair (Kd.slice 4 Kd.bool) (Kd.pair (Kd.slice 2 (Kd.int .i64)) (Kd.int .i64)))) hsz 1 rfl rfl (Opn.Opens.struct Try.underlying25 (by kernel_rfl) (Opn.OpensFs.cons (off2 := 1) (by rfl) (by kernel_rfl) (by kernel_rfl) (Opn.Opens.slice (B := 1) Try.underlying22 (by kernel_rfl) (by kernel_rfl) (Opn.Opens.bool Try.underlying4)) (Opn.OpensFs.cons (off2 := 2) (by rfl) (by kernel_rfl) (by kernel_rfl) (Opn.Opens.slice (B := 8) Try.underlying23 (by kernel_rfl) (by kernel_rfl) (Opn.Opens.int Try.underlying2)) (Opn.OpensFs.one (by rfl) (by kernel_rfl) (Opn.Opens.int Try.underlying2))))) h1
  obtain ⟨l1_0, ⟨l1_1, a1_2⟩⟩ := x1
  obtain ⟨g1_0, ⟨g1_1, g1_2⟩⟩ := g1
  have e1 : ((Kd.pair (Kd.slice 4 Kd.bool) (Kd.pair (Kd.slice 2 (Kd.int .i64)) (Kd.int .i64)))).K W _ cs1 := e1
  obtain ⟨_, _, rfl, ⟨A1_0, c1_0, rfl, hc1_0, hr1_0⟩, ⟨_, _, rfl, ⟨A1_1, c1_1, rfl, hc1_1, hr1_1⟩, rfl⟩⟩ := e1
  have k2 := h2
  have lt2 : ∀ x ∈ p2, x.block < W.heap.size := by obtain ⟨m, hm⟩ := k2; exact DataW.trod_lt m _ _ _ hm
  obtain ⟨⟨cs2⟩, rfl, _⟩ := okWide_struct Try.underlying25 (hval 2 25 v2 rfl rfl)
  obtain ⟨x2, g2, e2⟩ := Opn.opened (kd := (Kd.pair (Kd.slice 4 Kd.bool) (Kd.pair (Kd.slice 2 (Kd.int .i64)) (Kd.int .i64)))) hsz 2 rfl rfl (Opn.Opens.struct Try.underlying25 (by kernel_rfl) (Opn.OpensFs.cons (off2 := 1) (by rfl) (by kernel_rfl) (by kernel_rfl) (Opn.Opens.slice (B := 1) Try.underlying22 (by kernel_rfl) (by kernel_rfl) (Opn.Opens.bool Try.underlying4)) (Opn.OpensFs.cons (off2 := 2) (by rfl) (by kernel_rfl) (by kernel_rfl) (Opn.Opens.slice (B := 8) Try.underlying23 (by kernel_rfl) (by kernel_rfl) (Opn.Opens.int Try.underlying2)) (Opn.OpensFs.one (by rfl) (by kernel_rfl) (Opn.Opens.int Try.underlying2))))) h2
  obtain ⟨l2_0, ⟨l2_1, a2_2⟩⟩ := x2
  obtain ⟨g2_0, ⟨g2_1, g2_2⟩⟩ := g2
  have e2 : ((Kd.pair (Kd.slice 4 Kd.bool) (Kd.pair (Kd.slice 2 (Kd.int .i64)) (Kd.int .i64)))).K W _ cs2 := e2
  obtain ⟨_, _, rfl, ⟨A2_0, c2_0, rfl, hc2_0, hr2_0⟩, ⟨_, _, rfl, ⟨A2_1, c2_1, rfl, hc2_1, hr2_1⟩, rfl⟩⟩ := e2
  have k3 := h3
  have lt3 : ∀ x ∈ p3, x.block < W.heap.size := by obtain ⟨m, hm⟩ := k3; exact DataW.trod_lt m _ _ _ hm
  obtain ⟨A3, n3, c3, rfl⟩ := okWide_slice Try.underlying34 (hval 3 34 v3 rfl rfl)
  obtain ⟨x3, g3, e3⟩ := Opn.opened (kd := (Kd.slice 55 k55)) hsz 3 rfl rfl (Opn.Opens.slice (B := 24) Try.underlying34 (by kernel_rfl) (by kernel_rfl) (Opn.Opens.iso (Opn.Opens.struct Try.underlying55 (by kernel_rfl) (Opn.OpensFs.cons (off2 := 1) (by rfl) (by kernel_rfl) (by kernel_rfl) (Opn.Opens.int Try.underlying3) (Opn.OpensFs.cons (off2 := 2) (by rfl) (by kernel_rfl) (by kernel_rfl) (Opn.Opens.int Try.underlying3) (Opn.OpensFs.one (by rfl) (by kernel_rfl) (Opn.Opens.int Try.underlying2))))) (fun x : S55 => (x.f0, x.f1, x.f2)) (fun x => ⟨x.1, x.2.1, x.2.2⟩) (fun _ => rfl))) h3
  obtain ⟨A3', c3', hcs3, hc3, hr3⟩ := e3
  have hcs3 : [Value.slice A3 n3 c3] = [Value.slice A3' x3.length c3'] := hcs3
  simp only [List.cons.injEq, Value.slice.injEq, and_true] at hcs3
  obtain ⟨rfl, rfl, rfl⟩ := hcs3
  have z3 := Blk.slice_bulk Try.underlying34 h3
  simp only [List.append_nil] at hW' hk
  have hk' : Rows.uptoBulkAll _ ≤ 1048576 := of_decide_eq_true hk
  simp only [Rows.uptoBulkAll] at hk'
  replace z3 := Nat.le_trans z3 (show _ ≤ 1048576 by omega)
  clear hA0 hval0 hsz0 hsz
  refine (Print.slipwaylaw06_MapGrows.walk Pure.MapGrows A0_0 c0_0 l0_0 A0_1 c0_1 l0_1 a0_2 A1_0 c1_0 l1_0 A1_1 c1_1 l1_1 a1_2 A2_0 c2_0 l2_0 A2_1 c2_1 l2_1 a2_2 A3 c3 x3 W hr0_0 hc0_0 hr0_1 hc0_1 hr1_0 hc1_0 hr1_1 hc1_1 hr2_0 hc2_0 hr2_1 hc2_1 hr3 hc3 g0_0 g0_1 g0_2 g1_0 g1_1 g1_2 g2_0 g2_1 g2_2 g3 z3).mono fun e W' ⟨he, bel⟩ => ?_
  subst he
  exact ⟨_, rfl, _, _, _, [], _, [], hW', trodAll_mk1 (shut_bool Try.underlying4 _), (trodAll_cons_mk (Below.trod laidOut (by kernel_rfl) (of_decide_eq_true (by kernel_rfl)) k0 bel lt0) (trodAll_cons_mk (Below.trod laidOut (by kernel_rfl) (of_decide_eq_true (by kernel_rfl)) k1 bel lt1) (trodAll_cons_mk (Below.trod laidOut (by kernel_rfl) (of_decide_eq_true (by kernel_rfl)) k2 bel lt2) (trodAll_cons_mk (Below.trod laidOut (by kernel_rfl) (of_decide_eq_true (by kernel_rfl)) k3 bel lt3) trodAll_mk0)))), rfl, bel.frame _, fun h => by cases h⟩
theorem over : Rows.mapGrowsUptoRow.holds Try.pinned (Rows.OpenSpec.upto Rows.mapGrowsSpec) :=
  OpenClaim.holds_of_cond 6 Try.f6 rfl rfl rfl rfl rfl rfl rfl ⟨rfl, rfl, rfl, rfl, rfl⟩ rfl rfl rfl rfl rfl (by kernel_rfl) Try.func6 (by kernel_rfl)
    (of_decide_eq_true (by kernel_rfl)) (by unfold Func.isWrapper; first | (rw [if_pos (by decide +kernel)]; kernel_rfl) | (rw [if_neg (by decide +kernel)]; exact ⟨rfl, rfl⟩))
    (fun os started H enc _ F => lifted os started H enc F)
theorem proved : Rows.MapGrowsUptoSaid := over
#print axioms proved
end Go.Proofs.Ytkhbmgclklmimaa.mapGrows
namespace Go.Proofs.Ytkhbmgclklmimaa
/-- The row, under a short name, for the claim. -/
theorem mapGrows_holds : Rows.MapGrowsUptoSaid := mapGrows.proved
end Go.Proofs.Ytkhbmgclklmimaa
