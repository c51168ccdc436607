/- The statement MapOrder of layer 06 is proved: the law returns true for every input and leaves its arguments as they were; there is no condition -/
import Derived.Test.YtkhbmgclklmimaaRows
import Derived.Test.YtkhbmgclklmimaaMapOrderM21
import Derived.Test.YtkhbmgclklmimaaMapOrderM31
import Derived.Test.YtkhbmgclklmimaaMapOrderM32
import Derived.Test.YtkhbmgclklmimaaMapOrderM33
import Derived.JoinedCond
import Derived.Deep.CondSized
import Derived.WalkKit
import Derived.ProofKit
import Derived.OpenShut
import Derived.ShutString
import Derived.ChangeOld
import Derived.Below
import Derived.SizedLaws
namespace Go.Proofs.Ytkhbmgclklmimaa.mapOrder
open Go.ChangeShapes Go.WideShapes Go.ChangeAt Go.RowKit
open Go.ChangeMaps (open_string shut_string)
open Go.Proofs.YtkhbmgclklmimaaW.PrintWords Go.Proofs.Ytkhbmgclklmimaa.Print
set_option linter.unusedVariables false
theorem own : ownKnob Try.prog.godebug = none := by kernel_rfl
theorem laidOut : laidOutB Try.prog = true := by kernel_rfl
set_option maxRecDepth 100000 in
theorem lifted (os : Os) (started : os.Started) (H : Type) (enc : TypeId × Value → H) (F : Stop.Interp) :
    ReturnsInHanded {} Try.checked os 8 .any ((Rows.OpenSpec.upto Rows.mapOrderSpec).pre6 enc Try.prog Try.f8 Rows.mapOrderUptoRow.domain false) (((Rows.OpenSpec.upto Rows.mapOrderSpec).at F).post enc Try.prog Try.f8 false true false false) := by
  refine returnsInHanded_of_cond_sized (C := Try.checked) (s := Rows.OpenSpec.upto Rows.mapOrderSpec) (k := Rows.uptoSmall) rfl own started (by kernel_rfl) Try.func8
    (OpenSpec.witness (enc := enc) (C := Try.checked) (s := Rows.OpenSpec.upto Rows.mapOrderSpec) (k := Rows.uptoSmall) rfl false ⟨#[], #[.int .i64 0, .slice none 0 0, .int .u8 0], []⟩ 8 (by kernel_rfl) (by kernel_rfl) (by kernel_rfl)
      (x := ([.lit (.int .i64 0), .nil, .lit (.int .u8 0)], [], [])) (by kernel_rfl) rfl (by kernel_rfl)) ?_
  intro W base args ds gs before hval0 hW hcnd hk hsz0 _
  have hsz : (DataW.weightsEach Try.prog (Try.f8.params.toList ++ Rows.mapOrderSpec.plain.varTypes Try.prog) (ds ++ gs)).all (· ≤ reachBytes) = true := hsz0
  have hval : ∀ (j : Nat) t v, Try.f8.params[j]? = some t → args[j]? = some v → Value.okWide Try.prog W .any base t v := hval0
  have hW' := hW
  obtain ⟨p, q, hA0, hV, rfl, hfz, hnd⟩ := hW
  have hA : DataW.TrodAll enc Try.prog W 0 (fun _ => true) true Try.f8.params.toList args.toList ds p := hA0
  rw [Try.params8] at hA hval hsz
  obtain ⟨v0, vs0, d0, ds0, p0, q0, hargs, rfl, rfl, h0, r0⟩ := trodAll_cons hA
  obtain ⟨v1, vs1, d1, ds1, p1, q1, rfl, rfl, rfl, h1, r1⟩ := trodAll_cons r0
  obtain ⟨v2, vs2, d2, ds2, p2, q2, rfl, rfl, rfl, h2, r2⟩ := trodAll_cons r1
  obtain ⟨rfl, rfl, rfl⟩ := trodAll_nil r2
  obtain rfl : args = #[v0, v1, v2] := by cases args; simp_all
  obtain ⟨rfl, rfl⟩ := trodVars_none hV
  obtain ⟨a0, rfl, rfl, rfl, w0⟩ := open_int Try.underlying3 (hval 0 3 v0 rfl rfl) h0
  have k1 := h1
  have lt1 : ∀ x ∈ p1, x.block < W.heap.size := by obtain ⟨m, hm⟩ := k1; exact DataW.trod_lt m _ _ _ hm
  obtain ⟨A1, n1, c1, rfl⟩ := okWide_slice Try.underlying43 (hval 1 43 v1 rfl rfl)
  obtain ⟨x1, g1, e1⟩ := Opn.opened (kd := (Kd.slice 42 k42)) hsz 1 rfl rfl (Opn.Opens.slice (B := 104) Try.underlying43 (by kernel_rfl) (by kernel_rfl) (Opn.Opens.iso (Opn.Opens.struct Try.underlying42 (by kernel_rfl) (Opn.OpensFs.cons (off2 := 1) (by rfl) (by kernel_rfl) (by kernel_rfl) (Opn.Opens.int Try.underlying3) (Opn.OpensFs.cons (off2 := 2) (by rfl) (by kernel_rfl) (by kernel_rfl) (Opn.Opens.int Try.underlying2) (Opn.OpensFs.cons (off2 := 3) (by rfl) (by kernel_rfl) (by kernel_rfl) (Opn.Opens.int Try.underlying3) (Opn.OpensFs.cons (off2 := 4) (by rfl) (by kernel_rfl) (by kernel_rfl) (Opn.Opens.int Try.underlying2) (Opn.OpensFs.cons (off2 := 5) (by rfl) (by kernel_rfl) (by kernel_rfl) (Opn.Opens.slice (B := 1) Try.underlying22 (by kernel_rfl) (by kernel_rfl) (Opn.Opens.bool Try.underlying4)) (Opn.OpensFs.cons (off2 := 6) (by rfl) (by kernel_rfl) (by kernel_rfl) (Opn.Opens.slice (B := 8) Try.underlying23 (by kernel_rfl) (by kernel_rfl) (Opn.Opens.int Try.underlying2)) (Opn.OpensFs.one (by rfl) (by kernel_rfl) (Opn.Opens.slice (B := 24) Try.underlying34 (by kernel_rfl) (by kernel_rfl) (Opn.Opens.iso (Opn.Opens.struct Try.underlying55 (by kernel_rfl) (Opn.OpensFs.cons (off2 := 1) (by rfl) (by kernel_rfl) (by kernel_rfl) (Opn.Opens.int Try.underlying3) (Opn.OpensFs.cons (off2 := 2) (by rfl) (by kernel_rfl) (by kernel_rfl) (Opn.Opens.int Try.underlying3) (Opn.OpensFs.one (by rfl) (by kernel_rfl) (Opn.Opens.int Try.underlying2))))) (fun x : S55 => (x.f0, x.f1, x.f2)) (fun x => ⟨x.1, x.2.1, x.2.2⟩) (fun _ => rfl))))))))))) (fun x : S42 => (x.f0, x.f1, x.f2, x.f3, x.f4, x.f5, x.f6)) (fun x => ⟨x.1, x.2.1, x.2.2.1, x.2.2.2.1, x.2.2.2.2.1, x.2.2.2.2.2.1, x.2.2.2.2.2.2⟩) (fun _ => rfl))) h1
  obtain ⟨A1', c1', hcs1, hc1, hr1⟩ := e1
  have hcs1 : [Value.slice A1 n1 c1] = [Value.slice A1' x1.length c1'] := hcs1
  simp only [List.cons.injEq, Value.slice.injEq, and_true] at hcs1
  obtain ⟨rfl, rfl, rfl⟩ := hcs1
  have z1 := Blk.slice_bulk Try.underlying43 h1
  obtain ⟨a2, rfl, rfl, rfl, w2⟩ := open_int Try.underlying5 (hval 2 5 v2 rfl rfl) h2
  simp only [List.append_nil] at hW' hk
  have hk' : Rows.uptoBulkAll _ ≤ 1048576 := of_decide_eq_true hk
  simp only [Rows.uptoBulkAll] at hk'
  replace z1 := Nat.le_trans z1 (show _ ≤ 1048576 by omega)
  clear hA0 hval0 hsz0 hsz
  have hw_ := Print.slipwaylaw06_MapOrder.walk Pure.MapOrder a0 A1 c1 x1 a2 W hr1 hc1 w0 g1 w2 z1
  refine hw_.mono fun e W' ⟨he, bel⟩ => ?_
  subst he
  exact ⟨_, rfl, _, _, _, [], _, [], hW', trodAll_mk1 (shut_bool Try.underlying4 _), (trodAll_cons_mk (shut_int Try.underlying3 w0) (trodAll_cons_mk (Below.trod laidOut (by kernel_rfl) (of_decide_eq_true (by kernel_rfl)) k1 bel lt1) (trodAll_cons_mk (shut_int Try.underlying5 w2) trodAll_mk0))), rfl, bel.frame _, fun h => by cases h⟩
theorem over : Rows.mapOrderUptoRow.holds Try.pinned (Rows.OpenSpec.upto Rows.mapOrderSpec) :=
  OpenClaim.holds_of_cond 8 Try.f8 rfl rfl rfl rfl rfl rfl rfl ⟨rfl, rfl, rfl, rfl, rfl⟩ rfl rfl rfl rfl rfl (by kernel_rfl) Try.func8 (by kernel_rfl)
    (of_decide_eq_true (by kernel_rfl)) (by unfold Func.isWrapper; first | (rw [if_pos (by decide +kernel)]; kernel_rfl) | (rw [if_neg (by decide +kernel)]; exact ⟨rfl, rfl⟩))
    (fun os started H enc _ F => lifted os started H enc F)
theorem proved : Rows.MapOrderUptoSaid := over
#print axioms proved
end Go.Proofs.Ytkhbmgclklmimaa.mapOrder
namespace Go.Proofs.Ytkhbmgclklmimaa
/-- The row, under a short name, for the claim. -/
theorem mapOrder_holds : Rows.MapOrderUptoSaid := mapOrder.proved
end Go.Proofs.Ytkhbmgclklmimaa
