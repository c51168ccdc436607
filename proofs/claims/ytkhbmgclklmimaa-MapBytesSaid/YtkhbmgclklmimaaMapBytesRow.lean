/- The statement MapBytes of layer 06 is proved: the law returns true for every input and leaves its arguments as they were; there is no condition -/
import Derived.Test.YtkhbmgclklmimaaRows
import Derived.Test.YtkhbmgclklmimaaMapBytesM22
import Derived.Test.YtkhbmgclklmimaaMapBytesM31
import Derived.Test.YtkhbmgclklmimaaMapBytesM32
import Derived.WalkKit
import Derived.ProofKit
import Derived.OpenShut
import Derived.ShutString
import Derived.ChangeOld
import Derived.Below
import Derived.SizedLaws
namespace Go.Proofs.Ytkhbmgclklmimaa.mapBytes
open Go.ChangeShapes Go.WideShapes Go.ChangeAt Go.RowKit
open Go.ChangeMaps (open_string shut_string)
open Go.Proofs.YtkhbmgclklmimaaW.PrintWords Go.Proofs.Ytkhbmgclklmimaa.Print
set_option linter.unusedVariables false
theorem own : ownKnob Try.prog.godebug = none := by kernel_rfl
theorem laidOut : laidOutB Try.prog = true := by kernel_rfl
set_option maxRecDepth 100000 in
theorem lifted (os : Os) (started : os.Started) (H : Type) (enc : TypeId × Value → H) :
    ReturnsInHanded {} Try.checked os 9 .any (Rows.mapBytesSpec.pre6 enc Try.prog Try.f9 Rows.mapBytesRow.domain false) (Rows.mapBytesSpec.post enc Try.prog Try.f9 false true false false) := by
  refine returnsInHanded_of_change_sized (C := Try.checked) own started (by kernel_rfl) Try.func9
    (ChangeSpec.witness6 (enc := enc) (C := Try.checked) false ⟨#[], #[.agg #[.int .i64 0, .int .i64 0, .int .i64 0, .int .i64 0, .slice none 0 0, .slice none 0 0, .slice none 0 0], .slice none 0 0], []⟩ 8 (by kernel_rfl) (by kernel_rfl) (by kernel_rfl) (by kernel_rfl)) ?_
  intro W base args ds gs before hval0 hW hcnd hsz0 _
  have hsz : (DataW.weightsEach Try.prog (Try.f9.params.toList ++ Rows.mapBytesSpec.plain.varTypes Try.prog) (ds ++ gs)).all (· ≤ reachBytes) = true := hsz0
  have hval : ∀ (j : Nat) t v, Try.f9.params[j]? = some t → args[j]? = some v → Value.okWide Try.prog W .any base t v := hval0
  have hW' := hW
  obtain ⟨p, q, hA0, hV, rfl, hfz, hnd⟩ := hW
  have hA : DataW.TrodAll enc Try.prog W 0 (fun _ => true) true Try.f9.params.toList args.toList ds p := hA0
  rw [Try.params9] at hA hval hsz
  obtain ⟨v0, vs0, d0, ds0, p0, q0, hargs, rfl, rfl, h0, r0⟩ := trodAll_cons hA
  obtain ⟨v1, vs1, d1, ds1, p1, q1, rfl, rfl, rfl, h1, r1⟩ := trodAll_cons r0
  obtain ⟨rfl, rfl, rfl⟩ := trodAll_nil r1
  obtain rfl : args = #[v0, v1] := by cases args; simp_all
  obtain ⟨rfl, rfl⟩ := trodVars_none hV
  have k0 := h0
  have lt0 : ∀ x ∈ p0, x.block < W.heap.size := by obtain ⟨m, hm⟩ := k0; exact DataW.trod_lt m _ _ _ hm
  obtain ⟨⟨cs0⟩, rfl, _⟩ := okWide_struct Try.underlying42 (hval 0 42 v0 rfl rfl)
  obtain ⟨x0, g0, e0⟩ := Opn.opened (kd := (Kd.pair (Kd.int .i64) (Kd.pair (Kd.int .i64) (Kd.pair (Kd.int .i64) (Kd.pair (Kd.int .i64) (Kd.pair (Kd.slice 4 Kd.bool) (Kd.pair (Kd.slice 2 (Kd.int .i64)) (Kd.slice 55 k55)))))))) hsz 0 rfl rfl (Opn.Opens.struct Try.underlying42 (by kernel_rfl) (Opn.OpensFs.cons (off2 := 1) (by rfl) (by kernel_rfl) (by kernel_rfl) (Opn.Opens.int Try.underlying3) (Opn.OpensFs.cons (off2 := 2) (by rfl) (by kernel_rfl) (by kernel_rfl) (Opn.Opens.int Try.underlying2) (Opn.OpensFs.cons (off2 := 3) (by rfl) (by kernel_rfl) (by kernel_rfl) (Opn.Opens.int Try.underlying3) (Opn.OpensFs.cons (off2 := 4) (by rfl) (by kernel_rfl) (by kernel_rfl) (Opn.Opens.int Try.underlying2) (Opn.OpensFs.cons (off2 := 5) (by rfl) (by kernel_rfl) (by kernel_rfl) (Opn.Opens.slice (B := 1) Try.underlying22 (by kernel_rfl) (by kernel_rfl) (Opn.Opens.bool Try.underlying4)) (Opn.OpensFs.cons (off2 := 6) (by rfl) (by kernel_rfl) (by kernel_rfl) (Opn.Opens.slice (B := 8) Try.underlying23 (by kernel_rfl) (by kernel_rfl) (Opn.Opens.int Try.underlying2)) (Opn.OpensFs.one (by rfl) (by kernel_rfl) (Opn.Opens.slice (B := 24) Try.underlying34 (by kernel_rfl) (by kernel_rfl) (Opn.Opens.iso (Opn.Opens.struct Try.underlying55 (by kernel_rfl) (Opn.OpensFs.cons (off2 := 1) (by rfl) (by kernel_rfl) (by kernel_rfl) (Opn.Opens.int Try.underlying3) (Opn.OpensFs.cons (off2 := 2) (by rfl) (by kernel_rfl) (by kernel_rfl) (Opn.Opens.int Try.underlying3) (Opn.OpensFs.one (by rfl) (by kernel_rfl) (Opn.Opens.int Try.underlying2))))) (fun x : S55 => (x.f0, x.f1, x.f2)) (fun x => ⟨x.1, x.2.1, x.2.2⟩) (fun _ => rfl))))))))))) h0
  obtain ⟨a0_0, ⟨a0_1, ⟨a0_2, ⟨a0_3, ⟨l0_4, ⟨l0_5, l0_6⟩⟩⟩⟩⟩⟩ := x0
  obtain ⟨g0_0, ⟨g0_1, ⟨g0_2, ⟨g0_3, ⟨g0_4, ⟨g0_5, g0_6⟩⟩⟩⟩⟩⟩ := g0
  have e0 : ((Kd.pair (Kd.int .i64) (Kd.pair (Kd.int .i64) (Kd.pair (Kd.int .i64) (Kd.pair (Kd.int .i64) (Kd.pair (Kd.slice 4 Kd.bool) (Kd.pair (Kd.slice 2 (Kd.int .i64)) (Kd.slice 55 k55)))))))).K W _ cs0 := e0
  obtain ⟨_, _, rfl, rfl, ⟨_, _, rfl, rfl, ⟨_, _, rfl, rfl, ⟨_, _, rfl, rfl, ⟨_, _, rfl, ⟨A0_4, c0_4, rfl, hc0_4, hr0_4⟩, ⟨_, _, rfl, ⟨A0_5, c0_5, rfl, hc0_5, hr0_5⟩, ⟨A0_6, c0_6, rfl, hc0_6, hr0_6⟩⟩⟩⟩⟩⟩⟩ := e0
  have k1 := h1
  have lt1 : ∀ x ∈ p1, x.block < W.heap.size := by obtain ⟨m, hm⟩ := k1; exact DataW.trod_lt m _ _ _ hm
  obtain ⟨A1, n1, c1, rfl⟩ := okWide_slice Try.underlying67 (hval 1 67 v1 rfl rfl)
  obtain ⟨x1, g1, e1⟩ := Opn.opened (kd := (Kd.slice 5 (Kd.int .u8))) hsz 1 rfl rfl (Opn.Opens.slice (B := 1) Try.underlying67 (by kernel_rfl) (by kernel_rfl) (Opn.Opens.int Try.underlying5)) h1
  obtain ⟨A1', c1', hcs1, hc1, hr1⟩ := e1
  have hcs1 : [Value.slice A1 n1 c1] = [Value.slice A1' x1.length c1'] := hcs1
  simp only [List.cons.injEq, Value.slice.injEq, and_true] at hcs1
  obtain ⟨rfl, rfl, rfl⟩ := hcs1
  clear hA0 hval0 hsz0 hsz
  have hw_ := Print.slipwaylaw06_MapBytes.walk Pure.MapBytes a0_0 a0_1 a0_2 a0_3 A0_4 c0_4 l0_4 A0_5 c0_5 l0_5 A0_6 c0_6 l0_6 A1 c1 x1 W hr0_4 hc0_4 hr0_5 hc0_5 hr0_6 hc0_6 hr1 hc1 g0_0 g0_1 g0_2 g0_3 g0_4 g0_5 g0_6 g1
  refine hw_.mono fun e W' ⟨he, bel⟩ => ?_
  subst he
  exact ⟨_, rfl, _, _, _, [], _, [], hW', trodAll_mk1 (shut_bool Try.underlying4 _), (trodAll_cons_mk (Below.trod laidOut (by kernel_rfl) (of_decide_eq_true (by kernel_rfl)) k0 bel lt0) (trodAll_cons_mk (Below.trod laidOut (by kernel_rfl) (of_decide_eq_true (by kernel_rfl)) k1 bel lt1) trodAll_mk0)), rfl, bel.frame _, fun h => by cases h⟩
theorem over : Rows.mapBytesRow.holds Try.pinned (OpenSpec.ofChange Rows.mapBytesSpec) :=
  OpenClaim.holds_of_wide 9 Try.f9 rfl rfl rfl rfl rfl rfl rfl ⟨rfl, rfl, rfl, rfl, rfl⟩ rfl rfl rfl rfl rfl (by kernel_rfl) Try.func9 (by kernel_rfl)
    (of_decide_eq_true (by kernel_rfl)) (by unfold Func.isWrapper; first | (rw [if_pos (by decide +kernel)]; kernel_rfl) | (rw [if_neg (by decide +kernel)]; exact ⟨rfl, rfl⟩))
    (fun os started H enc _ => lifted os started H enc)
theorem proved : Rows.MapBytesSaid := over
#print axioms proved
end Go.Proofs.Ytkhbmgclklmimaa.mapBytes
namespace Go.Proofs.Ytkhbmgclklmimaa
/-- The row, under a short name, for the claim. -/
theorem mapBytes_holds : Rows.MapBytesSaid := mapBytes.proved
end Go.Proofs.Ytkhbmgclklmimaa
