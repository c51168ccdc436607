/- The statement PageTorn of layer 03 is proved: the law returns true for every input and leaves its arguments as they were; there is no condition -/
import Derived.Test.YtdohpjjggjehfaaRows
import Derived.Test.YtdohpjjggjehfaaPageTornM22
import Derived.Test.YtdohpjjggjehfaaPageTornM35
import Derived.Test.YtdohpjjggjehfaaPageTornM36
import Derived.WalkKit
import Derived.ProofKit
import Derived.OpenShut
import Derived.ShutString
import Derived.ChangeOld
import Derived.Below
import Derived.SizedLaws
namespace Go.Proofs.Ytdohpjjggjehfaa.pageTorn
open Go.ChangeShapes Go.WideShapes Go.ChangeAt Go.RowKit
open Go.ChangeMaps (open_string shut_string)
open Go.Proofs.YtdohpjjggjehfaaW.PrintWords Go.Proofs.Ytdohpjjggjehfaa.Print
set_option linter.unusedVariables false
theorem own : ownKnob Try.prog.godebug = none := by kernel_rfl
theorem laidOut : laidOutB Try.prog = true := by kernel_rfl
set_option maxRecDepth 100000 in
theorem lifted (os : Os) (started : os.Started) (H : Type) (enc : TypeId × Value → H) :
    ReturnsInHanded {} Try.checked os 7 .any (Rows.pageTornSpec.pre6 enc Try.prog Try.f7 Rows.pageTornRow.domain false) (Rows.pageTornSpec.post enc Try.prog Try.f7 false true false false) := by
  refine returnsInHanded_of_change_sized (C := Try.checked) own started (by kernel_rfl) Try.func7
    (ChangeSpec.witness6 (enc := enc) (C := Try.checked) false ⟨#[], #[.agg #[.int .i64 0, .int .i64 0, .int .i64 0, .int .i64 0], .slice none 0 0, .slice none 0 0], []⟩ 8 (by kernel_rfl) (by kernel_rfl) (by kernel_rfl) (by kernel_rfl)) ?_
  intro W base args ds gs before hval0 hW hcnd hsz0 _
  have hsz : (DataW.weightsEach Try.prog (Try.f7.params.toList ++ Rows.pageTornSpec.plain.varTypes Try.prog) (ds ++ gs)).all (· ≤ reachBytes) = true := hsz0
  have hval : ∀ (j : Nat) t v, Try.f7.params[j]? = some t → args[j]? = some v → Value.okWide Try.prog W .any base t v := hval0
  have hW' := hW
  obtain ⟨p, q, hA0, hV, rfl, hfz, hnd⟩ := hW
  have hA : DataW.TrodAll enc Try.prog W 0 (fun _ => true) true Try.f7.params.toList args.toList ds p := hA0
  rw [Try.params7] at hA hval hsz
  obtain ⟨v0, vs0, d0, ds0, p0, q0, hargs, rfl, rfl, h0, r0⟩ := trodAll_cons hA
  obtain ⟨v1, vs1, d1, ds1, p1, q1, rfl, rfl, rfl, h1, r1⟩ := trodAll_cons r0
  obtain ⟨v2, vs2, d2, ds2, p2, q2, rfl, rfl, rfl, h2, r2⟩ := trodAll_cons r1
  obtain ⟨rfl, rfl, rfl⟩ := trodAll_nil r2
  obtain rfl : args = #[v0, v1, v2] := by cases args; simp_all
  obtain ⟨rfl, rfl⟩ := trodVars_none hV
  have k0 := h0
  have lt0 : ∀ x ∈ p0, x.block < W.heap.size := by obtain ⟨m, hm⟩ := k0; exact DataW.trod_lt m _ _ _ hm
  obtain ⟨⟨cs0⟩, rfl, _⟩ := okWide_struct Try.underlying23 (hval 0 23 v0 rfl rfl)
  obtain ⟨x0, g0, e0⟩ := Opn.opened (kd := (Kd.pair (Kd.int .i64) (Kd.pair (Kd.int .i64) (Kd.pair (Kd.int .i64) (Kd.int .i64))))) hsz 0 rfl rfl (Opn.Opens.struct Try.underlying23 (by kernel_rfl) (Opn.OpensFs.cons (off2 := 1) (by rfl) (by kernel_rfl) (by kernel_rfl) (Opn.Opens.int Try.underlying3) (Opn.OpensFs.cons (off2 := 2) (by rfl) (by kernel_rfl) (by kernel_rfl) (Opn.Opens.int Try.underlying3) (Opn.OpensFs.cons (off2 := 3) (by rfl) (by kernel_rfl) (by kernel_rfl) (Opn.Opens.int Try.underlying2) (Opn.OpensFs.one (by rfl) (by kernel_rfl) (Opn.Opens.int Try.underlying2)))))) h0
  obtain ⟨a0_0, ⟨a0_1, ⟨a0_2, a0_3⟩⟩⟩ := x0
  obtain ⟨g0_0, ⟨g0_1, ⟨g0_2, g0_3⟩⟩⟩ := g0
  have e0 : ((Kd.pair (Kd.int .i64) (Kd.pair (Kd.int .i64) (Kd.pair (Kd.int .i64) (Kd.int .i64))))).K W _ cs0 := e0
  obtain ⟨_, _, rfl, rfl, ⟨_, _, rfl, rfl, ⟨_, _, rfl, rfl, rfl⟩⟩⟩ := e0
  have k1 := h1
  have lt1 : ∀ x ∈ p1, x.block < W.heap.size := by obtain ⟨m, hm⟩ := k1; exact DataW.trod_lt m _ _ _ hm
  obtain ⟨A1, n1, c1, rfl⟩ := okWide_slice Try.underlying24 (hval 1 24 v1 rfl rfl)
  obtain ⟨x1, g1, e1⟩ := Opn.opened (kd := (Kd.slice 5 (Kd.int .u8))) hsz 1 rfl rfl (Opn.Opens.slice (B := 1) Try.underlying24 (by kernel_rfl) (by kernel_rfl) (Opn.Opens.int Try.underlying5)) h1
  obtain ⟨A1', c1', hcs1, hc1, hr1⟩ := e1
  have hcs1 : [Value.slice A1 n1 c1] = [Value.slice A1' x1.length c1'] := hcs1
  simp only [List.cons.injEq, Value.slice.injEq, and_true] at hcs1
  obtain ⟨rfl, rfl, rfl⟩ := hcs1
  have k2 := h2
  have lt2 : ∀ x ∈ p2, x.block < W.heap.size := by obtain ⟨m, hm⟩ := k2; exact DataW.trod_lt m _ _ _ hm
  obtain ⟨A2, n2, c2, rfl⟩ := okWide_slice Try.underlying24 (hval 2 24 v2 rfl rfl)
  obtain ⟨x2, g2, e2⟩ := Opn.opened (kd := (Kd.slice 5 (Kd.int .u8))) hsz 2 rfl rfl (Opn.Opens.slice (B := 1) Try.underlying24 (by kernel_rfl) (by kernel_rfl) (Opn.Opens.int Try.underlying5)) h2
  obtain ⟨A2', c2', hcs2, hc2, hr2⟩ := e2
  have hcs2 : [Value.slice A2 n2 c2] = [Value.slice A2' x2.length c2'] := hcs2
  simp only [List.cons.injEq, Value.slice.injEq, and_true] at hcs2
  obtain ⟨rfl, rfl, rfl⟩ := hcs2
  clear hA0 hval0 hsz0 hsz
  have hw_ := Print.slipwaylaw03_PageTorn.walk Pure.PageTorn a0_0 a0_1 a0_2 a0_3 A1 c1 x1 A2 c2 x2 W hr1 hc1 hr2 hc2 g0_0 g0_1 g0_2 g0_3 g1 g2
  refine hw_.mono fun e W' ⟨he, bel⟩ => ?_
  subst he
  exact ⟨_, rfl, _, _, _, [], _, [], hW', trodAll_mk1 (shut_bool Try.underlying4 _), (trodAll_cons_mk (Below.trod laidOut (by kernel_rfl) (of_decide_eq_true (by kernel_rfl)) k0 bel lt0) (trodAll_cons_mk (Below.trod laidOut (by kernel_rfl) (of_decide_eq_true (by kernel_rfl)) k1 bel lt1) (trodAll_cons_mk (Below.trod laidOut (by kernel_rfl) (of_decide_eq_true (by kernel_rfl)) k2 bel lt2) trodAll_mk0))), rfl, bel.frame _, fun h => by cases h⟩
theorem over : Rows.pageTornRow.holds Try.pinned (OpenSpec.ofChange Rows.pageTornSpec) :=
  OpenClaim.holds_of_wide 7 Try.f7 rfl rfl rfl rfl rfl rfl rfl ⟨rfl, rfl, rfl, rfl, rfl⟩ rfl rfl rfl rfl rfl (by kernel_rfl) Try.func7 (by kernel_rfl)
    (of_decide_eq_true (by kernel_rfl)) (by unfold Func.isWrapper; first | (rw [if_pos (by decide +kernel)]; kernel_rfl) | (rw [if_neg (by decide +kernel)]; exact ⟨rfl, rfl⟩))
    (fun os started H enc _ => lifted os started H enc)
theorem proved : Rows.PageTornSaid := over
#print axioms proved
end Go.Proofs.Ytdohpjjggjehfaa.pageTorn
namespace Go.Proofs.Ytdohpjjggjehfaa
/-- The row, under a short name, for the claim. -/
theorem pageTorn_holds : Rows.PageTornSaid := pageTorn.proved
end Go.Proofs.Ytdohpjjggjehfaa
