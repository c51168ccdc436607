/- The statement PageReads of layer 03 is proved: the law returns true for every input and leaves its arguments as they were; there is no condition -/
import Derived.Test.YtdohpjjggjehfaaRows
import Derived.Test.YtdohpjjggjehfaaPageReadsM23
import Derived.Test.YtdohpjjggjehfaaPageReadsM38
import Derived.Test.YtdohpjjggjehfaaPageReadsM39
import Derived.Test.YtdohpjjggjehfaaPageReadsM40
import Derived.WalkKit
import Derived.ProofKit
import Derived.OpenShut
import Derived.ShutString
import Derived.ChangeOld
import Derived.Below
import Derived.SizedLaws
namespace Go.Proofs.Ytdohpjjggjehfaa.pageReads
open Go.ChangeShapes Go.WideShapes Go.ChangeAt Go.RowKit
open Go.ChangeMaps (open_string shut_string)
open Go.Proofs.YtdohpjjggjehfaaW.PrintWords Go.Proofs.Ytdohpjjggjehfaa.Print
set_option linter.unusedVariables false
theorem own : ownKnob Try.prog.godebug = none := by kernel_rfl
theorem laidOut : laidOutB Try.prog = true := by kernel_rfl
set_option maxRecDepth 100000 in
theorem lifted (os : Os) (started : os.Started) (H : Type) (enc : TypeId × Value → H) :
    ReturnsInHanded {} Try.checked os 6 .any (Rows.pageReadsSpec.pre6 enc Try.prog Try.f6 Rows.pageReadsRow.domain false) (Rows.pageReadsSpec.post enc Try.prog Try.f6 false true false false) := by
  refine returnsInHanded_of_change_sized (C := Try.checked) own started (by kernel_rfl) Try.func6
    (ChangeSpec.witness6 (enc := enc) (C := Try.checked) false ⟨#[], #[.agg (pc pz), .slice none 0 0], []⟩ 8 (by kernel_rfl) (by kernel_rfl) (by kernel_rfl) (by kernel_rfl)) ?_
  intro W base args ds gs before hval0 hW hcnd hsz0 _
  have hsz : (DataW.weightsEach Try.prog (Try.f6.params.toList ++ Rows.pageReadsSpec.plain.varTypes Try.prog) (ds ++ gs)).all (· ≤ reachBytes) = true := hsz0
  have hval : ∀ (j : Nat) t v, Try.f6.params[j]? = some t → args[j]? = some v → Value.okWide Try.prog W .any base t v := hval0
  have hW' := hW
  obtain ⟨p, q, hA0, hV, rfl, hfz, hnd⟩ := hW
  have hA : DataW.TrodAll enc Try.prog W 0 (fun _ => true) true Try.f6.params.toList args.toList ds p := hA0
  rw [Try.params6] at hA hval hsz
  obtain ⟨v0, vs0, d0, ds0, p0, q0, hargs, rfl, rfl, h0, r0⟩ := trodAll_cons hA
  obtain ⟨v1, vs1, d1, ds1, p1, q1, rfl, rfl, rfl, h1, r1⟩ := trodAll_cons r0
  obtain ⟨rfl, rfl, rfl⟩ := trodAll_nil r1
  obtain rfl : args = #[v0, v1] := by cases args; simp_all
  obtain ⟨rfl, rfl⟩ := trodVars_none hV
  have k0 := h0
  have lt0 : ∀ x ∈ p0, x.block < W.heap.size := by obtain ⟨m, hm⟩ := k0; exact DataW.trod_lt m _ _ _ hm
  obtain ⟨⟨cs0⟩, rfl, _⟩ := okWide_struct Try.underlying29 (hval 0 29 v0 rfl rfl)
  obtain ⟨⟨pa0, pb0⟩, ⟨ga0, gb0⟩, e0⟩ := Opn.opened (kd := (Kd.pair (Opn.kb 256) (Opn.kb 32))) hsz 0 rfl rfl (Opn.Opens.struct Try.underlying29 (by kernel_rfl) (Opn.OpensFs.cons (off2 := 256) (by rfl) (by kernel_rfl) (by kernel_rfl) (Opn.Opens.bytes Try.underlying26 Try.underlying5 (by kernel_rfl) (by kernel_rfl)) (Opn.OpensFs.one (by rfl) (by kernel_rfl) (Opn.Opens.bytes Try.underlying27 Try.underlying5 (by kernel_rfl) (by kernel_rfl))))) h0
  obtain ⟨c1_0, c2_0, hcc0, ⟨la0, ha0⟩, ⟨lb0, hb0⟩⟩ := e0
  have hcs0 := Opn.page_cells hcc0 ha0 hb0
  have k1 := h1
  have lt1 : ∀ x ∈ p1, x.block < W.heap.size := by obtain ⟨m, hm⟩ := k1; exact DataW.trod_lt m _ _ _ hm
  obtain ⟨A1, n1, c1, rfl⟩ := okWide_slice Try.underlying24 (hval 1 24 v1 rfl rfl)
  obtain ⟨x1, g1, e1⟩ := Opn.opened (kd := (Kd.slice 5 (Kd.int .u8))) hsz 1 rfl rfl (Opn.Opens.slice (B := 1) Try.underlying24 (by kernel_rfl) (by kernel_rfl) (Opn.Opens.int Try.underlying5)) h1
  obtain ⟨A1', c1', hcs1, hc1, hr1⟩ := e1
  have hcs1 : [Value.slice A1 n1 c1] = [Value.slice A1' x1.length c1'] := hcs1
  simp only [List.cons.injEq, Value.slice.injEq, and_true] at hcs1
  obtain ⟨rfl, rfl, rfl⟩ := hcs1
  clear hA0 hval0 hsz0 hsz
  have hw_ := Print.slipwaylaw03_PageReads.walk Pure.PageReads (pa0 ++ pb0) A1 c1 x1 W hr1 hc1 ⟨by rw [List.length_append]; show pa0.length + pb0.length = 288; have : pa0.length = 256 := la0; have : pb0.length = 32 := lb0; omega, fun x hx => (List.mem_append.1 hx).elim (ga0 x) (gb0 x)⟩ g1
  rw [← hcs0] at hw_
  refine hw_.mono fun e W' ⟨he, bel⟩ => ?_
  subst he
  exact ⟨_, rfl, _, _, _, [], _, [], hW', trodAll_mk1 (shut_bool Try.underlying4 _), (trodAll_cons_mk (Below.trod laidOut (by kernel_rfl) (of_decide_eq_true (by kernel_rfl)) k0 bel lt0) (trodAll_cons_mk (Below.trod laidOut (by kernel_rfl) (of_decide_eq_true (by kernel_rfl)) k1 bel lt1) trodAll_mk0)), rfl, bel.frame _, fun h => by cases h⟩
theorem over : Rows.pageReadsRow.holds Try.pinned (OpenSpec.ofChange Rows.pageReadsSpec) :=
  OpenClaim.holds_of_wide 6 Try.f6 rfl rfl rfl rfl rfl rfl rfl ⟨rfl, rfl, rfl, rfl, rfl⟩ rfl rfl rfl rfl rfl (by kernel_rfl) Try.func6 (by kernel_rfl)
    (of_decide_eq_true (by kernel_rfl)) (by unfold Func.isWrapper; first | (rw [if_pos (by decide +kernel)]; kernel_rfl) | (rw [if_neg (by decide +kernel)]; exact ⟨rfl, rfl⟩))
    (fun os started H enc _ => lifted os started H enc)
theorem proved : Rows.PageReadsSaid := over
#print axioms proved
end Go.Proofs.Ytdohpjjggjehfaa.pageReads
namespace Go.Proofs.Ytdohpjjggjehfaa
/-- The row, under a short name, for the claim. -/
theorem pageReads_holds : Rows.PageReadsSaid := pageReads.proved
end Go.Proofs.Ytdohpjjggjehfaa
