/- The statement InodeOwn of layer 14 is proved: the law returns true for every input and leaves its arguments as they were; there is no condition -/
import Derived.Test.YtjoojmodghpimaaRows
import Derived.Test.YtjoojmodghpimaaInodeOwnM20
import Derived.Test.YtjoojmodghpimaaInodeOwnM31
import Derived.Test.YtjoojmodghpimaaInodeOwnM32
import Derived.WalkKit
import Derived.ProofKit
import Derived.OpenShut
import Derived.ShutString
import Derived.ChangeOld
import Derived.Below
import Derived.SizedLaws
namespace Go.Proofs.Ytjoojmodghpimaa.inodeOwn
open Go.ChangeShapes Go.WideShapes Go.ChangeAt Go.RowKit
open Go.ChangeMaps (open_string shut_string)
open Go.Proofs.YtjoojmodghpimaaW.PrintWords Go.Proofs.Ytjoojmodghpimaa.Print
set_option linter.unusedVariables false
theorem own : ownKnob Try.prog.godebug = none := by kernel_rfl
theorem laidOut : laidOutB Try.prog = true := by kernel_rfl
set_option maxRecDepth 100000 in
theorem lifted (os : Os) (started : os.Started) (H : Type) (enc : TypeId × Value → H) :
    ReturnsInHanded {} Try.checked os 5 .any (Rows.inodeOwnSpec.pre6 enc Try.prog Try.f5 Rows.inodeOwnRow.domain false) (Rows.inodeOwnSpec.post enc Try.prog Try.f5 false true false false) := by
  refine returnsInHanded_of_change_sized (C := Try.checked) own started (by kernel_rfl) Try.func5
    (ChangeSpec.witness6 (enc := enc) (C := Try.checked) false ⟨#[], #[.slice none 0 0, .int .i64 0, .agg #[.int .i64 0, .int .i64 0, .int .i64 0, .int .i64 0, .int .i64 0, .int .i64 0, .slice none 0 0]], []⟩ 8 (by kernel_rfl) (by kernel_rfl) (by kernel_rfl) (by kernel_rfl)) ?_
  intro W base args ds gs before hval0 hW hcnd hsz0 _
  have hsz : (DataW.weightsEach Try.prog (Try.f5.params.toList ++ Rows.inodeOwnSpec.plain.varTypes Try.prog) (ds ++ gs)).all (· ≤ reachBytes) = true := hsz0
  have hval : ∀ (j : Nat) t v, Try.f5.params[j]? = some t → args[j]? = some v → Value.okWide Try.prog W .any base t v := hval0
  have hW' := hW
  obtain ⟨p, q, hA0, hV, rfl, hfz, hnd⟩ := hW
  have hA : DataW.TrodAll enc Try.prog W 0 (fun _ => true) true Try.f5.params.toList args.toList ds p := hA0
  rw [Try.params5] at hA hval hsz
  obtain ⟨v0, vs0, d0, ds0, p0, q0, hargs, rfl, rfl, h0, r0⟩ := trodAll_cons hA
  obtain ⟨v1, vs1, d1, ds1, p1, q1, rfl, rfl, rfl, h1, r1⟩ := trodAll_cons r0
  obtain ⟨v2, vs2, d2, ds2, p2, q2, rfl, rfl, rfl, h2, r2⟩ := trodAll_cons r1
  obtain ⟨rfl, rfl, rfl⟩ := trodAll_nil r2
  obtain rfl : args = #[v0, v1, v2] := by cases args; simp_all
  obtain ⟨rfl, rfl⟩ := trodVars_none hV
  have k0 := h0
  have lt0 : ∀ x ∈ p0, x.block < W.heap.size := by obtain ⟨m, hm⟩ := k0; exact DataW.trod_lt m _ _ _ hm
  obtain ⟨A0, n0, c0, rfl⟩ := okWide_slice Try.underlying25 (hval 0 25 v0 rfl rfl)
  obtain ⟨x0, g0, e0⟩ := Opn.opened (kd := (Kd.slice 5 (Kd.int .u8))) hsz 0 rfl rfl (Opn.Opens.slice (B := 1) Try.underlying25 (by kernel_rfl) (by kernel_rfl) (Opn.Opens.int Try.underlying5)) h0
  obtain ⟨A0', c0', hcs0, hc0, hr0⟩ := e0
  have hcs0 : [Value.slice A0 n0 c0] = [Value.slice A0' x0.length c0'] := hcs0
  simp only [List.cons.injEq, Value.slice.injEq, and_true] at hcs0
  obtain ⟨rfl, rfl, rfl⟩ := hcs0
  obtain ⟨a1, rfl, rfl, rfl, w1⟩ := open_int Try.underlying3 (hval 1 3 v1 rfl rfl) h1
  have k2 := h2
  have lt2 : ∀ x ∈ p2, x.block < W.heap.size := by obtain ⟨m, hm⟩ := k2; exact DataW.trod_lt m _ _ _ hm
  obtain ⟨⟨cs2⟩, rfl, _⟩ := okWide_struct Try.underlying24 (hval 2 24 v2 rfl rfl)
  obtain ⟨x2, g2, e2⟩ := Opn.opened (kd := (Kd.pair (Kd.int .i64) (Kd.pair (Kd.int .i64) (Kd.pair (Kd.int .i64) (Kd.pair (Kd.int .i64) (Kd.pair (Kd.int .i64) (Kd.pair (Kd.int .i64) (Kd.slice 51 k51)))))))) hsz 2 rfl rfl (Opn.Opens.struct Try.underlying24 (by kernel_rfl) (Opn.OpensFs.cons (off2 := 1) (by rfl) (by kernel_rfl) (by kernel_rfl) (Opn.Opens.int Try.underlying3) (Opn.OpensFs.cons (off2 := 2) (by rfl) (by kernel_rfl) (by kernel_rfl) (Opn.Opens.int Try.underlying3) (Opn.OpensFs.cons (off2 := 3) (by rfl) (by kernel_rfl) (by kernel_rfl) (Opn.Opens.int Try.underlying2) (Opn.OpensFs.cons (off2 := 4) (by rfl) (by kernel_rfl) (by kernel_rfl) (Opn.Opens.int Try.underlying3) (Opn.OpensFs.cons (off2 := 5) (by rfl) (by kernel_rfl) (by kernel_rfl) (Opn.Opens.int Try.underlying2) (Opn.OpensFs.cons (off2 := 6) (by rfl) (by kernel_rfl) (by kernel_rfl) (Opn.Opens.int Try.underlying3) (Opn.OpensFs.one (by rfl) (by kernel_rfl) (Opn.Opens.slice (B := 24) Try.underlying22 (by kernel_rfl) (by kernel_rfl) (Opn.Opens.iso (Opn.Opens.struct Try.underlying51 (by kernel_rfl) (Opn.OpensFs.cons (off2 := 1) (by rfl) (by kernel_rfl) (by kernel_rfl) (Opn.Opens.int Try.underlying3) (Opn.OpensFs.cons (off2 := 2) (by rfl) (by kernel_rfl) (by kernel_rfl) (Opn.Opens.int Try.underlying3) (Opn.OpensFs.one (by rfl) (by kernel_rfl) (Opn.Opens.int Try.underlying3))))) (fun x : S51 => (x.f0, x.f1, x.f2)) (fun x => ⟨x.1, x.2.1, x.2.2⟩) (fun _ => rfl))))))))))) h2
  obtain ⟨a2_0, ⟨a2_1, ⟨a2_2, ⟨a2_3, ⟨a2_4, ⟨a2_5, l2_6⟩⟩⟩⟩⟩⟩ := x2
  obtain ⟨g2_0, ⟨g2_1, ⟨g2_2, ⟨g2_3, ⟨g2_4, ⟨g2_5, g2_6⟩⟩⟩⟩⟩⟩ := g2
  have e2 : ((Kd.pair (Kd.int .i64) (Kd.pair (Kd.int .i64) (Kd.pair (Kd.int .i64) (Kd.pair (Kd.int .i64) (Kd.pair (Kd.int .i64) (Kd.pair (Kd.int .i64) (Kd.slice 51 k51)))))))).K W _ cs2 := e2
  obtain ⟨_, _, rfl, rfl, ⟨_, _, rfl, rfl, ⟨_, _, rfl, rfl, ⟨_, _, rfl, rfl, ⟨_, _, rfl, rfl, ⟨_, _, rfl, rfl, ⟨A2_6, c2_6, rfl, hc2_6, hr2_6⟩⟩⟩⟩⟩⟩⟩ := e2
  clear hA0 hval0 hsz0 hsz
  refine (Print.slipwaylaw14_InodeOwn.walk Pure.InodeOwn A0 c0 x0 a1 a2_0 a2_1 a2_2 a2_3 a2_4 a2_5 A2_6 c2_6 l2_6 W hr0 hc0 hr2_6 hc2_6 g0 w1 g2_0 g2_1 g2_2 g2_3 g2_4 g2_5 g2_6).mono fun e W' ⟨he, bel⟩ => ?_
  subst he
  exact ⟨_, rfl, _, _, _, [], _, [], hW', trodAll_mk1 (shut_bool Try.underlying4 _), (trodAll_cons_mk (Below.trod laidOut (by kernel_rfl) (of_decide_eq_true (by kernel_rfl)) k0 bel lt0) (trodAll_cons_mk (shut_int Try.underlying3 w1) (trodAll_cons_mk (Below.trod laidOut (by kernel_rfl) (of_decide_eq_true (by kernel_rfl)) k2 bel lt2) trodAll_mk0))), rfl, bel.frame _, fun h => by cases h⟩
theorem over : Rows.inodeOwnRow.holds Try.pinned (OpenSpec.ofChange Rows.inodeOwnSpec) :=
  OpenClaim.holds_of_wide 5 Try.f5 rfl rfl rfl rfl rfl rfl rfl ⟨rfl, rfl, rfl, rfl, rfl⟩ rfl rfl rfl rfl rfl (by kernel_rfl) Try.func5 (by kernel_rfl)
    (of_decide_eq_true (by kernel_rfl)) (by unfold Func.isWrapper; first | (rw [if_pos (by decide +kernel)]; kernel_rfl) | (rw [if_neg (by decide +kernel)]; exact ⟨rfl, rfl⟩))
    (fun os started H enc _ => lifted os started H enc)
theorem proved : Rows.InodeOwnSaid := over
#print axioms proved
end Go.Proofs.Ytjoojmodghpimaa.inodeOwn
namespace Go.Proofs.Ytjoojmodghpimaa
/-- The row, under a short name, for the claim. -/
theorem inodeOwn_holds : Rows.InodeOwnSaid := inodeOwn.proved
end Go.Proofs.Ytjoojmodghpimaa
