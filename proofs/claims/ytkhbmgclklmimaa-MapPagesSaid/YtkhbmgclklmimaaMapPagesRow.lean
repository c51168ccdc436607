/- The statement MapPages of layer 06 is proved: the law returns true for every input and leaves its arguments as they were; there is no condition -/
import Derived.Test.YtkhbmgclklmimaaRows
import Derived.Test.YtkhbmgclklmimaaMapPagesM17
import Derived.Test.YtkhbmgclklmimaaMapPagesM23
import Derived.Test.YtkhbmgclklmimaaMapPagesM24
import Derived.WalkKit
import Derived.ProofKit
import Derived.OpenShut
import Derived.ShutString
import Derived.ChangeOld
import Derived.Below
import Derived.SizedLaws
namespace Go.Proofs.Ytkhbmgclklmimaa.mapPages
open Go.ChangeShapes Go.WideShapes Go.ChangeAt Go.RowKit
open Go.ChangeMaps (open_string shut_string)
open Go.Proofs.YtkhbmgclklmimaaW.PrintWords Go.Proofs.Ytkhbmgclklmimaa.Print
set_option linter.unusedVariables false
theorem own : ownKnob Try.prog.godebug = none := by kernel_rfl
theorem laidOut : laidOutB Try.prog = true := by kernel_rfl
set_option maxRecDepth 100000 in
theorem lifted (os : Os) (started : os.Started) (H : Type) (enc : TypeId × Value → H) :
    ReturnsInHanded {} Try.checked os 5 .any (Rows.mapPagesSpec.pre6 enc Try.prog Try.f5 Rows.mapPagesRow.domain false) (Rows.mapPagesSpec.post enc Try.prog Try.f5 false true false false) := by
  refine returnsInHanded_of_change_sized (C := Try.checked) own started (by kernel_rfl) Try.func5
    (ChangeSpec.witness6 (enc := enc) (C := Try.checked) false ⟨#[], #[.agg #[.slice none 0 0, .slice none 0 0, .int .i64 0], .int .i64 0, .slice none 0 0, .int .i64 0, .agg #[.int .i64 0, .int .i64 0, .int .i64 0, .int .i64 0, .slice none 0 0, .slice none 0 0, .slice none 0 0], .agg #[.int .i64 0, .int .i64 0, .int .i64 0, .int .i64 0, .slice none 0 0, .slice none 0 0, .slice none 0 0]], []⟩ 8 (by kernel_rfl) (by kernel_rfl) (by kernel_rfl) (by kernel_rfl)) ?_
  intro W base args ds gs before hval0 hW hcnd hsz0 _
  have hsz : (DataW.weightsEach Try.prog (Try.f5.params.toList ++ Rows.mapPagesSpec.plain.varTypes Try.prog) (ds ++ gs)).all (· ≤ reachBytes) = true := hsz0
  have hval : ∀ (j : Nat) t v, Try.f5.params[j]? = some t → args[j]? = some v → Value.okWide Try.prog W .any base t v := hval0
  have hW' := hW
  obtain ⟨p, q, hA0, hV, rfl, hfz, hnd⟩ := hW
  have hA : DataW.TrodAll enc Try.prog W 0 (fun _ => true) true Try.f5.params.toList args.toList ds p := hA0
  rw [Try.params5] at hA hval hsz
  obtain ⟨v0, vs0, d0, ds0, p0, q0, hargs, rfl, rfl, h0, r0⟩ := trodAll_cons hA
  obtain ⟨v1, vs1, d1, ds1, p1, q1, rfl, rfl, rfl, h1, r1⟩ := trodAll_cons r0
  obtain ⟨v2, vs2, d2, ds2, p2, q2, rfl, rfl, rfl, h2, r2⟩ := trodAll_cons r1
  obtain ⟨v3, vs3, d3, ds3, p3, q3, rfl, rfl, rfl, h3, r3⟩ := trodAll_cons r2
  obtain ⟨v4, vs4, d4, ds4, p4, q4, rfl, rfl, rfl, h4, r4⟩ := trodAll_cons r3
  obtain ⟨v5, vs5, d5, ds5, p5, q5, rfl, rfl, rfl, h5, r5⟩ := trodAll_cons r4
  obtain ⟨rfl, rfl, rfl⟩ := trodAll_nil r5
  obtain rfl : args = #[v0, v1, v2, v3, v4, v5] := by cases args; simp_all
  obtain ⟨rfl, rfl⟩ := trodVars_none hV
  have k0 := h0
  have lt0 : ∀ x ∈ p0, x.block < W.heap.size := by obtain ⟨m, hm⟩ := k0; exact DataW.trod_lt m _ _ _ hm
  obtain ⟨⟨cs0⟩, rfl, _⟩ := okWide_struct Try.underlying25 (hval 0 25 v0 rfl rfl)
  obtain ⟨x0, g0, e0⟩ := Opn.opened (kd := (Kd.pair (Kd.slice 4 Kd.bool) (Kd.pair (Kd.slice 2 (Kd.int .i64)) (Kd.int .i64)))) hsz 0 rfl rfl (Opn.Opens.struct Try.underlying25 (by kernel_rfl) (Opn.OpensFs.cons (off2 := 1) (by rfl) (by kernel_rfl) (by kernel_rfl) (Opn.Opens.slice (B := 1) Try.underlying22 (by kernel_rfl) (by kernel_rfl) (Opn.Opens.bool Try.underlying4)) (Opn.OpensFs.cons (off2 := 2) (by rfl) (by kernel_rfl) (by kernel_rfl) (Opn.Opens.slice (B := 8) Try.underlying23 (by kernel_rfl) (by kernel_rfl) (Opn.Opens.int Try.underlying2)) (Opn.OpensFs.one (by rfl) (by kernel_rfl) (Opn.Opens.int Try.underlying2))))) h0
  obtain ⟨l0_0, ⟨l0_1, a0_2⟩⟩ := x0
  obtain ⟨g0_0, ⟨g0_1, g0_2⟩⟩ := g0
  have e0 : ((Kd.pair (Kd.slice 4 Kd.bool) (Kd.pair (Kd.slice 2 (Kd.int .i64)) (Kd.int .i64)))).K W _ cs0 := e0
  obtain ⟨_, _, rfl, ⟨A0_0, c0_0, rfl, hc0_0, hr0_0⟩, ⟨_, _, rfl, ⟨A0_1, c0_1, rfl, hc0_1, hr0_1⟩, rfl⟩⟩ := e0
  obtain ⟨a1, rfl, rfl, rfl, w1⟩ := open_int Try.underlying2 (hval 1 2 v1 rfl rfl) h1
  have k2 := h2
  have lt2 : ∀ x ∈ p2, x.block < W.heap.size := by obtain ⟨m, hm⟩ := k2; exact DataW.trod_lt m _ _ _ hm
  obtain ⟨A2, n2, c2, rfl⟩ := okWide_slice Try.underlying34 (hval 2 34 v2 rfl rfl)
  obtain ⟨x2, g2, e2⟩ := Opn.opened (kd := (Kd.slice 55 k55)) hsz 2 rfl rfl (Opn.Opens.slice (B := 24) Try.underlying34 (by kernel_rfl) (by kernel_rfl) (Opn.Opens.iso (Opn.Opens.struct Try.underlying55 (by kernel_rfl) (Opn.OpensFs.cons (off2 := 1) (by rfl) (by kernel_rfl) (by kernel_rfl) (Opn.Opens.int Try.underlying3) (Opn.OpensFs.cons (off2 := 2) (by rfl) (by kernel_rfl) (by kernel_rfl) (Opn.Opens.int Try.underlying3) (Opn.OpensFs.one (by rfl) (by kernel_rfl) (Opn.Opens.int Try.underlying2))))) (fun x : S55 => (x.f0, x.f1, x.f2)) (fun x => ⟨x.1, x.2.1, x.2.2⟩) (fun _ => rfl))) h2
  obtain ⟨A2', c2', hcs2, hc2, hr2⟩ := e2
  have hcs2 : [Value.slice A2 n2 c2] = [Value.slice A2' x2.length c2'] := hcs2
  simp only [List.cons.injEq, Value.slice.injEq, and_true] at hcs2
  obtain ⟨rfl, rfl, rfl⟩ := hcs2
  obtain ⟨a3, rfl, rfl, rfl, w3⟩ := open_int Try.underlying3 (hval 3 3 v3 rfl rfl) h3
  have k4 := h4
  have lt4 : ∀ x ∈ p4, x.block < W.heap.size := by obtain ⟨m, hm⟩ := k4; exact DataW.trod_lt m _ _ _ hm
  obtain ⟨⟨cs4⟩, rfl, _⟩ := okWide_struct Try.underlying42 (hval 4 42 v4 rfl rfl)
  obtain ⟨x4, g4, e4⟩ := Opn.opened (kd := (Kd.pair (Kd.int .i64) (Kd.pair (Kd.int .i64) (Kd.pair (Kd.int .i64) (Kd.pair (Kd.int .i64) (Kd.pair (Kd.slice 4 Kd.bool) (Kd.pair (Kd.slice 2 (Kd.int .i64)) (Kd.slice 55 k55)))))))) hsz 4 rfl rfl (Opn.Opens.struct Try.underlying42 (by kernel_rfl) (Opn.OpensFs.cons (off2 := 1) (by rfl) (by kernel_rfl) (by kernel_rfl) (Opn.Opens.int Try.underlying3) (Opn.OpensFs.cons (off2 := 2) (by rfl) (by kernel_rfl) (by kernel_rfl) (Opn.Opens.int Try.underlying2) (Opn.OpensFs.cons (off2 := 3) (by rfl) (by kernel_rfl) (by kernel_rfl) (Opn.Opens.int Try.underlying3) (Opn.OpensFs.cons (off2 := 4) (by rfl) (by kernel_rfl) (by kernel_rfl) (Opn.Opens.int Try.underlying2) (Opn.OpensFs.cons (off2 := 5) (by rfl) (by kernel_rfl) (by kernel_rfl) (Opn.Opens.slice (B := 1) Try.underlying22 (by kernel_rfl) (by kernel_rfl) (Opn.Opens.bool Try.underlying4)) (Opn.OpensFs.cons (off2 := 6) (by rfl) (by kernel_rfl) (by kernel_rfl) (Opn.Opens.slice (B := 8) Try.underlying23 (by kernel_rfl) (by kernel_rfl) (Opn.Opens.int Try.underlying2)) (Opn.OpensFs.one (by rfl) (by kernel_rfl) (Opn.Opens.slice (B := 24) Try.underlying34 (by kernel_rfl) (by kernel_rfl) (Opn.Opens.iso (Opn.Opens.struct Try.underlying55 (by kernel_rfl) (Opn.OpensFs.cons (off2 := 1) (by rfl) (by kernel_rfl) (by kernel_rfl) (Opn.Opens.int Try.underlying3) (Opn.OpensFs.cons (off2 := 2) (by rfl) (by kernel_rfl) (by kernel_rfl) (Opn.Opens.int Try.underlying3) (Opn.OpensFs.one (by rfl) (by kernel_rfl) (Opn.Opens.int Try.underlying2))))) (fun x : S55 => (x.f0, x.f1, x.f2)) (fun x => ⟨x.1, x.2.1, x.2.2⟩) (fun _ => rfl))))))))))) h4
  obtain ⟨a4_0, ⟨a4_1, ⟨a4_2, ⟨a4_3, ⟨l4_4, ⟨l4_5, l4_6⟩⟩⟩⟩⟩⟩ := x4
  obtain ⟨g4_0, ⟨g4_1, ⟨g4_2, ⟨g4_3, ⟨g4_4, ⟨g4_5, g4_6⟩⟩⟩⟩⟩⟩ := g4
  have e4 : ((Kd.pair (Kd.int .i64) (Kd.pair (Kd.int .i64) (Kd.pair (Kd.int .i64) (Kd.pair (Kd.int .i64) (Kd.pair (Kd.slice 4 Kd.bool) (Kd.pair (Kd.slice 2 (Kd.int .i64)) (Kd.slice 55 k55)))))))).K W _ cs4 := e4
  obtain ⟨_, _, rfl, rfl, ⟨_, _, rfl, rfl, ⟨_, _, rfl, rfl, ⟨_, _, rfl, rfl, ⟨_, _, rfl, ⟨A4_4, c4_4, rfl, hc4_4, hr4_4⟩, ⟨_, _, rfl, ⟨A4_5, c4_5, rfl, hc4_5, hr4_5⟩, ⟨A4_6, c4_6, rfl, hc4_6, hr4_6⟩⟩⟩⟩⟩⟩⟩ := e4
  have k5 := h5
  have lt5 : ∀ x ∈ p5, x.block < W.heap.size := by obtain ⟨m, hm⟩ := k5; exact DataW.trod_lt m _ _ _ hm
  obtain ⟨⟨cs5⟩, rfl, _⟩ := okWide_struct Try.underlying42 (hval 5 42 v5 rfl rfl)
  obtain ⟨x5, g5, e5⟩ := Opn.opened (kd := (Kd.pair (Kd.int .i64) (Kd.pair (Kd.int .i64) (Kd.pair (Kd.int .i64) (Kd.pair (Kd.int .i64) (Kd.pair (Kd.slice 4 Kd.bool) (Kd.pair (Kd.slice 2 (Kd.int .i64)) (Kd.slice 55 k55)))))))) hsz 5 rfl rfl (Opn.Opens.struct Try.underlying42 (by kernel_rfl) (Opn.OpensFs.cons (off2 := 1) (by rfl) (by kernel_rfl) (by kernel_rfl) (Opn.Opens.int Try.underlying3) (Opn.OpensFs.cons (off2 := 2) (by rfl) (by kernel_rfl) (by kernel_rfl) (Opn.Opens.int Try.underlying2) (Opn.OpensFs.cons (off2 := 3) (by rfl) (by kernel_rfl) (by kernel_rfl) (Opn.Opens.int Try.underlying3) (Opn.OpensFs.cons (off2 := 4) (by rfl) (by kernel_rfl) (by kernel_rfl) (Opn.Opens.int Try.underlying2) (Opn.OpensFs.cons (off2 := 5) (by rfl) (by kernel_rfl) (by kernel_rfl) (Opn.Opens.slice (B := 1) Try.underlying22 (by kernel_rfl) (by kernel_rfl) (Opn.Opens.bool Try.underlying4)) (Opn.OpensFs.cons (off2 := 6) (by rfl) (by kernel_rfl) (by kernel_rfl) (Opn.Opens.slice (B := 8) Try.underlying23 (by kernel_rfl) (by kernel_rfl) (Opn.Opens.int Try.underlying2)) (Opn.OpensFs.one (by rfl) (by kernel_rfl) (Opn.Opens.slice (B := 24) Try.underlying34 (by kernel_rfl) (by kernel_rfl) (Opn.Opens.iso (Opn.Opens.struct Try.underlying55 (by kernel_rfl) (Opn.OpensFs.cons (off2 := 1) (by rfl) (by kernel_rfl) (by kernel_rfl) (Opn.Opens.int Try.underlying3) (Opn.OpensFs.cons (off2 := 2) (by rfl) (by kernel_rfl) (by kernel_rfl) (Opn.Opens.int Try.underlying3) (Opn.OpensFs.one (by rfl) (by kernel_rfl) (Opn.Opens.int Try.underlying2))))) (fun x : S55 => (x.f0, x.f1, x.f2)) (fun x => ⟨x.1, x.2.1, x.2.2⟩) (fun _ => rfl))))))))))) h5
  obtain ⟨a5_0, ⟨a5_1, ⟨a5_2, ⟨a5_3, ⟨l5_4, ⟨l5_5, l5_6⟩⟩⟩⟩⟩⟩ := x5
  obtain ⟨g5_0, ⟨g5_1, ⟨g5_2, ⟨g5_3, ⟨g5_4, ⟨g5_5, g5_6⟩⟩⟩⟩⟩⟩ := g5
  have e5 : ((Kd.pair (Kd.int .i64) (Kd.pair (Kd.int .i64) (Kd.pair (Kd.int .i64) (Kd.pair (Kd.int .i64) (Kd.pair (Kd.slice 4 Kd.bool) (Kd.pair (Kd.slice 2 (Kd.int .i64)) (Kd.slice 55 k55)))))))).K W _ cs5 := e5
  obtain ⟨_, _, rfl, rfl, ⟨_, _, rfl, rfl, ⟨_, _, rfl, rfl, ⟨_, _, rfl, rfl, ⟨_, _, rfl, ⟨A5_4, c5_4, rfl, hc5_4, hr5_4⟩, ⟨_, _, rfl, ⟨A5_5, c5_5, rfl, hc5_5, hr5_5⟩, ⟨A5_6, c5_6, rfl, hc5_6, hr5_6⟩⟩⟩⟩⟩⟩⟩ := e5
  clear hA0 hval0 hsz0 hsz
  refine (Print.slipwaylaw06_MapPages.walk Pure.MapPages A0_0 c0_0 l0_0 A0_1 c0_1 l0_1 a0_2 a1 A2 c2 x2 a3 a4_0 a4_1 a4_2 a4_3 A4_4 c4_4 l4_4 A4_5 c4_5 l4_5 A4_6 c4_6 l4_6 a5_0 a5_1 a5_2 a5_3 A5_4 c5_4 l5_4 A5_5 c5_5 l5_5 A5_6 c5_6 l5_6 W hr0_0 hc0_0 hr0_1 hc0_1 hr2 hc2 hr4_4 hc4_4 hr4_5 hc4_5 hr4_6 hc4_6 hr5_4 hc5_4 hr5_5 hc5_5 hr5_6 hc5_6 g0_0 g0_1 g0_2 w1 g2 w3 g4_0 g4_1 g4_2 g4_3 g4_4 g4_5 g4_6 g5_0 g5_1 g5_2 g5_3 g5_4 g5_5 g5_6).mono fun e W' ⟨he, bel⟩ => ?_
  subst he
  exact ⟨_, rfl, _, _, _, [], _, [], hW', trodAll_mk1 (shut_bool Try.underlying4 _), (trodAll_cons_mk (Below.trod laidOut (by kernel_rfl) (of_decide_eq_true (by kernel_rfl)) k0 bel lt0) (trodAll_cons_mk (shut_int Try.underlying2 w1) (trodAll_cons_mk (Below.trod laidOut (by kernel_rfl) (of_decide_eq_true (by kernel_rfl)) k2 bel lt2) (trodAll_cons_mk (shut_int Try.underlying3 w3) (trodAll_cons_mk (Below.trod laidOut (by kernel_rfl) (of_decide_eq_true (by kernel_rfl)) k4 bel lt4) (trodAll_cons_mk (Below.trod laidOut (by kernel_rfl) (of_decide_eq_true (by kernel_rfl)) k5 bel lt5) trodAll_mk0)))))), rfl, bel.frame _, fun h => by cases h⟩
theorem over : Rows.mapPagesRow.holds Try.pinned (OpenSpec.ofChange Rows.mapPagesSpec) :=
  OpenClaim.holds_of_wide 5 Try.f5 rfl rfl rfl rfl rfl rfl rfl ⟨rfl, rfl, rfl, rfl, rfl⟩ rfl rfl rfl rfl rfl (by kernel_rfl) Try.func5 (by kernel_rfl)
    (of_decide_eq_true (by kernel_rfl)) (by unfold Func.isWrapper; first | (rw [if_pos (by decide +kernel)]; kernel_rfl) | (rw [if_neg (by decide +kernel)]; exact ⟨rfl, rfl⟩))
    (fun os started H enc _ => lifted os started H enc)
theorem proved : Rows.MapPagesSaid := over
#print axioms proved
end Go.Proofs.Ytkhbmgclklmimaa.mapPages
namespace Go.Proofs.Ytkhbmgclklmimaa
/-- The row, under a short name, for the claim. -/
theorem mapPages_holds : Rows.MapPagesSaid := mapPages.proved
end Go.Proofs.Ytkhbmgclklmimaa
