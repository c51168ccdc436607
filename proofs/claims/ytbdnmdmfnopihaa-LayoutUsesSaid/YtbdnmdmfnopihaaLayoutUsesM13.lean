/- Texts of the proof of LayoutUses, part 13. -/
import Derived.Test.YtbdnmdmfnopihaaLayoutUsesMA
import Derived.Test.YtbdnmdmfnopihaaProg
import Derived.Below
import Derived.Deep.Draws
import Derived.Deep.AppendLies
import Derived.Maps.AppendAt
import Derived.OwnWalk
import Derived.Laws.BytesArg
import Derived.Laws.MakeOwn
import Derived.Laws.OwnMore
import Derived.Deep.OwnRows
import Derived.Tactics
import Derived.Lib.ConvBytes
import Derived.Laws.Slices
import Derived.WalkKit
import Derived.KernelRfl
import Derived.RowKit3
import Derived.Deep.LoopGhost
import Derived.Deep.QuietTactic
import Derived.BigQuiet
import Derived.WideLaws
import Derived.Deep.DeepCutAuto
import Derived.Deep.CutBlock
import Derived.Deep.RegionHeld3
import Derived.Laws.Rows
import Derived.Lib.AppendStr
import Derived.ArgAppend
import Derived.Laws.IdiomCopy
import Derived.OrdersHeld
import Derived.Laws.BitsLemmas
import Derived.RowKit
import Derived.Lib.SliceRun
import Derived.Test.YtbdnmdmfnopihaaLayoutUsesM1
import Derived.Test.YtbdnmdmfnopihaaLayoutUsesM0
import Derived.Test.YtbdnmdmfnopihaaLayoutUsesM2
import Derived.Test.YtbdnmdmfnopihaaLayoutUsesM3
import Derived.Test.YtbdnmdmfnopihaaLayoutUsesM4
import Derived.Test.YtbdnmdmfnopihaaLayoutUsesM5
import Derived.Test.YtbdnmdmfnopihaaLayoutUsesM6
import Derived.Test.YtbdnmdmfnopihaaLayoutUsesM7
import Derived.Test.YtbdnmdmfnopihaaLayoutUsesM8
import Derived.Test.YtbdnmdmfnopihaaLayoutUsesM9
import Derived.Test.YtbdnmdmfnopihaaLayoutUsesM10
import Derived.Test.YtbdnmdmfnopihaaLayoutUsesM11
import Derived.Test.YtbdnmdmfnopihaaLayoutUsesM12
import Derived.RangeFuncNested
import Derived.RangeFuncBox
import Derived.RangeFuncLeaves
import Derived.Shelf.Abstract
import Derived.OwnWalkIn
import Derived.TacticsInMore
import Derived.LoopNIn
import Derived.LoopIn
import Derived.Stop.RegionWithIn
section
namespace Go.Proofs.Ytbdnmdmfnopihaa.Print
open Go.RowKit Go.Proofs.YtbdnmdmfnopihaaW.PrintWords Go.Proofs.YtbdnmdmfnopihaaW.PrintLast Go.Proofs.YtbdnmdmfnopihaaW.PrintMore
attribute [local go_sem] max2_int min2_int max_two min_two max_three min_three max_four min_four   -- for this text's walks alone
attribute [local go_sem ↓] Go.Proofs.Ytbdnmdmfnopihaa.Sem.isSome_setCell
attribute [local go_sem] Go.Instr.field Go.asAgg
set_option linter.unusedVariables false
set_option linter.unusedSimpArgs false
def errW:Option Int → Value
 | none=>.nilIface
 | some c=>.iface 0 (.int .i64 c)
theorem errW_none:errW none=.nilIface:=rfl
theorem errW_some (c:Int):errW (some c)=.iface 0 (.int .i64 c):=rfl
-- the values' own types
end Go.Proofs.Ytbdnmdmfnopihaa.Print
end
section
namespace Go.Proofs.Ytbdnmdmfnopihaa.Print
open Go.RowKit Go.Proofs.YtbdnmdmfnopihaaW.PrintWords Go.Proofs.YtbdnmdmfnopihaaW.PrintLast Go.Proofs.YtbdnmdmfnopihaaW.PrintMore
attribute [local go_sem] max2_int min2_int max_two min_two max_three min_three max_four min_four   -- for this text's walks alone
attribute [local go_sem ↓] Go.Proofs.Ytbdnmdmfnopihaa.Sem.isSome_setCell
attribute [local go_sem] Go.Instr.field Go.asAgg
set_option linter.unusedVariables false
set_option linter.unusedSimpArgs false
def layout_ceil.f (a0:Int) (a1:Int):Option (Int):=if a1=0 then (none) else (some (wrap64 (Int.tdiv (wrap64 ((wrap64 (a0 + a1)) - 1)) a1)))
set_option maxHeartbeats 8000000 in
set_option maxRecDepth 100000 in
theorem layout_ceil.calls (a0:Int) (a1:Int) (r:Int) (w:World) (h:layout_ceil.f a0 a1=some r) :
  Calls Try.prog 45 #[.int .i64 a0,.int .i64 a1] w fun e w'=>e=.returned (.int .i64 r)∧Drawn0 w w':=by
 have H:(if a1=0 then (none) else (some (wrap64 (Int.tdiv (wrap64 ((wrap64 (a0 + a1)) - 1)) a1))))=some r:=h
 clear h
 by_cases c3:a1=0
 ·rw [if_pos c3] at H
  exact absurd H (by simp)
 ·rw [if_neg c3] at H
  have c3b0:(a1 == 0)=false:=beq_eq_false_iff_ne.mpr c3
  have c3b1:(a1 != 0)=true:=bne_iff_ne.mpr c3
  obtain rfl:=Option.some.inj H
  go_enter Try.func45,Try.ntmps45
  go_wp2
  go_ret
  exact ⟨by first|rfl|(simp;done)|(simp [*];done),by repeat (first|exact Drawn0.refl _|apply Drawn0.step)⟩
def layout_Check.j0:Nat → Bool → Int → Int → Option (Int)
 | 0,_,_,_=>none
 | k + 1,x23,x102000,x102001=>if x23=true then (some 110) else ((layout_ceil.f x102000 128).bind fun t102=>(if (wrap64 (x102000 - (wrap64 ((wrap64 (t102 - 1)) * 128)))) < 16 then (some 110) else ((layout_ceil.f (wrap64 (t102 * 16)) 256).bind fun t103=>(if (wrap64 ((wrap64 ((wrap64 ((wrap64 (1 + t103)) + 2)) + 4)) + x102001)) ≥ (mn x102000 128) then (some 110) else (some 0)))))
def layout_Check.f (k:Nat) (a0_0:Int) (a0_1:Int):Option (Int):=if a0_0 < 1 then (layout_Check.j0 k true a0_0 a0_1) else (if a0_0 > 8192 then (layout_Check.j0 k true a0_0 a0_1) else (if a0_1 < 16 then (layout_Check.j0 k true a0_0 a0_1) else (layout_Check.j0 k (decide (a0_1 > 64)) a0_0 a0_1)))
theorem layout_Check.mono_l:∀ k,(∀ y0 y1 y2,LeO (layout_Check.j0 k y0 y1 y2) (layout_Check.j0 (k + 1) y0 y1 y2))
 | 0=>fun _ _ _ r h=>by simp [layout_Check.j0] at h
 | k + 1=>by
  have ih0:=layout_Check.mono_l k
  ·intro y0 y1 y2
   unfold layout_Check.j0
   repeat' first
   | (with_reducible exact ih0 _ _ _)
   | (with_reducible exact LeO.refl _)
   | (with_reducible exact LeO.none _)
   | (with_reducible refine LeO.ite ?_ ?_)
   | (with_reducible refine LeO.bind ?_ (fun _=>?_))
   | exact ih0 _ _ _
   | exact LeO.none _
   | refine LeO.ite ?_ ?_
   | refine LeO.bind ?_ (fun _=>?_)
theorem layout_Check.mono:∀ a0 a1 k,LeO (layout_Check.f k a0 a1) (layout_Check.f (k + 1) a0 a1):=by
 intro a0 a1 k
 have ih0:=layout_Check.mono_l k
 unfold layout_Check.f
 repeat' first
   | (with_reducible exact ih0 _ _ _)
   | (with_reducible exact LeO.refl _)
   | (with_reducible exact LeO.none _)
   | (with_reducible refine LeO.ite ?_ ?_)
   | (with_reducible refine LeO.bind ?_ (fun _=>?_))
   | exact ih0 _ _ _
   | exact LeO.none _
   | refine LeO.ite ?_ ?_
   | refine LeO.bind ?_ (fun _=>?_)
set_option maxHeartbeats 8000000 in
set_option maxRecDepth 100000 in
theorem layout_Check.calls (k:Nat) (a0_0:Int) (a0_1:Int) (r:Int) (w:World) (h:layout_Check.f k a0_0 a0_1=some r) :
  Calls Try.prog 15 #[.agg #[.int .i64 a0_0,.int .i64 a0_1]] w fun e w'=>e=.returned (.int .i64 r)∧Below w.heap.size w w':=by
 have hu24:=Try.underlying24
 have HB:=zm (Below.refl w.heap.size w)
 have H:(if a0_0 < 1 then (layout_Check.j0 k true a0_0 a0_1) else (if a0_0 > 8192 then (layout_Check.j0 k true a0_0 a0_1) else (if a0_1 < 16 then (layout_Check.j0 k true a0_0 a0_1) else (layout_Check.j0 k (decide (a0_1 > 64)) a0_0 a0_1))))=some r:=h
 clear h
 have HC2:=zm H
 clear H
 go_enter Try.func15,Try.ntmps15
 go_upto_region 1 with (first|((with_reducible refine gate_dst (N:=1) rfl ?_);refine box_event ?hg (N:=1) ?hd (cs:=#[.int .i64 a0_0,.int .i64 a0_1]) (t:=24) ?hr ?_;(case hd=>rfl);(case hg=>rfl);(case hr=>first|(go_simp;done)|(go_simp;rfl));intro gb101 hg w3 hbox hb;have n0_:=zm (below_step (by repeat (first|(with_reducible first|exact HB.out|apply zlA|apply zlN|apply zlD)|exact HB.out)) hb);have n1_:=zm (hbox);have n2_:=zm ((by rw [hg];exact (below_size (by repeat (first|(with_reducible first|exact HB.out|apply zlA|apply zlN|apply zlD)|exact HB.out))):w.heap.size≤gb101));have n3_:=zm ((by rw [hg];exact (below_size (by repeat (first|(with_reducible first|exact HB.out|apply zlA|apply zlN|apply zlD)|exact HB.out))):w.heap.size≤gb101));clear HB;have HB:=n0_;have BK101:=n1_;have GW101:=n2_;have GE101:=n3_;clear n0_ n1_ n2_ n3_;clear hb hbox hg))
 repeat (go_quiet (first|((with_reducible refine gate_dst (N:=1) rfl ?_);refine box_event ?hg (N:=1) ?hd (cs:=#[.int .i64 a0_0,.int .i64 a0_1]) (t:=24) ?hr ?_;(case hd=>rfl);(case hg=>rfl);(case hr=>first|(go_simp;done)|(go_simp;rfl));intro gb101 hg w3 hbox hb;have n0_:=zm (below_step (by repeat (first|(with_reducible first|exact HB.out|apply zlA|apply zlN|apply zlD)|exact HB.out)) hb);have n1_:=zm (hbox);have n2_:=zm ((by rw [hg];exact (below_size (by repeat (first|(with_reducible first|exact HB.out|apply zlA|apply zlN|apply zlD)|exact HB.out))):w.heap.size≤gb101));have n3_:=zm ((by rw [hg];exact (below_size (by repeat (first|(with_reducible first|exact HB.out|apply zlA|apply zlN|apply zlD)|exact HB.out))):w.heap.size≤gb101));clear HB;have HB:=n0_;have BK101:=n1_;have GW101:=n2_;have GE101:=n3_;clear n0_ n1_ n2_ n3_;clear hb hbox hg));go_upto_region 1 with (first|((with_reducible refine gate_dst (N:=1) rfl ?_);refine box_event ?hg (N:=1) ?hd (cs:=#[.int .i64 a0_0,.int .i64 a0_1]) (t:=24) ?hr ?_;(case hd=>rfl);(case hg=>rfl);(case hr=>first|(go_simp;done)|(go_simp;rfl));intro gb101 hg w3 hbox hb;have n0_:=zm (below_step (by repeat (first|(with_reducible first|exact HB.out|apply zlA|apply zlN|apply zlD)|exact HB.out)) hb);have n1_:=zm (hbox);have n2_:=zm ((by rw [hg];exact (below_size (by repeat (first|(with_reducible first|exact HB.out|apply zlA|apply zlN|apply zlD)|exact HB.out))):w.heap.size≤gb101));have n3_:=zm ((by rw [hg];exact (below_size (by repeat (first|(with_reducible first|exact HB.out|apply zlA|apply zlN|apply zlD)|exact HB.out))):w.heap.size≤gb101));clear HB;have HB:=n0_;have BK101:=n1_;have GW101:=n2_;have GE101:=n3_;clear n0_ n1_ n2_ n3_;clear hb hbox hg)))
 (try simp only [Act.put,List.setIfInBounds_toArray,List.set_cons_zero,List.set_cons_succ])
 go_cut [23] (fun v23 wc=>∃ (kq:Nat) (x23_1:Bool),v23=.bool x23_1∧Aside0 (layout_Check.j0 kq x23_1 a0_0 a0_1=some r)∧Aside0 (kq≤k)∧Aside0 (wc.heap[gb101]?=some (.cells #[.int .i64 a0_0,.int .i64 a0_1] 24 (0,0)))∧Aside0 (Below w.heap.size w wc))
 case first =>
  have H:=HC2.out
  clear HC2
  by_cases c4:a0_0 < 1
  ·rw [if_pos c4] at H
   have c4b0:decide (a0_0 < 1)=true:=decide_eq_true c4
   clear c4
   (first|rw [c4b0]|(simp only [i64_w,i32_w];rw [c4b0])|skip)
   have H':=zm H
   clear H
   have hcz5_0:w3.cell? ⟨gb101,0,none⟩=some (.int .i64 a0_0):=(blk_cell BK101.out 0).trans rfl
   have hcz5_1:w3.cell? ⟨gb101,1,none⟩=some (.int .i64 a0_1):=(blk_cell BK101.out 1).trans rfl
   have hfz5_0:=blk_frozen BK101.out 0
   have hfz5_1:=blk_frozen BK101.out 1
   go_wp2
   repeat (go_quiet (fail);try go_wp2)
   go_meet
   case rel=>exact ⟨_,(true),(by first|rfl|(simp;done)|(simp [*];done)),H',⟨by first|omega|exact Nat.le_refl _⟩,⟨by (with_reducible repeat (first|refine zbN ?_ _|refine zbD ?_|refine zbA ?_ _));exact BK101.out⟩,⟨by repeat (first|(with_reducible first|exact HB.out|apply zlA|apply zlN|apply zlD|refine zlS ?_ GE101.out)|exact HB.out)⟩⟩
  ·rw [if_neg c4] at H
   have c4b0:decide (a0_0 < 1)=false:=decide_eq_false c4
   clear c4
   (first|rw [c4b0]|(simp only [i64_w,i32_w];rw [c4b0])|skip)
   by_cases c6:a0_0 > 8192
   ·rw [if_pos c6] at H
    have c6b0:decide (8192 < a0_0)=true:=decide_eq_true c6
    clear c6
    have H':=zm H
    clear H
    have hcz7_0:w3.cell? ⟨gb101,0,none⟩=some (.int .i64 a0_0):=(blk_cell BK101.out 0).trans rfl
    have hcz7_1:w3.cell? ⟨gb101,1,none⟩=some (.int .i64 a0_1):=(blk_cell BK101.out 1).trans rfl
    have hfz7_0:=blk_frozen BK101.out 0
    have hfz7_1:=blk_frozen BK101.out 1
    go_wp2
    repeat (go_quiet (fail);try go_wp2)
    go_meet
    case rel=>exact ⟨_,(true),(by first|rfl|(simp;done)|(simp [*];done)),H',⟨by first|omega|exact Nat.le_refl _⟩,⟨by (with_reducible repeat (first|refine zbN ?_ _|refine zbD ?_|refine zbA ?_ _));exact BK101.out⟩,⟨by repeat (first|(with_reducible first|exact HB.out|apply zlA|apply zlN|apply zlD|refine zlS ?_ GE101.out)|exact HB.out)⟩⟩
   ·rw [if_neg c6] at H
    have c6b0:decide (8192 < a0_0)=false:=decide_eq_false c6
    clear c6
    by_cases c8:a0_1 < 16
    ·rw [if_pos c8] at H
     have c8b0:decide (a0_1 < 16)=true:=decide_eq_true c8
     clear c8
     have H':=zm H
     clear H
     have hcz9_0:w3.cell? ⟨gb101,0,none⟩=some (.int .i64 a0_0):=(blk_cell BK101.out 0).trans rfl
     have hcz9_1:w3.cell? ⟨gb101,1,none⟩=some (.int .i64 a0_1):=(blk_cell BK101.out 1).trans rfl
     have hfz9_0:=blk_frozen BK101.out 0
     have hfz9_1:=blk_frozen BK101.out 1
     go_wp2
     repeat (go_quiet (fail);try go_wp2)
     go_meet
     case rel=>exact ⟨_,(true),(by first|rfl|(simp;done)|(simp [*];done)),H',⟨by first|omega|exact Nat.le_refl _⟩,⟨by (with_reducible repeat (first|refine zbN ?_ _|refine zbD ?_|refine zbA ?_ _));exact BK101.out⟩,⟨by repeat (first|(with_reducible first|exact HB.out|apply zlA|apply zlN|apply zlD|refine zlS ?_ GE101.out)|exact HB.out)⟩⟩
    ·rw [if_neg c8] at H
     have c8b0:decide (a0_1 < 16)=false:=decide_eq_false c8
     clear c8
     have H':=zm H
     clear H
     have hcz10_0:w3.cell? ⟨gb101,0,none⟩=some (.int .i64 a0_0):=(blk_cell BK101.out 0).trans rfl
     have hcz10_1:w3.cell? ⟨gb101,1,none⟩=some (.int .i64 a0_1):=(blk_cell BK101.out 1).trans rfl
     have hfz10_0:=blk_frozen BK101.out 0
     have hfz10_1:=blk_frozen BK101.out 1
     go_wp2
     repeat (go_quiet (fail);try go_wp2)
     go_meet
     case rel=>exact ⟨_,(decide (a0_1 > 64)),(by first|rfl|(simp;done)|(simp [*];done)),H',⟨by first|omega|exact Nat.le_refl _⟩,⟨by (with_reducible repeat (first|refine zbN ?_ _|refine zbD ?_|refine zbA ?_ _));exact BK101.out⟩,⟨by repeat (first|(with_reducible first|exact HB.out|apply zlA|apply zlN|apply zlD|refine zlS ?_ GE101.out)|exact HB.out)⟩⟩
 case rest =>
  clear HC2
  try clear c1
  try clear p2
  try clear c4
  try clear c4b0
  try clear c6
  try clear c6b0
  try clear c8
  try clear c8b0
  try clear hcz10_0
  try clear hcz10_1
  try clear hcz5_0
  try clear hcz5_1
  try clear hcz7_0
  try clear hcz7_1
  try clear hcz9_0
  try clear hcz9_1
  try clear hfz10_0
  try clear hfz10_1
  try clear hfz5_0
  try clear hfz5_1
  try clear hfz7_0
  try clear hfz7_1
  try clear hfz9_0
  try clear hfz9_1
  obtain ⟨kq,x23_1,rfl,HA,HJ1,BK101,HB⟩:=hcut
  cases kq with
  | zero=>exact absurd HA.out (by simp [layout_Check.j0])
  | succ kj1 =>
   have H:=HA.out
   clear HA
   simp only [layout_Check.j0] at H
   by_cases c11:x23_1=true
   ·subst c11
    have H1:(some 110)=some r:=by rw [if_pos rfl] at H;exact H
    clear H
    have H:=H1
    clear H1
    obtain rfl:=Option.some.inj H
    go_wp2
    repeat (go_quiet (fail);try go_wp2)
    go_ret
    exact ⟨by first|rfl|(simp [errW_none,errW_some] <;> rfl)|(simp [*,errW_none,errW_some] <;> rfl),by repeat (first|(with_reducible first|exact HB.out|apply zlA|apply zlN|apply zlD|refine zlS ?_ GE101.out)|exact HB.out)⟩
   ·replace c11:=Bool.eq_false_iff.mpr c11
    subst c11
    have H1:((layout_ceil.f a0_0 128).bind fun t102=>(if (wrap64 (a0_0 - (wrap64 ((wrap64 (t102 - 1)) * 128)))) < 16 then (some 110) else ((layout_ceil.f (wrap64 (t102 * 16)) 256).bind fun t103=>(if (wrap64 ((wrap64 ((wrap64 ((wrap64 (1 + t103)) + 2)) + 4)) + a0_1)) ≥ (mn a0_0 128) then (some 110) else (some 0)))))=some r:=by rw [if_neg (show ¬ (false=true) by decide)] at H;exact H
    clear H
    have H:=H1
    clear H1
    replace H:=Option.bind_eq_some_iff.mp H
    obtain ⟨t102,A120,H⟩:=H
    replace H:(if (wrap64 (a0_0 - (wrap64 ((wrap64 (t102 - 1)) * 128)))) < 16 then (some 110) else ((layout_ceil.f (wrap64 (t102 * 16)) 256).bind fun t103=>(if (wrap64 ((wrap64 ((wrap64 ((wrap64 (1 + t103)) + 2)) + 4)) + a0_1)) ≥ (mn a0_0 128) then (some 110) else (some 0))))=some r:=H
    have A12:=zm A120
    clear A120
    by_cases c13:(wrap64 (a0_0 - (wrap64 ((wrap64 (t102 - 1)) * 128)))) < 16
    ·rw [if_pos c13] at H
     have c13b0:decide ((wrap64 (a0_0 - (wrap64 ((wrap64 (t102 - 1)) * 128)))) < 16)=true:=decide_eq_true c13
     clear c13
     obtain rfl:=Option.some.inj H
     have hcz14_0:wc.cell? ⟨gb101,0,none⟩=some (.int .i64 a0_0):=(blk_cell BK101.out 0).trans rfl
     have hcz14_1:wc.cell? ⟨gb101,1,none⟩=some (.int .i64 a0_1):=(blk_cell BK101.out 1).trans rfl
     have hfz14_0:=blk_frozen BK101.out 0
     have hfz14_1:=blk_frozen BK101.out 1
     go_wp2_with (first|(go_at_call 45;(with_reducible refine (layout_ceil.calls a0_0 128 t102 _ A12.out).mono ?_);rintro e w' ⟨rfl,⟨nd,rfl⟩⟩;(try first|exact ⟨rfl,_,World.drewN_drewN _ _ _⟩|exact ⟨rfl,_,Eq.trans (World.drewN_drewN _ _ _) (congrArg (World.drewN _) (Nat.add_assoc _ _ _))⟩)))
     repeat (go_quiet (first|(go_at_call 45;(with_reducible refine (layout_ceil.calls a0_0 128 t102 _ A12.out).mono ?_);rintro e w' ⟨rfl,⟨nd,rfl⟩⟩;(try first|exact ⟨rfl,_,World.drewN_drewN _ _ _⟩|exact ⟨rfl,_,Eq.trans (World.drewN_drewN _ _ _) (congrArg (World.drewN _) (Nat.add_assoc _ _ _))⟩)));try go_wp2_with (first|(go_at_call 45;(with_reducible refine (layout_ceil.calls a0_0 128 t102 _ A12.out).mono ?_);rintro e w' ⟨rfl,⟨nd,rfl⟩⟩;(try first|exact ⟨rfl,_,World.drewN_drewN _ _ _⟩|exact ⟨rfl,_,Eq.trans (World.drewN_drewN _ _ _) (congrArg (World.drewN _) (Nat.add_assoc _ _ _))⟩))))
     go_ret
     exact ⟨by first|rfl|(simp [errW_none,errW_some] <;> rfl)|(simp [*,errW_none,errW_some] <;> rfl),by repeat (first|(with_reducible first|exact HB.out|apply zlA|apply zlN|apply zlD|refine zlS ?_ GE101.out)|exact HB.out)⟩
    ·rw [if_neg c13] at H
     have c13b0:decide ((wrap64 (a0_0 - (wrap64 ((wrap64 (t102 - 1)) * 128)))) < 16)=false:=decide_eq_false c13
     clear c13
     replace H:=Option.bind_eq_some_iff.mp H
     obtain ⟨t103,A150,H⟩:=H
     replace H:(if (wrap64 ((wrap64 ((wrap64 ((wrap64 (1 + t103)) + 2)) + 4)) + a0_1)) ≥ (mn a0_0 128) then (some 110) else (some 0))=some r:=H
     have A15:=zm A150
     clear A150
     obtain ⟨ji16,hji16⟩:∃ j_:Int,(mn a0_0 128)=j_:=⟨_,rfl⟩
     replace H:(if (wrap64 ((wrap64 ((wrap64 ((wrap64 (1 + t103)) + 2)) + 4)) + a0_1)) ≥ (ji16) then (some 110) else (some 0))=some r:=by first|(rw [hji16] at H;exact H)|(simp only [hji16] at H ⊢;exact H)
     (try rw [hji16] at A12)
     (try rw [hji16] at A15)
     have hji16_:(if 128 < a0_0 then 128 else a0_0)=ji16:=hji16
     by_cases c17:(wrap64 ((wrap64 ((wrap64 ((wrap64 (1 + t103)) + 2)) + 4)) + a0_1)) ≥ (ji16)
     ·rw [if_pos c17] at H
      have c17b0:decide ((ji16)≤(wrap64 ((wrap64 ((wrap64 ((wrap64 (1 + t103)) + 2)) + 4)) + a0_1)))=true:=decide_eq_true c17
      clear c17
      obtain rfl:=Option.some.inj H
      have hcz18_0:wc.cell? ⟨gb101,0,none⟩=some (.int .i64 a0_0):=(blk_cell BK101.out 0).trans rfl
      have hcz18_1:wc.cell? ⟨gb101,1,none⟩=some (.int .i64 a0_1):=(blk_cell BK101.out 1).trans rfl
      have hfz18_0:=blk_frozen BK101.out 0
      have hfz18_1:=blk_frozen BK101.out 1
      go_wp2_with (first|(go_at_call 45;(with_reducible refine (layout_ceil.calls a0_0 128 t102 _ A12.out).mono ?_);rintro e w' ⟨rfl,⟨nd,rfl⟩⟩;(try first|exact ⟨rfl,_,World.drewN_drewN _ _ _⟩|exact ⟨rfl,_,Eq.trans (World.drewN_drewN _ _ _) (congrArg (World.drewN _) (Nat.add_assoc _ _ _))⟩))|(go_at_call 45;(with_reducible refine (layout_ceil.calls (wrap64 (t102 * 16)) 256 t103 _ A15.out).mono ?_);rintro e w' ⟨rfl,⟨nd,rfl⟩⟩;(try first|exact ⟨rfl,_,World.drewN_drewN _ _ _⟩|exact ⟨rfl,_,Eq.trans (World.drewN_drewN _ _ _) (congrArg (World.drewN _) (Nat.add_assoc _ _ _))⟩)))
      repeat (go_quiet (first|(go_at_call 45;(with_reducible refine (layout_ceil.calls a0_0 128 t102 _ A12.out).mono ?_);rintro e w' ⟨rfl,⟨nd,rfl⟩⟩;(try first|exact ⟨rfl,_,World.drewN_drewN _ _ _⟩|exact ⟨rfl,_,Eq.trans (World.drewN_drewN _ _ _) (congrArg (World.drewN _) (Nat.add_assoc _ _ _))⟩))|(go_at_call 45;(with_reducible refine (layout_ceil.calls (wrap64 (t102 * 16)) 256 t103 _ A15.out).mono ?_);rintro e w' ⟨rfl,⟨nd,rfl⟩⟩;(try first|exact ⟨rfl,_,World.drewN_drewN _ _ _⟩|exact ⟨rfl,_,Eq.trans (World.drewN_drewN _ _ _) (congrArg (World.drewN _) (Nat.add_assoc _ _ _))⟩)));try go_wp2_with (first|(go_at_call 45;(with_reducible refine (layout_ceil.calls a0_0 128 t102 _ A12.out).mono ?_);rintro e w' ⟨rfl,⟨nd,rfl⟩⟩;(try first|exact ⟨rfl,_,World.drewN_drewN _ _ _⟩|exact ⟨rfl,_,Eq.trans (World.drewN_drewN _ _ _) (congrArg (World.drewN _) (Nat.add_assoc _ _ _))⟩))|(go_at_call 45;(with_reducible refine (layout_ceil.calls (wrap64 (t102 * 16)) 256 t103 _ A15.out).mono ?_);rintro e w' ⟨rfl,⟨nd,rfl⟩⟩;(try first|exact ⟨rfl,_,World.drewN_drewN _ _ _⟩|exact ⟨rfl,_,Eq.trans (World.drewN_drewN _ _ _) (congrArg (World.drewN _) (Nat.add_assoc _ _ _))⟩))))
      go_ret
      exact ⟨by first|rfl|(simp [errW_none,errW_some] <;> rfl)|(simp only [← hji16];first|rfl|(simp [errW_none,errW_some] <;> rfl))|(simp [*,errW_none,errW_some] <;> rfl),by repeat (first|(with_reducible first|exact HB.out|apply zlA|apply zlN|apply zlD|refine zlS ?_ GE101.out)|exact HB.out)⟩
     ·rw [if_neg c17] at H
      have c17b0:decide ((ji16)≤(wrap64 ((wrap64 ((wrap64 ((wrap64 (1 + t103)) + 2)) + 4)) + a0_1)))=false:=decide_eq_false c17
      clear c17
      obtain rfl:=Option.some.inj H
      have hcz19_0:wc.cell? ⟨gb101,0,none⟩=some (.int .i64 a0_0):=(blk_cell BK101.out 0).trans rfl
      have hcz19_1:wc.cell? ⟨gb101,1,none⟩=some (.int .i64 a0_1):=(blk_cell BK101.out 1).trans rfl
      have hfz19_0:=blk_frozen BK101.out 0
      have hfz19_1:=blk_frozen BK101.out 1
      go_wp2_with (first|(go_at_call 45;(with_reducible refine (layout_ceil.calls a0_0 128 t102 _ A12.out).mono ?_);rintro e w' ⟨rfl,⟨nd,rfl⟩⟩;(try first|exact ⟨rfl,_,World.drewN_drewN _ _ _⟩|exact ⟨rfl,_,Eq.trans (World.drewN_drewN _ _ _) (congrArg (World.drewN _) (Nat.add_assoc _ _ _))⟩))|(go_at_call 45;(with_reducible refine (layout_ceil.calls (wrap64 (t102 * 16)) 256 t103 _ A15.out).mono ?_);rintro e w' ⟨rfl,⟨nd,rfl⟩⟩;(try first|exact ⟨rfl,_,World.drewN_drewN _ _ _⟩|exact ⟨rfl,_,Eq.trans (World.drewN_drewN _ _ _) (congrArg (World.drewN _) (Nat.add_assoc _ _ _))⟩)))
      repeat (go_quiet (first|(go_at_call 45;(with_reducible refine (layout_ceil.calls a0_0 128 t102 _ A12.out).mono ?_);rintro e w' ⟨rfl,⟨nd,rfl⟩⟩;(try first|exact ⟨rfl,_,World.drewN_drewN _ _ _⟩|exact ⟨rfl,_,Eq.trans (World.drewN_drewN _ _ _) (congrArg (World.drewN _) (Nat.add_assoc _ _ _))⟩))|(go_at_call 45;(with_reducible refine (layout_ceil.calls (wrap64 (t102 * 16)) 256 t103 _ A15.out).mono ?_);rintro e w' ⟨rfl,⟨nd,rfl⟩⟩;(try first|exact ⟨rfl,_,World.drewN_drewN _ _ _⟩|exact ⟨rfl,_,Eq.trans (World.drewN_drewN _ _ _) (congrArg (World.drewN _) (Nat.add_assoc _ _ _))⟩)));try go_wp2_with (first|(go_at_call 45;(with_reducible refine (layout_ceil.calls a0_0 128 t102 _ A12.out).mono ?_);rintro e w' ⟨rfl,⟨nd,rfl⟩⟩;(try first|exact ⟨rfl,_,World.drewN_drewN _ _ _⟩|exact ⟨rfl,_,Eq.trans (World.drewN_drewN _ _ _) (congrArg (World.drewN _) (Nat.add_assoc _ _ _))⟩))|(go_at_call 45;(with_reducible refine (layout_ceil.calls (wrap64 (t102 * 16)) 256 t103 _ A15.out).mono ?_);rintro e w' ⟨rfl,⟨nd,rfl⟩⟩;(try first|exact ⟨rfl,_,World.drewN_drewN _ _ _⟩|exact ⟨rfl,_,Eq.trans (World.drewN_drewN _ _ _) (congrArg (World.drewN _) (Nat.add_assoc _ _ _))⟩))))
      go_ret
      exact ⟨by first|rfl|(simp [errW_none,errW_some] <;> rfl)|(simp only [← hji16];first|rfl|(simp [errW_none,errW_some] <;> rfl))|(simp [*,errW_none,errW_some] <;> rfl),by repeat (first|(with_reducible first|exact HB.out|apply zlA|apply zlN|apply zlD|refine zlS ?_ GE101.out)|exact HB.out)⟩
end Go.Proofs.Ytbdnmdmfnopihaa.Print
end
section
namespace Go.Proofs.Ytbdnmdmfnopihaa.Print
open Go.RowKit Go.Proofs.YtbdnmdmfnopihaaW.PrintWords Go.Proofs.YtbdnmdmfnopihaaW.PrintLast Go.Proofs.YtbdnmdmfnopihaaW.PrintMore
attribute [local go_sem] max2_int min2_int max_two min_two max_three min_three max_four min_four   -- for this text's walks alone
attribute [local go_sem ↓] Go.Proofs.Ytbdnmdmfnopihaa.Sem.isSome_setCell
attribute [local go_sem] Go.Instr.field Go.asAgg
set_option linter.unusedVariables false
set_option linter.unusedSimpArgs false
def layout_Plan.j0:Nat → Int → Int → Bool → Option (Int × Int × Int)
 | 0,_,_,_=>none
 | k + 1,x0,x1,x22=>if x22=true then (some (0,0,1)) else (if (Int.tmod x0 128) < 16 then ((layout_Check.f k (wrap64 (x0 - (Int.tmod x0 128))) x1).bind fun t106=>(if t106=0 then (some (wrap64 (x0 - (Int.tmod x0 128)),x1,0)) else (some (0,0,t106)))) else ((layout_Check.f k x0 x1).bind fun t107=>(if t107=0 then (some (x0,x1,0)) else (some (0,0,t107)))))
def layout_Plan.f (k:Nat) (a0:Int) (a1:Int):Option (Int × Int × Int):=if a0 < 1 then (layout_Plan.j0 k a0 a1 true) else (if a0 > 8192 then (layout_Plan.j0 k a0 a1 true) else (if a1 < 16 then (layout_Plan.j0 k a0 a1 true) else (layout_Plan.j0 k a0 a1 (decide (a1 > 64)))))
theorem layout_Plan.mono_l:∀ k,(∀ y0 y1 y2,LeO (layout_Plan.j0 k y0 y1 y2) (layout_Plan.j0 (k + 1) y0 y1 y2))
 | 0=>fun _ _ _ r h=>by simp [layout_Plan.j0] at h
 | k + 1=>by
  have ih0:=layout_Plan.mono_l k
  ·intro y0 y1 y2
   unfold layout_Plan.j0
   repeat' first
   | (with_reducible exact ih0 _ _ _)
   | (with_reducible exact layout_Check.mono _ _ _)
   | (with_reducible exact LeO.refl _)
   | (with_reducible exact LeO.none _)
   | (with_reducible refine LeO.ite ?_ ?_)
   | (with_reducible refine LeO.bind ?_ (fun _=>?_))
   | exact ih0 _ _ _
   | exact layout_Check.mono _ _ _
   | exact LeO.none _
   | refine LeO.ite ?_ ?_
   | refine LeO.bind ?_ (fun _=>?_)
theorem layout_Plan.mono:∀ a0 a1 k,LeO (layout_Plan.f k a0 a1) (layout_Plan.f (k + 1) a0 a1):=by
 intro a0 a1 k
 have ih0:=layout_Plan.mono_l k
 unfold layout_Plan.f
 repeat' first
   | (with_reducible exact ih0 _ _ _)
   | (with_reducible exact layout_Check.mono _ _ _)
   | (with_reducible exact LeO.refl _)
   | (with_reducible exact LeO.none _)
   | (with_reducible refine LeO.ite ?_ ?_)
   | (with_reducible refine LeO.bind ?_ (fun _=>?_))
   | exact ih0 _ _ _
   | exact layout_Check.mono _ _ _
   | exact LeO.none _
   | refine LeO.ite ?_ ?_
   | refine LeO.bind ?_ (fun _=>?_)
set_option maxHeartbeats 8000000 in
set_option maxRecDepth 100000 in
theorem layout_Plan.calls (k:Nat) (a0:Int) (a1:Int) (r1:Int) (r2:Int) (r3:Int) (w:World) (h:layout_Plan.f k a0 a1=some (r1,r2,r3)) :
  Calls Try.prog 11 #[.int .i64 a0,.int .i64 a1] w fun e w'=>e=.returned (.tuple #[.agg #[.int .i64 r1,.int .i64 r2],.int .i64 r3])∧Below w.heap.size w w':=by
 have hu24:=Try.underlying24
 have HB:=zm (Below.refl w.heap.size w)
 have H:(if a0 < 1 then (layout_Plan.j0 k a0 a1 true) else (if a0 > 8192 then (layout_Plan.j0 k a0 a1 true) else (if a1 < 16 then (layout_Plan.j0 k a0 a1 true) else (layout_Plan.j0 k a0 a1 (decide (a1 > 64))))))=some (r1,r2,r3):=h
 clear h
 have HC3:=zm H
 clear H
 go_enter Try.func11,Try.ntmps11
 go_upto_region 1 with (first|((with_reducible refine gate_dst (N:=4) rfl ?_);refine box_event ?hg (N:=4) ?hd (cs:=#[.int .i64 0,.int .i64 0]) (t:=24) ?hr ?_;(case hd=>rfl);(case hg=>rfl);(case hr=>first|(go_simp;done)|(go_simp;rfl));intro gb104 hg w4 hbox hb;have n0_:=zm (below_step (by repeat (first|(with_reducible first|exact HB.out|apply zlA|apply zlN|apply zlD)|exact HB.out)) hb);have n1_:=zm (hbox);have n2_:=zm ((by rw [hg];exact (below_size (by repeat (first|(with_reducible first|exact HB.out|apply zlA|apply zlN|apply zlD)|exact HB.out))):w.heap.size≤gb104));have n3_:=zm ((by rw [hg];exact (below_size (by repeat (first|(with_reducible first|exact HB.out|apply zlA|apply zlN|apply zlD)|exact HB.out))):w.heap.size≤gb104));clear HB;have HB:=n0_;have BK104:=n1_;have GW104:=n2_;have GE104:=n3_;clear n0_ n1_ n2_ n3_;clear hb hbox hg))
 (try simp only [Act.put,List.setIfInBounds_toArray,List.set_cons_zero,List.set_cons_succ])
 go_cut [22] (fun v22 wc=>∃ (kq:Nat) (x22_2:Bool),v22=.bool x22_2∧Aside0 (layout_Plan.j0 kq a0 a1 x22_2=some (r1,r2,r3))∧Aside0 (kq≤k)∧Aside0 (wc.heap[gb104]?=some (.cells #[.int .i64 0,.int .i64 0] 24 (0,0)))∧Aside0 (Below w.heap.size w wc))
 case first =>
  have H:=HC3.out
  clear HC3
  by_cases c5:a0 < 1
  ·rw [if_pos c5] at H
   have c5b0:decide (a0 < 1)=true:=decide_eq_true c5
   clear c5
   (first|rw [c5b0]|(simp only [i64_w,i32_w];rw [c5b0])|skip)
   have H':=zm H
   clear H
   go_wp2
   go_meet
   case rel=>exact ⟨_,(true),(by first|rfl|(simp;done)|(simp [*];done)),H',⟨by first|omega|exact Nat.le_refl _⟩,⟨by (with_reducible repeat (first|refine zbN ?_ _|refine zbD ?_|refine zbA ?_ _));exact BK104.out⟩,⟨by repeat (first|(with_reducible first|exact HB.out|apply zlA|apply zlN|apply zlD|refine zlS ?_ GE104.out)|exact HB.out)⟩⟩
  ·rw [if_neg c5] at H
   have c5b0:decide (a0 < 1)=false:=decide_eq_false c5
   clear c5
   (first|rw [c5b0]|(simp only [i64_w,i32_w];rw [c5b0])|skip)
   by_cases c6:a0 > 8192
   ·rw [if_pos c6] at H
    have c6b0:decide (8192 < a0)=true:=decide_eq_true c6
    clear c6
    have H':=zm H
    clear H
    go_wp2
    go_meet
    case rel=>exact ⟨_,(true),(by first|rfl|(simp;done)|(simp [*];done)),H',⟨by first|omega|exact Nat.le_refl _⟩,⟨by (with_reducible repeat (first|refine zbN ?_ _|refine zbD ?_|refine zbA ?_ _));exact BK104.out⟩,⟨by repeat (first|(with_reducible first|exact HB.out|apply zlA|apply zlN|apply zlD|refine zlS ?_ GE104.out)|exact HB.out)⟩⟩
   ·rw [if_neg c6] at H
    have c6b0:decide (8192 < a0)=false:=decide_eq_false c6
    clear c6
    by_cases c7:a1 < 16
    ·rw [if_pos c7] at H
     have c7b0:decide (a1 < 16)=true:=decide_eq_true c7
     clear c7
     have H':=zm H
     clear H
     go_wp2
     go_meet
     case rel=>exact ⟨_,(true),(by first|rfl|(simp;done)|(simp [*];done)),H',⟨by first|omega|exact Nat.le_refl _⟩,⟨by (with_reducible repeat (first|refine zbN ?_ _|refine zbD ?_|refine zbA ?_ _));exact BK104.out⟩,⟨by repeat (first|(with_reducible first|exact HB.out|apply zlA|apply zlN|apply zlD|refine zlS ?_ GE104.out)|exact HB.out)⟩⟩
    ·rw [if_neg c7] at H
     have c7b0:decide (a1 < 16)=false:=decide_eq_false c7
     clear c7
     have H':=zm H
     clear H
     go_wp2
     go_meet
     case rel=>exact ⟨_,(decide (a1 > 64)),(by first|rfl|(simp;done)|(simp [*];done)),H',⟨by first|omega|exact Nat.le_refl _⟩,⟨by (with_reducible repeat (first|refine zbN ?_ _|refine zbD ?_|refine zbA ?_ _));exact BK104.out⟩,⟨by repeat (first|(with_reducible first|exact HB.out|apply zlA|apply zlN|apply zlD|refine zlS ?_ GE104.out)|exact HB.out)⟩⟩
 case rest =>
  clear HC3
  try clear c1
  try clear p2
  try clear c5
  try clear c5b0
  try clear c6
  try clear c6b0
  try clear c7
  try clear c7b0
  obtain ⟨kq,x22_2,rfl,HA,HJ2,BK104,HB⟩:=hcut
  cases kq with
  | zero=>exact absurd HA.out (by simp [layout_Plan.j0])
  | succ kj2 =>
   have H:=HA.out
   clear HA
   simp only [layout_Plan.j0] at H
   by_cases c8:x22_2=true
   ·subst c8
    have H1:(some (0,0,1))=some (r1,r2,r3):=by rw [if_pos rfl] at H;exact H
    clear H
    have H:=H1
    clear H1
    simp only [Option.some.injEq,Prod.mk.injEq] at H
    obtain ⟨rfl,rfl,rfl⟩:=H
    have hcz9_0:wc.cell? ⟨gb104,0,none⟩=some (.int .i64 0):=(blk_cell BK104.out 0).trans rfl
    have hcz9_1:wc.cell? ⟨gb104,1,none⟩=some (.int .i64 0):=(blk_cell BK104.out 1).trans rfl
    have hfz9_0:=blk_frozen BK104.out 0
    have hfz9_1:=blk_frozen BK104.out 1
    go_wp2
    refine bodyPost_ret (results_ct rfl _ _ gb104 24 #[.int .i64 0,.int .i64 0] (0,0) _ rfl (by (with_reducible repeat (first|refine zbN ?_ _|refine zbD ?_|refine zbA ?_ _));refine blk_put (cs:=#[.int .i64 0,.int .i64 0]) ?_ 1 _ rfl;(with_reducible repeat (first|refine zbN ?_ _|refine zbD ?_|refine zbA ?_ _));refine blk_put (cs:=#[.int .i64 0,.int .i64 0]) ?_ 0 _ rfl;(with_reducible repeat (first|refine zbN ?_ _|refine zbD ?_|refine zbA ?_ _));exact BK104.out) Try.underlying24 rfl (by kernel_rfl)) rfl ?_
    exact ⟨by first|rfl|(simp [errW_none,errW_some] <;> rfl)|(simp [*,errW_none,errW_some] <;> rfl),by repeat (first|(with_reducible first|exact HB.out|apply zlA|apply zlN|apply zlD|refine zlS ?_ GE104.out)|exact HB.out)⟩
   ·replace c8:=Bool.eq_false_iff.mpr c8
    subst c8
    have H1:(if (Int.tmod a0 128) < 16 then ((layout_Check.f kj2 (wrap64 (a0 - (Int.tmod a0 128))) a1).bind fun t106=>(if t106=0 then (some (wrap64 (a0 - (Int.tmod a0 128)),a1,0)) else (some (0,0,t106)))) else ((layout_Check.f kj2 a0 a1).bind fun t107=>(if t107=0 then (some (a0,a1,0)) else (some (0,0,t107)))))=some (r1,r2,r3):=by rw [if_neg (show ¬ (false=true) by decide)] at H;exact H
    clear H
    have H:=H1
    clear H1
    by_cases c10:(Int.tmod a0 128) < 16
    ·rw [if_pos c10] at H
     have c10b0:decide ((Int.tmod a0 128) < 16)=true:=decide_eq_true c10
     clear c10
     replace H:=Option.bind_eq_some_iff.mp H
     obtain ⟨t106,A110,H⟩:=H
     replace H:(if t106=0 then (some (wrap64 (a0 - (Int.tmod a0 128)),a1,0)) else (some (0,0,t106)))=some (r1,r2,r3):=H
     have A11:=zm A110
     clear A110
     by_cases c12:t106=0
     ·rw [if_pos c12] at H
      have c12b0:(t106 == 0)=true:=beq_iff_eq.mpr c12
      have c12b1:(t106 != 0)=false:=bne_eq_false_iff_eq.mpr c12
      clear c12
      simp only [Option.some.injEq,Prod.mk.injEq] at H
      obtain ⟨rfl,rfl,rfl⟩:=H
      go_wp2_with (first|((with_reducible refine gate_dst (N:=6) rfl ?_);refine box_event ?hg (N:=6) ?hd (cs:=#[.int .i64 0,.int .i64 0]) (t:=24) ?hr ?_;(case hd=>rfl);(case hg=>rfl);(case hr=>first|(go_simp;done)|(go_simp;rfl));intro gb105 hg w13 hbox hb;have n0_:=zm (zbB (g:=gb104) (o:=.cells #[.int .i64 0,.int .i64 0] 24 (0,0)) (by (with_reducible repeat (first|refine zbN ?_ _|refine zbD ?_|refine zbA ?_ _));exact BK104.out) hb);have n1_:=zm (below_step (by repeat (first|(with_reducible first|exact HB.out|apply zlA|apply zlN|apply zlD|refine zlS ?_ GE104.out)|exact HB.out)) hb);have n2_:=zm (hbox);have n3_:=zm ((by rw [hg];exact (below_size (by repeat (first|(with_reducible first|exact HB.out|apply zlA|apply zlN|apply zlD|refine zlS ?_ GE104.out)|exact HB.out))):w.heap.size≤gb105));have n4_:=zm ((by rw [hg];exact (below_size (by repeat (first|(with_reducible first|exact HB.out|apply zlA|apply zlN|apply zlD|refine zlS ?_ GE104.out)|exact HB.out))):w.heap.size≤gb105));have n5_:=zm ((by rw [hg];exact Nat.ne_of_lt (blk_lt (g:=gb104) (o:=.cells #[.int .i64 0,.int .i64 0] 24 (0,0)) (by (with_reducible repeat (first|refine zbN ?_ _|refine zbD ?_|refine zbA ?_ _));exact BK104.out)):gb104≠gb105));have n6_:=zm ((by rw [hg];exact Nat.ne_of_gt (blk_lt (g:=gb104) (o:=.cells #[.int .i64 0,.int .i64 0] 24 (0,0)) (by (with_reducible repeat (first|refine zbN ?_ _|refine zbD ?_|refine zbA ?_ _));exact BK104.out)):gb105≠gb104));clear BK104 HB;have BK104:=n0_;have HB:=n1_;have BK105:=n2_;have GW105:=n3_;have GE105:=n4_;have NB104_105:=n5_;have NB105_104:=n6_;clear n0_ n1_ n2_ n3_ n4_ n5_ n6_;clear hb hbox hg;have hnb14:=NB105_104.out;have hnc14:=NB104_105.out;have hcz15_0:w13.cell? ⟨gb105,0,none⟩=some (.int .i64 0):=(blk_cell BK105.out 0).trans rfl;have hcz15_1:w13.cell? ⟨gb105,1,none⟩=some (.int .i64 0):=(blk_cell BK105.out 1).trans rfl;have hfz15_0:=blk_frozen BK105.out 0;have hfz15_1:=blk_frozen BK105.out 1)|((with_reducible refine gate_callee (f:=15) rfl ?_);refine goesL_ (some 37) rfl rfl Try.func15 (by kernel_rfl) rfl #[.agg #[.int .i64 (wrap64 (a0 - (Int.tmod a0 128))),.int .i64 a1]] rfl (by (try simp only [List.map_toArray,List.map_cons,List.map_nil]);first|done|rfl|(simp only [List.length_drop,List.length_take];rfl)) ?_;(with_reducible refine (layout_Check.calls kj2 (wrap64 (a0 - (Int.tmod a0 128))) a1 t106 _ A11.out).mono ?_);rintro e w16 ⟨rfl,hb⟩;refine ⟨_,rfl,?_⟩;have n0_:=zm (zbB (g:=gb104) (o:=.cells #[.int .i64 0,.int .i64 0] 24 (0,0)) (by (with_reducible repeat (first|refine zbN ?_ _|refine zbD ?_|refine zbA ?_ _));refine blk_far ?_ NB104_105.out _;(with_reducible repeat (first|refine zbN ?_ _|refine zbD ?_|refine zbA ?_ _));refine blk_far ?_ NB104_105.out _;(with_reducible repeat (first|refine zbN ?_ _|refine zbD ?_|refine zbA ?_ _));refine blk_far ?_ NB104_105.out _;(with_reducible repeat (first|refine zbN ?_ _|refine zbD ?_|refine zbA ?_ _));exact BK104.out) hb);have n1_:=zm (zbB (g:=gb105) (o:=.cells #[.int .i64 (wrap64 (a0 - (Int.tmod a0 128))),.int .i64 a1] 24 (0,0)) (by (with_reducible repeat (first|refine zbN ?_ _|refine zbD ?_|refine zbA ?_ _));refine blk_put (cs:=#[.int .i64 a0,.int .i64 a1]) ?_ 0 _ rfl;(with_reducible repeat (first|refine zbN ?_ _|refine zbD ?_|refine zbA ?_ _));refine blk_put (cs:=#[.int .i64 a0,.int .i64 0]) ?_ 1 _ rfl;(with_reducible repeat (first|refine zbN ?_ _|refine zbD ?_|refine zbA ?_ _));refine blk_put (cs:=#[.int .i64 0,.int .i64 0]) ?_ 0 _ rfl;(with_reducible repeat (first|refine zbN ?_ _|refine zbD ?_|refine zbA ?_ _));exact BK105.out) hb);have n2_:=zm (below_step (by repeat (first|(with_reducible first|exact HB.out|apply zlA|apply zlN|apply zlD|refine zlS ?_ GE104.out|refine zlS ?_ GE105.out)|exact HB.out)) hb);clear BK104 BK105 HB;have BK104:=n0_;have BK105:=n1_;have HB:=n2_;clear n0_ n1_ n2_;(try clear hb);(try clear hb2);(try clear hk);(try clear hi);have hcz17_0:w16.cell? ⟨gb105,0,none⟩=some (.int .i64 (wrap64 (a0 - (Int.tmod a0 128)))):=(blk_cell BK105.out 0).trans rfl;have hcz17_1:w16.cell? ⟨gb105,1,none⟩=some (.int .i64 a1):=(blk_cell BK105.out 1).trans rfl;have hfz17_0:=blk_frozen BK105.out 0;have hfz17_1:=blk_frozen BK105.out 1;have hcz18_0:w16.cell? ⟨gb104,0,none⟩=some (.int .i64 0):=(blk_cell BK104.out 0).trans rfl;have hcz18_1:w16.cell? ⟨gb104,1,none⟩=some (.int .i64 0):=(blk_cell BK104.out 1).trans rfl;have hfz18_0:=blk_frozen BK104.out 0;have hfz18_1:=blk_frozen BK104.out 1))
      refine bodyPost_ret (results_ct rfl _ _ gb104 24 #[.int .i64 (wrap64 (a0 - (Int.tmod a0 128))),.int .i64 a1] (0,0) _ rfl (by (with_reducible repeat (first|refine zbN ?_ _|refine zbD ?_|refine zbA ?_ _));refine blk_put (cs:=#[.int .i64 (wrap64 (a0 - (Int.tmod a0 128))),.int .i64 0]) ?_ 1 _ rfl;(with_reducible repeat (first|refine zbN ?_ _|refine zbD ?_|refine zbA ?_ _));refine blk_put (cs:=#[.int .i64 0,.int .i64 0]) ?_ 0 _ rfl;(with_reducible repeat (first|refine zbN ?_ _|refine zbD ?_|refine zbA ?_ _));exact BK104.out) Try.underlying24 rfl (by kernel_rfl)) rfl ?_
      exact ⟨by first|rfl|(simp [errW_none,errW_some] <;> rfl)|(simp [*,errW_none,errW_some] <;> rfl),by repeat (first|(with_reducible first|exact HB.out|apply zlA|apply zlN|apply zlD|refine zlS ?_ GE104.out|refine zlS ?_ GE105.out)|exact HB.out)⟩
     ·rw [if_neg c12] at H
      have c12b0:(t106 == 0)=false:=beq_eq_false_iff_ne.mpr c12
      have c12b1:(t106 != 0)=true:=bne_iff_ne.mpr c12
      simp only [Option.some.injEq,Prod.mk.injEq] at H
      obtain ⟨rfl,rfl,rfl⟩:=H
      go_wp2_with (first|((with_reducible refine gate_dst (N:=6) rfl ?_);refine box_event ?hg (N:=6) ?hd (cs:=#[.int .i64 0,.int .i64 0]) (t:=24) ?hr ?_;(case hd=>rfl);(case hg=>rfl);(case hr=>first|(go_simp;done)|(go_simp;rfl));intro gb105 hg w19 hbox hb;have n0_:=zm (zbB (g:=gb104) (o:=.cells #[.int .i64 0,.int .i64 0] 24 (0,0)) (by (with_reducible repeat (first|refine zbN ?_ _|refine zbD ?_|refine zbA ?_ _));exact BK104.out) hb);have n1_:=zm (below_step (by repeat (first|(with_reducible first|exact HB.out|apply zlA|apply zlN|apply zlD|refine zlS ?_ GE104.out)|exact HB.out)) hb);have n2_:=zm (hbox);have n3_:=zm ((by rw [hg];exact (below_size (by repeat (first|(with_reducible first|exact HB.out|apply zlA|apply zlN|apply zlD|refine zlS ?_ GE104.out)|exact HB.out))):w.heap.size≤gb105));have n4_:=zm ((by rw [hg];exact (below_size (by repeat (first|(with_reducible first|exact HB.out|apply zlA|apply zlN|apply zlD|refine zlS ?_ GE104.out)|exact HB.out))):w.heap.size≤gb105));have n5_:=zm ((by rw [hg];exact Nat.ne_of_lt (blk_lt (g:=gb104) (o:=.cells #[.int .i64 0,.int .i64 0] 24 (0,0)) (by (with_reducible repeat (first|refine zbN ?_ _|refine zbD ?_|refine zbA ?_ _));exact BK104.out)):gb104≠gb105));have n6_:=zm ((by rw [hg];exact Nat.ne_of_gt (blk_lt (g:=gb104) (o:=.cells #[.int .i64 0,.int .i64 0] 24 (0,0)) (by (with_reducible repeat (first|refine zbN ?_ _|refine zbD ?_|refine zbA ?_ _));exact BK104.out)):gb105≠gb104));clear BK104 HB;have BK104:=n0_;have HB:=n1_;have BK105:=n2_;have GW105:=n3_;have GE105:=n4_;have NB104_105:=n5_;have NB105_104:=n6_;clear n0_ n1_ n2_ n3_ n4_ n5_ n6_;clear hb hbox hg;have hnb20:=NB105_104.out;have hnc20:=NB104_105.out;have hcz21_0:w19.cell? ⟨gb105,0,none⟩=some (.int .i64 0):=(blk_cell BK105.out 0).trans rfl;have hcz21_1:w19.cell? ⟨gb105,1,none⟩=some (.int .i64 0):=(blk_cell BK105.out 1).trans rfl;have hfz21_0:=blk_frozen BK105.out 0;have hfz21_1:=blk_frozen BK105.out 1)|((with_reducible refine gate_callee (f:=15) rfl ?_);refine goesL_ (some 37) rfl rfl Try.func15 (by kernel_rfl) rfl #[.agg #[.int .i64 (wrap64 (a0 - (Int.tmod a0 128))),.int .i64 a1]] rfl (by (try simp only [List.map_toArray,List.map_cons,List.map_nil]);first|done|rfl|(simp only [List.length_drop,List.length_take];rfl)) ?_;(with_reducible refine (layout_Check.calls kj2 (wrap64 (a0 - (Int.tmod a0 128))) a1 t106 _ A11.out).mono ?_);rintro e w22 ⟨rfl,hb⟩;refine ⟨_,rfl,?_⟩;have n0_:=zm (zbB (g:=gb104) (o:=.cells #[.int .i64 0,.int .i64 0] 24 (0,0)) (by (with_reducible repeat (first|refine zbN ?_ _|refine zbD ?_|refine zbA ?_ _));refine blk_far ?_ NB104_105.out _;(with_reducible repeat (first|refine zbN ?_ _|refine zbD ?_|refine zbA ?_ _));refine blk_far ?_ NB104_105.out _;(with_reducible repeat (first|refine zbN ?_ _|refine zbD ?_|refine zbA ?_ _));refine blk_far ?_ NB104_105.out _;(with_reducible repeat (first|refine zbN ?_ _|refine zbD ?_|refine zbA ?_ _));exact BK104.out) hb);have n1_:=zm (zbB (g:=gb105) (o:=.cells #[.int .i64 (wrap64 (a0 - (Int.tmod a0 128))),.int .i64 a1] 24 (0,0)) (by (with_reducible repeat (first|refine zbN ?_ _|refine zbD ?_|refine zbA ?_ _));refine blk_put (cs:=#[.int .i64 a0,.int .i64 a1]) ?_ 0 _ rfl;(with_reducible repeat (first|refine zbN ?_ _|refine zbD ?_|refine zbA ?_ _));refine blk_put (cs:=#[.int .i64 a0,.int .i64 0]) ?_ 1 _ rfl;(with_reducible repeat (first|refine zbN ?_ _|refine zbD ?_|refine zbA ?_ _));refine blk_put (cs:=#[.int .i64 0,.int .i64 0]) ?_ 0 _ rfl;(with_reducible repeat (first|refine zbN ?_ _|refine zbD ?_|refine zbA ?_ _));exact BK105.out) hb);have n2_:=zm (below_step (by repeat (first|(with_reducible first|exact HB.out|apply zlA|apply zlN|apply zlD|refine zlS ?_ GE104.out|refine zlS ?_ GE105.out)|exact HB.out)) hb);clear BK104 BK105 HB;have BK104:=n0_;have BK105:=n1_;have HB:=n2_;clear n0_ n1_ n2_;(try clear hb);(try clear hb2);(try clear hk);(try clear hi);have hcz23_0:w22.cell? ⟨gb104,0,none⟩=some (.int .i64 0):=(blk_cell BK104.out 0).trans rfl;have hcz23_1:w22.cell? ⟨gb104,1,none⟩=some (.int .i64 0):=(blk_cell BK104.out 1).trans rfl;have hfz23_0:=blk_frozen BK104.out 0;have hfz23_1:=blk_frozen BK104.out 1))
      refine bodyPost_ret (results_ct rfl _ _ gb104 24 #[.int .i64 0,.int .i64 0] (0,0) _ rfl (by (with_reducible repeat (first|refine zbN ?_ _|refine zbD ?_|refine zbA ?_ _));refine blk_put (cs:=#[.int .i64 0,.int .i64 0]) ?_ 1 _ rfl;(with_reducible repeat (first|refine zbN ?_ _|refine zbD ?_|refine zbA ?_ _));refine blk_put (cs:=#[.int .i64 0,.int .i64 0]) ?_ 0 _ rfl;(with_reducible repeat (first|refine zbN ?_ _|refine zbD ?_|refine zbA ?_ _));exact BK104.out) Try.underlying24 rfl (by kernel_rfl)) rfl ?_
      exact ⟨by first|rfl|(simp [errW_none,errW_some] <;> rfl)|(simp [*,errW_none,errW_some] <;> rfl),by repeat (first|(with_reducible first|exact HB.out|apply zlA|apply zlN|apply zlD|refine zlS ?_ GE104.out|refine zlS ?_ GE105.out)|exact HB.out)⟩
    ·rw [if_neg c10] at H
     have c10b0:decide ((Int.tmod a0 128) < 16)=false:=decide_eq_false c10
     clear c10
     replace H:=Option.bind_eq_some_iff.mp H
     obtain ⟨t107,A240,H⟩:=H
     replace H:(if t107=0 then (some (a0,a1,0)) else (some (0,0,t107)))=some (r1,r2,r3):=H
     have A24:=zm A240
     clear A240
     by_cases c25:t107=0
     ·rw [if_pos c25] at H
      have c25b0:(t107 == 0)=true:=beq_iff_eq.mpr c25
      have c25b1:(t107 != 0)=false:=bne_eq_false_iff_eq.mpr c25
      clear c25
      simp only [Option.some.injEq,Prod.mk.injEq] at H
      obtain ⟨rfl,rfl,rfl⟩:=H
      go_wp2_with (first|((with_reducible refine gate_dst (N:=6) rfl ?_);refine box_event ?hg (N:=6) ?hd (cs:=#[.int .i64 0,.int .i64 0]) (t:=24) ?hr ?_;(case hd=>rfl);(case hg=>rfl);(case hr=>first|(go_simp;done)|(go_simp;rfl));intro gb105 hg w26 hbox hb;have n0_:=zm (zbB (g:=gb104) (o:=.cells #[.int .i64 0,.int .i64 0] 24 (0,0)) (by (with_reducible repeat (first|refine zbN ?_ _|refine zbD ?_|refine zbA ?_ _));exact BK104.out) hb);have n1_:=zm (below_step (by repeat (first|(with_reducible first|exact HB.out|apply zlA|apply zlN|apply zlD|refine zlS ?_ GE104.out)|exact HB.out)) hb);have n2_:=zm (hbox);have n3_:=zm ((by rw [hg];exact (below_size (by repeat (first|(with_reducible first|exact HB.out|apply zlA|apply zlN|apply zlD|refine zlS ?_ GE104.out)|exact HB.out))):w.heap.size≤gb105));have n4_:=zm ((by rw [hg];exact (below_size (by repeat (first|(with_reducible first|exact HB.out|apply zlA|apply zlN|apply zlD|refine zlS ?_ GE104.out)|exact HB.out))):w.heap.size≤gb105));have n5_:=zm ((by rw [hg];exact Nat.ne_of_lt (blk_lt (g:=gb104) (o:=.cells #[.int .i64 0,.int .i64 0] 24 (0,0)) (by (with_reducible repeat (first|refine zbN ?_ _|refine zbD ?_|refine zbA ?_ _));exact BK104.out)):gb104≠gb105));have n6_:=zm ((by rw [hg];exact Nat.ne_of_gt (blk_lt (g:=gb104) (o:=.cells #[.int .i64 0,.int .i64 0] 24 (0,0)) (by (with_reducible repeat (first|refine zbN ?_ _|refine zbD ?_|refine zbA ?_ _));exact BK104.out)):gb105≠gb104));clear BK104 HB;have BK104:=n0_;have HB:=n1_;have BK105:=n2_;have GW105:=n3_;have GE105:=n4_;have NB104_105:=n5_;have NB105_104:=n6_;clear n0_ n1_ n2_ n3_ n4_ n5_ n6_;clear hb hbox hg;have hnb27:=NB105_104.out;have hnc27:=NB104_105.out;have hcz28_0:w26.cell? ⟨gb105,0,none⟩=some (.int .i64 0):=(blk_cell BK105.out 0).trans rfl;have hcz28_1:w26.cell? ⟨gb105,1,none⟩=some (.int .i64 0):=(blk_cell BK105.out 1).trans rfl;have hfz28_0:=blk_frozen BK105.out 0;have hfz28_1:=blk_frozen BK105.out 1)|((with_reducible refine gate_callee (f:=15) rfl ?_);refine goesL_ (some 37) rfl rfl Try.func15 (by kernel_rfl) rfl #[.agg #[.int .i64 a0,.int .i64 a1]] rfl (by (try simp only [List.map_toArray,List.map_cons,List.map_nil]);first|done|rfl|(simp only [List.length_drop,List.length_take];rfl)) ?_;(with_reducible refine (layout_Check.calls kj2 a0 a1 t107 _ A24.out).mono ?_);rintro e w29 ⟨rfl,hb⟩;refine ⟨_,rfl,?_⟩;have n0_:=zm (zbB (g:=gb104) (o:=.cells #[.int .i64 0,.int .i64 0] 24 (0,0)) (by (with_reducible repeat (first|refine zbN ?_ _|refine zbD ?_|refine zbA ?_ _));refine blk_far ?_ NB104_105.out _;(with_reducible repeat (first|refine zbN ?_ _|refine zbD ?_|refine zbA ?_ _));refine blk_far ?_ NB104_105.out _;(with_reducible repeat (first|refine zbN ?_ _|refine zbD ?_|refine zbA ?_ _));exact BK104.out) hb);have n1_:=zm (zbB (g:=gb105) (o:=.cells #[.int .i64 a0,.int .i64 a1] 24 (0,0)) (by (with_reducible repeat (first|refine zbN ?_ _|refine zbD ?_|refine zbA ?_ _));refine blk_put (cs:=#[.int .i64 a0,.int .i64 0]) ?_ 1 _ rfl;(with_reducible repeat (first|refine zbN ?_ _|refine zbD ?_|refine zbA ?_ _));refine blk_put (cs:=#[.int .i64 0,.int .i64 0]) ?_ 0 _ rfl;(with_reducible repeat (first|refine zbN ?_ _|refine zbD ?_|refine zbA ?_ _));exact BK105.out) hb);have n2_:=zm (below_step (by repeat (first|(with_reducible first|exact HB.out|apply zlA|apply zlN|apply zlD|refine zlS ?_ GE104.out|refine zlS ?_ GE105.out)|exact HB.out)) hb);clear BK104 BK105 HB;have BK104:=n0_;have BK105:=n1_;have HB:=n2_;clear n0_ n1_ n2_;(try clear hb);(try clear hb2);(try clear hk);(try clear hi);have hcz30_0:w29.cell? ⟨gb105,0,none⟩=some (.int .i64 a0):=(blk_cell BK105.out 0).trans rfl;have hcz30_1:w29.cell? ⟨gb105,1,none⟩=some (.int .i64 a1):=(blk_cell BK105.out 1).trans rfl;have hfz30_0:=blk_frozen BK105.out 0;have hfz30_1:=blk_frozen BK105.out 1;have hcz31_0:w29.cell? ⟨gb104,0,none⟩=some (.int .i64 0):=(blk_cell BK104.out 0).trans rfl;have hcz31_1:w29.cell? ⟨gb104,1,none⟩=some (.int .i64 0):=(blk_cell BK104.out 1).trans rfl;have hfz31_0:=blk_frozen BK104.out 0;have hfz31_1:=blk_frozen BK104.out 1))
      refine bodyPost_ret (results_ct rfl _ _ gb104 24 #[.int .i64 a0,.int .i64 a1] (0,0) _ rfl (by (with_reducible repeat (first|refine zbN ?_ _|refine zbD ?_|refine zbA ?_ _));refine blk_put (cs:=#[.int .i64 a0,.int .i64 0]) ?_ 1 _ rfl;(with_reducible repeat (first|refine zbN ?_ _|refine zbD ?_|refine zbA ?_ _));refine blk_put (cs:=#[.int .i64 0,.int .i64 0]) ?_ 0 _ rfl;(with_reducible repeat (first|refine zbN ?_ _|refine zbD ?_|refine zbA ?_ _));exact BK104.out) Try.underlying24 rfl (by kernel_rfl)) rfl ?_
      exact ⟨by first|rfl|(simp [errW_none,errW_some] <;> rfl)|(simp [*,errW_none,errW_some] <;> rfl),by repeat (first|(with_reducible first|exact HB.out|apply zlA|apply zlN|apply zlD|refine zlS ?_ GE104.out|refine zlS ?_ GE105.out)|exact HB.out)⟩
     ·rw [if_neg c25] at H
      have c25b0:(t107 == 0)=false:=beq_eq_false_iff_ne.mpr c25
      have c25b1:(t107 != 0)=true:=bne_iff_ne.mpr c25
      simp only [Option.some.injEq,Prod.mk.injEq] at H
      obtain ⟨rfl,rfl,rfl⟩:=H
      go_wp2_with (first|((with_reducible refine gate_dst (N:=6) rfl ?_);refine box_event ?hg (N:=6) ?hd (cs:=#[.int .i64 0,.int .i64 0]) (t:=24) ?hr ?_;(case hd=>rfl);(case hg=>rfl);(case hr=>first|(go_simp;done)|(go_simp;rfl));intro gb105 hg w32 hbox hb;have n0_:=zm (zbB (g:=gb104) (o:=.cells #[.int .i64 0,.int .i64 0] 24 (0,0)) (by (with_reducible repeat (first|refine zbN ?_ _|refine zbD ?_|refine zbA ?_ _));exact BK104.out) hb);have n1_:=zm (below_step (by repeat (first|(with_reducible first|exact HB.out|apply zlA|apply zlN|apply zlD|refine zlS ?_ GE104.out)|exact HB.out)) hb);have n2_:=zm (hbox);have n3_:=zm ((by rw [hg];exact (below_size (by repeat (first|(with_reducible first|exact HB.out|apply zlA|apply zlN|apply zlD|refine zlS ?_ GE104.out)|exact HB.out))):w.heap.size≤gb105));have n4_:=zm ((by rw [hg];exact (below_size (by repeat (first|(with_reducible first|exact HB.out|apply zlA|apply zlN|apply zlD|refine zlS ?_ GE104.out)|exact HB.out))):w.heap.size≤gb105));have n5_:=zm ((by rw [hg];exact Nat.ne_of_lt (blk_lt (g:=gb104) (o:=.cells #[.int .i64 0,.int .i64 0] 24 (0,0)) (by (with_reducible repeat (first|refine zbN ?_ _|refine zbD ?_|refine zbA ?_ _));exact BK104.out)):gb104≠gb105));have n6_:=zm ((by rw [hg];exact Nat.ne_of_gt (blk_lt (g:=gb104) (o:=.cells #[.int .i64 0,.int .i64 0] 24 (0,0)) (by (with_reducible repeat (first|refine zbN ?_ _|refine zbD ?_|refine zbA ?_ _));exact BK104.out)):gb105≠gb104));clear BK104 HB;have BK104:=n0_;have HB:=n1_;have BK105:=n2_;have GW105:=n3_;have GE105:=n4_;have NB104_105:=n5_;have NB105_104:=n6_;clear n0_ n1_ n2_ n3_ n4_ n5_ n6_;clear hb hbox hg;have hnb33:=NB105_104.out;have hnc33:=NB104_105.out;have hcz34_0:w32.cell? ⟨gb105,0,none⟩=some (.int .i64 0):=(blk_cell BK105.out 0).trans rfl;have hcz34_1:w32.cell? ⟨gb105,1,none⟩=some (.int .i64 0):=(blk_cell BK105.out 1).trans rfl;have hfz34_0:=blk_frozen BK105.out 0;have hfz34_1:=blk_frozen BK105.out 1)|((with_reducible refine gate_callee (f:=15) rfl ?_);refine goesL_ (some 37) rfl rfl Try.func15 (by kernel_rfl) rfl #[.agg #[.int .i64 a0,.int .i64 a1]] rfl (by (try simp only [List.map_toArray,List.map_cons,List.map_nil]);first|done|rfl|(simp only [List.length_drop,List.length_take];rfl)) ?_;(with_reducible refine (layout_Check.calls kj2 a0 a1 t107 _ A24.out).mono ?_);rintro e w35 ⟨rfl,hb⟩;refine ⟨_,rfl,?_⟩;have n0_:=zm (zbB (g:=gb104) (o:=.cells #[.int .i64 0,.int .i64 0] 24 (0,0)) (by (with_reducible repeat (first|refine zbN ?_ _|refine zbD ?_|refine zbA ?_ _));refine blk_far ?_ NB104_105.out _;(with_reducible repeat (first|refine zbN ?_ _|refine zbD ?_|refine zbA ?_ _));refine blk_far ?_ NB104_105.out _;(with_reducible repeat (first|refine zbN ?_ _|refine zbD ?_|refine zbA ?_ _));exact BK104.out) hb);have n1_:=zm (zbB (g:=gb105) (o:=.cells #[.int .i64 a0,.int .i64 a1] 24 (0,0)) (by (with_reducible repeat (first|refine zbN ?_ _|refine zbD ?_|refine zbA ?_ _));refine blk_put (cs:=#[.int .i64 a0,.int .i64 0]) ?_ 1 _ rfl;(with_reducible repeat (first|refine zbN ?_ _|refine zbD ?_|refine zbA ?_ _));refine blk_put (cs:=#[.int .i64 0,.int .i64 0]) ?_ 0 _ rfl;(with_reducible repeat (first|refine zbN ?_ _|refine zbD ?_|refine zbA ?_ _));exact BK105.out) hb);have n2_:=zm (below_step (by repeat (first|(with_reducible first|exact HB.out|apply zlA|apply zlN|apply zlD|refine zlS ?_ GE104.out|refine zlS ?_ GE105.out)|exact HB.out)) hb);clear BK104 BK105 HB;have BK104:=n0_;have BK105:=n1_;have HB:=n2_;clear n0_ n1_ n2_;(try clear hb);(try clear hb2);(try clear hk);(try clear hi);have hcz36_0:w35.cell? ⟨gb104,0,none⟩=some (.int .i64 0):=(blk_cell BK104.out 0).trans rfl;have hcz36_1:w35.cell? ⟨gb104,1,none⟩=some (.int .i64 0):=(blk_cell BK104.out 1).trans rfl;have hfz36_0:=blk_frozen BK104.out 0;have hfz36_1:=blk_frozen BK104.out 1))
      refine bodyPost_ret (results_ct rfl _ _ gb104 24 #[.int .i64 0,.int .i64 0] (0,0) _ rfl (by (with_reducible repeat (first|refine zbN ?_ _|refine zbD ?_|refine zbA ?_ _));refine blk_put (cs:=#[.int .i64 0,.int .i64 0]) ?_ 1 _ rfl;(with_reducible repeat (first|refine zbN ?_ _|refine zbD ?_|refine zbA ?_ _));refine blk_put (cs:=#[.int .i64 0,.int .i64 0]) ?_ 0 _ rfl;(with_reducible repeat (first|refine zbN ?_ _|refine zbD ?_|refine zbA ?_ _));exact BK104.out) Try.underlying24 rfl (by kernel_rfl)) rfl ?_
      exact ⟨by first|rfl|(simp [errW_none,errW_some] <;> rfl)|(simp [*,errW_none,errW_some] <;> rfl),by repeat (first|(with_reducible first|exact HB.out|apply zlA|apply zlN|apply zlD|refine zlS ?_ GE104.out|refine zlS ?_ GE105.out)|exact HB.out)⟩
def layout_Groups.f (k:Nat) (a0_0:Int) (a0_1:Int):Option (Int):=(layout_Check.f k a0_0 a0_1).bind fun t109=>(if t109=0 then ((layout_ceil.f a0_0 128).bind fun t110=>(some t110)) else (some 0))
theorem layout_Groups.mono:∀ a0 a1 k,LeO (layout_Groups.f k a0 a1) (layout_Groups.f (k + 1) a0 a1):=by
 intro a0 a1 k
 unfold layout_Groups.f
 repeat' first
   | (with_reducible exact layout_Check.mono _ _ _)
   | (with_reducible exact LeO.refl _)
   | (with_reducible exact LeO.none _)
   | (with_reducible refine LeO.ite ?_ ?_)
   | (with_reducible refine LeO.bind ?_ (fun _=>?_))
   | exact layout_Check.mono _ _ _
   | exact LeO.none _
   | refine LeO.ite ?_ ?_
   | refine LeO.bind ?_ (fun _=>?_)
set_option maxHeartbeats 8000000 in
set_option maxRecDepth 100000 in
theorem layout_Groups.calls (k:Nat) (a0_0:Int) (a0_1:Int) (r:Int) (w:World) (h:layout_Groups.f k a0_0 a0_1=some r) :
  Calls Try.prog 17 #[.agg #[.int .i64 a0_0,.int .i64 a0_1]] w fun e w'=>e=.returned (.int .i64 r)∧Below w.heap.size w w':=by
 have hu24:=Try.underlying24
 have HB:=zm (Below.refl w.heap.size w)
 have H:((layout_Check.f k a0_0 a0_1).bind fun t109=>(if t109=0 then ((layout_ceil.f a0_0 128).bind fun t110=>(some t110)) else (some 0)))=some r:=h
 clear h
 replace H:=Option.bind_eq_some_iff.mp H
 obtain ⟨t109,A20,H⟩:=H
 replace H:(if t109=0 then ((layout_ceil.f a0_0 128).bind fun t110=>(some t110)) else (some 0))=some r:=H
 have A2:=zm A20
 clear A20
 by_cases c3:t109=0
 ·rw [if_pos c3] at H
  have c3b0:(t109 == 0)=true:=beq_iff_eq.mpr c3
  have c3b1:(t109 != 0)=false:=bne_eq_false_iff_eq.mpr c3
  clear c3
  replace H:=Option.bind_eq_some_iff.mp H
  obtain ⟨t110,A40,H⟩:=H
  replace H:(some t110)=some r:=H
  have A4:=zm A40
  clear A40
  obtain rfl:=Option.some.inj H
  go_enter Try.func17,Try.ntmps17
  go_wp2_with (first|((with_reducible refine gate_dst (N:=1) rfl ?_);refine box_event ?hg (N:=1) ?hd (cs:=#[.int .i64 a0_0,.int .i64 a0_1]) (t:=24) ?hr ?_;(case hd=>rfl);(case hg=>rfl);(case hr=>first|(go_simp;done)|(go_simp;rfl));intro gb108 hg w5 hbox hb;have n0_:=zm (below_step (by repeat (first|(with_reducible first|exact HB.out|apply zlA|apply zlN|apply zlD)|exact HB.out)) hb);have n1_:=zm (hbox);have n2_:=zm ((by rw [hg];exact (below_size (by repeat (first|(with_reducible first|exact HB.out|apply zlA|apply zlN|apply zlD)|exact HB.out))):w.heap.size≤gb108));have n3_:=zm ((by rw [hg];exact (below_size (by repeat (first|(with_reducible first|exact HB.out|apply zlA|apply zlN|apply zlD)|exact HB.out))):w.heap.size≤gb108));clear HB;have HB:=n0_;have BK108:=n1_;have GW108:=n2_;have GE108:=n3_;clear n0_ n1_ n2_ n3_;clear hb hbox hg;have hcz6_0:w5.cell? ⟨gb108,0,none⟩=some (.int .i64 a0_0):=(blk_cell BK108.out 0).trans rfl;have hcz6_1:w5.cell? ⟨gb108,1,none⟩=some (.int .i64 a0_1):=(blk_cell BK108.out 1).trans rfl;have hfz6_0:=blk_frozen BK108.out 0;have hfz6_1:=blk_frozen BK108.out 1)|((with_reducible refine gate_callee (f:=15) rfl ?_);refine goesL_ (some 4) rfl rfl Try.func15 (by kernel_rfl) rfl #[.agg #[.int .i64 a0_0,.int .i64 a0_1]] rfl (by (try simp only [List.map_toArray,List.map_cons,List.map_nil]);first|done|rfl|(simp only [List.length_drop,List.length_take];rfl)) ?_;(with_reducible refine (layout_Check.calls k a0_0 a0_1 t109 _ A2.out).mono ?_);rintro e w7 ⟨rfl,hb⟩;refine ⟨_,rfl,?_⟩;have n0_:=zm (zbB (g:=gb108) (o:=.cells #[.int .i64 a0_0,.int .i64 a0_1] 24 (0,0)) (by (with_reducible repeat (first|refine zbN ?_ _|refine zbD ?_|refine zbA ?_ _));exact BK108.out) hb);have n1_:=zm (below_step (by repeat (first|(with_reducible first|exact HB.out|apply zlA|apply zlN|apply zlD|refine zlS ?_ GE108.out)|exact HB.out)) hb);clear BK108 HB;have BK108:=n0_;have HB:=n1_;clear n0_ n1_;(try clear hb);(try clear hb2);(try clear hk);(try clear hi);have hcz8_0:w7.cell? ⟨gb108,0,none⟩=some (.int .i64 a0_0):=(blk_cell BK108.out 0).trans rfl;have hcz8_1:w7.cell? ⟨gb108,1,none⟩=some (.int .i64 a0_1):=(blk_cell BK108.out 1).trans rfl;have hfz8_0:=blk_frozen BK108.out 0;have hfz8_1:=blk_frozen BK108.out 1)|((with_reducible refine gate_callee (f:=45) rfl ?_);refine goesL_ (some 8) rfl rfl Try.func45 (by kernel_rfl) rfl #[.int .i64 a0_0,.int .i64 128] rfl (by (try simp only [List.map_toArray,List.map_cons,List.map_nil]);first|done|rfl|(simp only [List.length_drop,List.length_take];rfl)) ?_;(with_reducible refine (layout_ceil.calls a0_0 128 t110 _ A4.out).mono ?_);rintro e w' ⟨rfl,⟨nd,rfl⟩⟩;refine ⟨_,rfl,?_⟩))
  go_ret
  exact ⟨by first|rfl|(simp [errW_none,errW_some] <;> rfl)|(simp [*,errW_none,errW_some] <;> rfl),by repeat (first|(with_reducible first|exact HB.out|apply zlA|apply zlN|apply zlD|refine zlS ?_ GE108.out)|exact HB.out)⟩
 ·rw [if_neg c3] at H
  have c3b0:(t109 == 0)=false:=beq_eq_false_iff_ne.mpr c3
  have c3b1:(t109 != 0)=true:=bne_iff_ne.mpr c3
  obtain rfl:=Option.some.inj H
  go_enter Try.func17,Try.ntmps17
  go_wp2_with (first|((with_reducible refine gate_dst (N:=1) rfl ?_);refine box_event ?hg (N:=1) ?hd (cs:=#[.int .i64 a0_0,.int .i64 a0_1]) (t:=24) ?hr ?_;(case hd=>rfl);(case hg=>rfl);(case hr=>first|(go_simp;done)|(go_simp;rfl));intro gb108 hg w9 hbox hb;have n0_:=zm (below_step (by repeat (first|(with_reducible first|exact HB.out|apply zlA|apply zlN|apply zlD)|exact HB.out)) hb);have n1_:=zm (hbox);have n2_:=zm ((by rw [hg];exact (below_size (by repeat (first|(with_reducible first|exact HB.out|apply zlA|apply zlN|apply zlD)|exact HB.out))):w.heap.size≤gb108));have n3_:=zm ((by rw [hg];exact (below_size (by repeat (first|(with_reducible first|exact HB.out|apply zlA|apply zlN|apply zlD)|exact HB.out))):w.heap.size≤gb108));clear HB;have HB:=n0_;have BK108:=n1_;have GW108:=n2_;have GE108:=n3_;clear n0_ n1_ n2_ n3_;clear hb hbox hg;have hcz10_0:w9.cell? ⟨gb108,0,none⟩=some (.int .i64 a0_0):=(blk_cell BK108.out 0).trans rfl;have hcz10_1:w9.cell? ⟨gb108,1,none⟩=some (.int .i64 a0_1):=(blk_cell BK108.out 1).trans rfl;have hfz10_0:=blk_frozen BK108.out 0;have hfz10_1:=blk_frozen BK108.out 1)|((with_reducible refine gate_callee (f:=15) rfl ?_);refine goesL_ (some 4) rfl rfl Try.func15 (by kernel_rfl) rfl #[.agg #[.int .i64 a0_0,.int .i64 a0_1]] rfl (by (try simp only [List.map_toArray,List.map_cons,List.map_nil]);first|done|rfl|(simp only [List.length_drop,List.length_take];rfl)) ?_;(with_reducible refine (layout_Check.calls k a0_0 a0_1 t109 _ A2.out).mono ?_);rintro e w11 ⟨rfl,hb⟩;refine ⟨_,rfl,?_⟩;have n0_:=zm (zbB (g:=gb108) (o:=.cells #[.int .i64 a0_0,.int .i64 a0_1] 24 (0,0)) (by (with_reducible repeat (first|refine zbN ?_ _|refine zbD ?_|refine zbA ?_ _));exact BK108.out) hb);have n1_:=zm (below_step (by repeat (first|(with_reducible first|exact HB.out|apply zlA|apply zlN|apply zlD|refine zlS ?_ GE108.out)|exact HB.out)) hb);clear BK108 HB;have BK108:=n0_;have HB:=n1_;clear n0_ n1_;(try clear hb);(try clear hb2);(try clear hk);(try clear hi)))
  go_ret
  exact ⟨by first|rfl|(simp [errW_none,errW_some] <;> rfl)|(simp [*,errW_none,errW_some] <;> rfl),by repeat (first|(with_reducible first|exact HB.out|apply zlA|apply zlN|apply zlD|refine zlS ?_ GE108.out)|exact HB.out)⟩
def layout_Descs.f (k:Nat) (a0_0:Int) (a0_1:Int):Option (Int):=(layout_Groups.f k a0_0 a0_1).bind fun t112=>((layout_ceil.f (wrap64 (t112 * 16)) 256).bind fun t113=>(some t113))
theorem layout_Descs.mono:∀ a0 a1 k,LeO (layout_Descs.f k a0 a1) (layout_Descs.f (k + 1) a0 a1):=by
 intro a0 a1 k
 unfold layout_Descs.f
 repeat' first
   | (with_reducible exact layout_Groups.mono _ _ _)
   | (with_reducible exact LeO.refl _)
   | (with_reducible exact LeO.none _)
   | (with_reducible refine LeO.ite ?_ ?_)
   | (with_reducible refine LeO.bind ?_ (fun _=>?_))
   | exact layout_Groups.mono _ _ _
   | exact LeO.none _
   | refine LeO.ite ?_ ?_
   | refine LeO.bind ?_ (fun _=>?_)
set_option maxHeartbeats 8000000 in
set_option maxRecDepth 100000 in
theorem layout_Descs.calls (k:Nat) (a0_0:Int) (a0_1:Int) (r:Int) (w:World) (h:layout_Descs.f k a0_0 a0_1=some r) :
  Calls Try.prog 19 #[.agg #[.int .i64 a0_0,.int .i64 a0_1]] w fun e w'=>e=.returned (.int .i64 r)∧Below w.heap.size w w':=by
 have hu24:=Try.underlying24
 have HB:=zm (Below.refl w.heap.size w)
 have H:((layout_Groups.f k a0_0 a0_1).bind fun t112=>((layout_ceil.f (wrap64 (t112 * 16)) 256).bind fun t113=>(some t113)))=some r:=h
 clear h
 replace H:=Option.bind_eq_some_iff.mp H
 obtain ⟨t112,A20,H⟩:=H
 replace H:((layout_ceil.f (wrap64 (t112 * 16)) 256).bind fun t113=>(some t113))=some r:=H
 have A2:=zm A20
 clear A20
 replace H:=Option.bind_eq_some_iff.mp H
 obtain ⟨t113,A30,H⟩:=H
 replace H:(some t113)=some r:=H
 have A3:=zm A30
 clear A30
 obtain rfl:=Option.some.inj H
 go_enter Try.func19,Try.ntmps19
 go_wp2_with (first|((with_reducible refine gate_dst (N:=1) rfl ?_);refine box_event ?hg (N:=1) ?hd (cs:=#[.int .i64 a0_0,.int .i64 a0_1]) (t:=24) ?hr ?_;(case hd=>rfl);(case hg=>rfl);(case hr=>first|(go_simp;done)|(go_simp;rfl));intro gb111 hg w4 hbox hb;have n0_:=zm (below_step (by repeat (first|(with_reducible first|exact HB.out|apply zlA|apply zlN|apply zlD)|exact HB.out)) hb);have n1_:=zm (hbox);have n2_:=zm ((by rw [hg];exact (below_size (by repeat (first|(with_reducible first|exact HB.out|apply zlA|apply zlN|apply zlD)|exact HB.out))):w.heap.size≤gb111));have n3_:=zm ((by rw [hg];exact (below_size (by repeat (first|(with_reducible first|exact HB.out|apply zlA|apply zlN|apply zlD)|exact HB.out))):w.heap.size≤gb111));clear HB;have HB:=n0_;have BK111:=n1_;have GW111:=n2_;have GE111:=n3_;clear n0_ n1_ n2_ n3_;clear hb hbox hg;have hcz5_0:w4.cell? ⟨gb111,0,none⟩=some (.int .i64 a0_0):=(blk_cell BK111.out 0).trans rfl;have hcz5_1:w4.cell? ⟨gb111,1,none⟩=some (.int .i64 a0_1):=(blk_cell BK111.out 1).trans rfl;have hfz5_0:=blk_frozen BK111.out 0;have hfz5_1:=blk_frozen BK111.out 1)|((with_reducible refine gate_callee (f:=17) rfl ?_);refine goesL_ (some 4) rfl rfl Try.func17 (by kernel_rfl) rfl #[.agg #[.int .i64 a0_0,.int .i64 a0_1]] rfl (by (try simp only [List.map_toArray,List.map_cons,List.map_nil]);first|done|rfl|(simp only [List.length_drop,List.length_take];rfl)) ?_;(with_reducible refine (layout_Groups.calls k a0_0 a0_1 t112 _ A2.out).mono ?_);rintro e w6 ⟨rfl,hb⟩;refine ⟨_,rfl,?_⟩;have n0_:=zm (zbB (g:=gb111) (o:=.cells #[.int .i64 a0_0,.int .i64 a0_1] 24 (0,0)) (by (with_reducible repeat (first|refine zbN ?_ _|refine zbD ?_|refine zbA ?_ _));exact BK111.out) hb);have n1_:=zm (below_step (by repeat (first|(with_reducible first|exact HB.out|apply zlA|apply zlN|apply zlD|refine zlS ?_ GE111.out)|exact HB.out)) hb);clear BK111 HB;have BK111:=n0_;have HB:=n1_;clear n0_ n1_;(try clear hb);(try clear hb2);(try clear hk);(try clear hi))|((with_reducible refine gate_callee (f:=45) rfl ?_);refine goesL_ (some 6) rfl rfl Try.func45 (by kernel_rfl) rfl #[.int .i64 (wrap64 (t112 * 16)),.int .i64 256] rfl (by (try simp only [List.map_toArray,List.map_cons,List.map_nil]);first|done|rfl|(simp only [List.length_drop,List.length_take];rfl)) ?_;(with_reducible refine (layout_ceil.calls (wrap64 (t112 * 16)) 256 t113 _ A3.out).mono ?_);rintro e w' ⟨rfl,⟨nd,rfl⟩⟩;refine ⟨_,rfl,?_⟩))
 go_ret
 exact ⟨by first|rfl|(simp [errW_none,errW_some] <;> rfl)|(simp [*,errW_none,errW_some] <;> rfl),by repeat (first|(with_reducible first|exact HB.out|apply zlA|apply zlN|apply zlD|refine zlS ?_ GE111.out)|exact HB.out)⟩
def layout_group.f (k:Nat) (a0_0:Int) (a0_1:Int) (a1:Int):Option (Int × Int × Int × Int × Int × Int):=if a1=0 then ((layout_Descs.f k a0_0 a0_1).bind fun t117=>(some (wrap64 (a1 * 128),mn 128 (wrap64 (a0_0 - (wrap64 (a1 * 128)))),wrap64 (1 + t117),wrap64 ((wrap64 (1 + t117)) + 1),wrap64 ((wrap64 ((wrap64 (1 + t117)) + 1)) + 1),wrap64 ((wrap64 ((wrap64 ((wrap64 ((wrap64 (1 + t117)) + 1)) + 1)) + 4)) + a0_1)))) else (some (wrap64 (a1 * 128),mn 128 (wrap64 (a0_0 - (wrap64 (a1 * 128)))),wrap64 (a1 * 128),wrap64 ((wrap64 (a1 * 128)) + 1),wrap64 ((wrap64 ((wrap64 (a1 * 128)) + 1)) + 1),wrap64 ((wrap64 ((wrap64 ((wrap64 (a1 * 128)) + 1)) + 1)) + 4)))
theorem layout_group.mono:∀ a0 a1 a2 k,LeO (layout_group.f k a0 a1 a2) (layout_group.f (k + 1) a0 a1 a2):=by
 intro a0 a1 a2 k
 unfold layout_group.f
 repeat' first
   | (with_reducible exact layout_Descs.mono _ _ _)
   | (with_reducible exact LeO.refl _)
   | (with_reducible exact LeO.none _)
   | (with_reducible refine LeO.ite ?_ ?_)
   | (with_reducible refine LeO.bind ?_ (fun _=>?_))
   | exact layout_Descs.mono _ _ _
   | exact LeO.none _
   | refine LeO.ite ?_ ?_
   | refine LeO.bind ?_ (fun _=>?_)
set_option maxHeartbeats 8000000 in
set_option maxRecDepth 100000 in
theorem layout_group.calls (k:Nat) (a0_0:Int) (a0_1:Int) (a1:Int) (r1:Int) (r2:Int) (r3:Int) (r4:Int) (r5:Int) (r6:Int) (w:World) (h:layout_group.f k a0_0 a0_1 a1=some (r1,r2,r3,r4,r5,r6)) :
  Calls Try.prog 44 #[.agg #[.int .i64 a0_0,.int .i64 a0_1],.int .i64 a1] w fun e w'=>e=.returned (.agg #[.int .i64 r1,.int .i64 r2,.int .i64 r3,.int .i64 r4,.int .i64 r5,.int .i64 r6])∧Below w.heap.size w w':=by
 have hu24:=Try.underlying24
 have hu30:=Try.underlying30
 have HB:=zm (Below.refl w.heap.size w)
 have H:(if a1=0 then ((layout_Descs.f k a0_0 a0_1).bind fun t117=>(some (wrap64 (a1 * 128),mn 128 (wrap64 (a0_0 - (wrap64 (a1 * 128)))),wrap64 (1 + t117),wrap64 ((wrap64 (1 + t117)) + 1),wrap64 ((wrap64 ((wrap64 (1 + t117)) + 1)) + 1),wrap64 ((wrap64 ((wrap64 ((wrap64 ((wrap64 (1 + t117)) + 1)) + 1)) + 4)) + a0_1)))) else (some (wrap64 (a1 * 128),mn 128 (wrap64 (a0_0 - (wrap64 (a1 * 128)))),wrap64 (a1 * 128),wrap64 ((wrap64 (a1 * 128)) + 1),wrap64 ((wrap64 ((wrap64 (a1 * 128)) + 1)) + 1),wrap64 ((wrap64 ((wrap64 ((wrap64 (a1 * 128)) + 1)) + 1)) + 4))))=some (r1,r2,r3,r4,r5,r6):=h
 clear h
 obtain ⟨ji3,hji3⟩:∃ j_:Int,(mn 128 (wrap64 (a0_0 - (wrap64 (a1 * 128)))))=j_:=⟨_,rfl⟩
 replace H:(if a1=0 then ((layout_Descs.f k a0_0 a0_1).bind fun t117=>(some (wrap64 (a1 * 128),ji3,wrap64 (1 + t117),wrap64 ((wrap64 (1 + t117)) + 1),wrap64 ((wrap64 ((wrap64 (1 + t117)) + 1)) + 1),wrap64 ((wrap64 ((wrap64 ((wrap64 ((wrap64 (1 + t117)) + 1)) + 1)) + 4)) + a0_1)))) else (some (wrap64 (a1 * 128),ji3,wrap64 (a1 * 128),wrap64 ((wrap64 (a1 * 128)) + 1),wrap64 ((wrap64 ((wrap64 (a1 * 128)) + 1)) + 1),wrap64 ((wrap64 ((wrap64 ((wrap64 (a1 * 128)) + 1)) + 1)) + 4))))=some (r1,r2,r3,r4,r5,r6):=by first|(rw [hji3] at H;exact H)|(simp only [hji3] at H ⊢;exact H)
 (try (have hji3h:ji3≤128:=by (rw [← hji3];unfold mn;(repeat' split) <;> omega)))
 (try (have hji3g:ji3≤64:=by omega))
 have hji3_:(if (wrap64 (a0_0 - (wrap64 (a1 * 128)))) < 128 then (wrap64 (a0_0 - (wrap64 (a1 * 128)))) else 128)=ji3:=hji3
 by_cases c4:a1=0
 ·rw [if_pos c4] at H
  have c4b0:(a1 == 0)=true:=beq_iff_eq.mpr c4
  have c4b1:(a1 != 0)=false:=bne_eq_false_iff_eq.mpr c4
  clear c4
  replace H:=Option.bind_eq_some_iff.mp H
  obtain ⟨t117,A50,H⟩:=H
  replace H:(some (wrap64 (a1 * 128),ji3,wrap64 (1 + t117),wrap64 ((wrap64 (1 + t117)) + 1),wrap64 ((wrap64 ((wrap64 (1 + t117)) + 1)) + 1),wrap64 ((wrap64 ((wrap64 ((wrap64 ((wrap64 (1 + t117)) + 1)) + 1)) + 4)) + a0_1)))=some (r1,r2,r3,r4,r5,r6):=H
  have A5:=zm A50
  clear A50
  simp only [Option.some.injEq,Prod.mk.injEq] at H
  obtain ⟨rfl,rfl,rfl,rfl,rfl,rfl⟩:=H
  go_enter Try.func44,Try.ntmps44
  go_wp2_with (first|((with_reducible refine gate_dst (N:=2) rfl ?_);refine box_event ?hg (N:=2) ?hd (cs:=#[.int .i64 a0_0,.int .i64 a0_1]) (t:=24) ?hr ?_;(case hd=>rfl);(case hg=>rfl);(case hr=>first|(go_simp;done)|(go_simp;rfl));intro gb114 hg w6 hbox hb;have n0_:=zm (below_step (by repeat (first|(with_reducible first|exact HB.out|apply zlA|apply zlN|apply zlD)|exact HB.out)) hb);have n1_:=zm (hbox);have n2_:=zm ((by rw [hg];exact (below_size (by repeat (first|(with_reducible first|exact HB.out|apply zlA|apply zlN|apply zlD)|exact HB.out))):w.heap.size≤gb114));have n3_:=zm ((by rw [hg];exact (below_size (by repeat (first|(with_reducible first|exact HB.out|apply zlA|apply zlN|apply zlD)|exact HB.out))):w.heap.size≤gb114));clear HB;have HB:=n0_;have BK114:=n1_;have GW114:=n2_;have GE114:=n3_;clear n0_ n1_ n2_ n3_;clear hb hbox hg)|((with_reducible refine gate_dst (N:=4) rfl ?_);refine box_event ?hg (N:=4) ?hd (cs:=#[.int .i64 0,.int .i64 0,.int .i64 0,.int .i64 0,.int .i64 0,.int .i64 0]) (t:=30) ?hr ?_;(case hd=>rfl);(case hg=>rfl);(case hr=>first|(go_simp;done)|(go_simp;rfl));intro gb115 hg w7 hbox hb;have n0_:=zm (zbB (g:=gb114) (o:=.cells #[.int .i64 a0_0,.int .i64 a0_1] 24 (0,0)) (by (with_reducible repeat (first|refine zbN ?_ _|refine zbD ?_|refine zbA ?_ _));exact BK114.out) hb);have n1_:=zm (below_step (by repeat (first|(with_reducible first|exact HB.out|apply zlA|apply zlN|apply zlD|refine zlS ?_ GE114.out)|exact HB.out)) hb);have n2_:=zm (hbox);have n3_:=zm ((by rw [hg];exact (below_size (by repeat (first|(with_reducible first|exact HB.out|apply zlA|apply zlN|apply zlD|refine zlS ?_ GE114.out)|exact HB.out))):w.heap.size≤gb115));have n4_:=zm ((by rw [hg];exact (below_size (by repeat (first|(with_reducible first|exact HB.out|apply zlA|apply zlN|apply zlD|refine zlS ?_ GE114.out)|exact HB.out))):w.heap.size≤gb115));have n5_:=zm ((by rw [hg];exact Nat.ne_of_lt (blk_lt (g:=gb114) (o:=.cells #[.int .i64 a0_0,.int .i64 a0_1] 24 (0,0)) (by (with_reducible repeat (first|refine zbN ?_ _|refine zbD ?_|refine zbA ?_ _));exact BK114.out)):gb114≠gb115));have n6_:=zm ((by rw [hg];exact Nat.ne_of_gt (blk_lt (g:=gb114) (o:=.cells #[.int .i64 a0_0,.int .i64 a0_1] 24 (0,0)) (by (with_reducible repeat (first|refine zbN ?_ _|refine zbD ?_|refine zbA ?_ _));exact BK114.out)):gb115≠gb114));clear BK114 HB;have BK114:=n0_;have HB:=n1_;have BK115:=n2_;have GW115:=n3_;have GE115:=n4_;have NB114_115:=n5_;have NB115_114:=n6_;clear n0_ n1_ n2_ n3_ n4_ n5_ n6_;clear hb hbox hg)|((with_reducible refine gate_dst (N:=5) rfl ?_);refine box_event ?hg (N:=5) ?hd (cs:=#[.int .i64 0,.int .i64 0,.int .i64 0,.int .i64 0,.int .i64 0,.int .i64 0]) (t:=30) ?hr ?_;(case hd=>rfl);(case hg=>rfl);(case hr=>first|(go_simp;done)|(go_simp;rfl));intro gb116 hg w8 hbox hb;have n0_:=zm (zbB (g:=gb114) (o:=.cells #[.int .i64 a0_0,.int .i64 a0_1] 24 (0,0)) (by (with_reducible repeat (first|refine zbN ?_ _|refine zbD ?_|refine zbA ?_ _));exact BK114.out) hb);have n1_:=zm (zbB (g:=gb115) (o:=.cells #[.int .i64 0,.int .i64 0,.int .i64 0,.int .i64 0,.int .i64 0,.int .i64 0] 30 (0,0)) (by (with_reducible repeat (first|refine zbN ?_ _|refine zbD ?_|refine zbA ?_ _));exact BK115.out) hb);have n2_:=zm (below_step (by repeat (first|(with_reducible first|exact HB.out|apply zlA|apply zlN|apply zlD|refine zlS ?_ GE114.out|refine zlS ?_ GE115.out)|exact HB.out)) hb);have n3_:=zm (hbox);have n4_:=zm ((by rw [hg];exact (below_size (by repeat (first|(with_reducible first|exact HB.out|apply zlA|apply zlN|apply zlD|refine zlS ?_ GE114.out|refine zlS ?_ GE115.out)|exact HB.out))):w.heap.size≤gb116));have n5_:=zm ((by rw [hg];exact (below_size (by repeat (first|(with_reducible first|exact HB.out|apply zlA|apply zlN|apply zlD|refine zlS ?_ GE114.out|refine zlS ?_ GE115.out)|exact HB.out))):w.heap.size≤gb116));have n6_:=zm ((by rw [hg];exact Nat.ne_of_lt (blk_lt (g:=gb114) (o:=.cells #[.int .i64 a0_0,.int .i64 a0_1] 24 (0,0)) (by (with_reducible repeat (first|refine zbN ?_ _|refine zbD ?_|refine zbA ?_ _));exact BK114.out)):gb114≠gb116));have n7_:=zm ((by rw [hg];exact Nat.ne_of_gt (blk_lt (g:=gb114) (o:=.cells #[.int .i64 a0_0,.int .i64 a0_1] 24 (0,0)) (by (with_reducible repeat (first|refine zbN ?_ _|refine zbD ?_|refine zbA ?_ _));exact BK114.out)):gb116≠gb114));have n8_:=zm ((by rw [hg];exact Nat.ne_of_lt (blk_lt (g:=gb115) (o:=.cells #[.int .i64 0,.int .i64 0,.int .i64 0,.int .i64 0,.int .i64 0,.int .i64 0] 30 (0,0)) (by (with_reducible repeat (first|refine zbN ?_ _|refine zbD ?_|refine zbA ?_ _));exact BK115.out)):gb115≠gb116));have n9_:=zm ((by rw [hg];exact Nat.ne_of_gt (blk_lt (g:=gb115) (o:=.cells #[.int .i64 0,.int .i64 0,.int .i64 0,.int .i64 0,.int .i64 0,.int .i64 0] 30 (0,0)) (by (with_reducible repeat (first|refine zbN ?_ _|refine zbD ?_|refine zbA ?_ _));exact BK115.out)):gb116≠gb115));clear BK114 BK115 HB;have BK114:=n0_;have BK115:=n1_;have HB:=n2_;have BK116:=n3_;have GW116:=n4_;have GE116:=n5_;have NB114_116:=n6_;have NB116_114:=n7_;have NB115_116:=n8_;have NB116_115:=n9_;clear n0_ n1_ n2_ n3_ n4_ n5_ n6_ n7_ n8_ n9_;clear hb hbox hg;have hnb9:=NB116_114.out;have hnc9:=NB114_116.out;have hnb10:=NB116_115.out;have hnc10:=NB115_116.out;have hcz11_0:w8.cell? ⟨gb116,0,none⟩=some (.int .i64 0):=(blk_cell BK116.out 0).trans rfl;have hcz11_1:w8.cell? ⟨gb116,1,none⟩=some (.int .i64 0):=(blk_cell BK116.out 1).trans rfl;have hcz11_2:w8.cell? ⟨gb116,2,none⟩=some (.int .i64 0):=(blk_cell BK116.out 2).trans rfl;have hcz11_3:w8.cell? ⟨gb116,3,none⟩=some (.int .i64 0):=(blk_cell BK116.out 3).trans rfl;have hcz11_4:w8.cell? ⟨gb116,4,none⟩=some (.int .i64 0):=(blk_cell BK116.out 4).trans rfl;have hcz11_5:w8.cell? ⟨gb116,5,none⟩=some (.int .i64 0):=(blk_cell BK116.out 5).trans rfl;have hfz11_0:=blk_frozen BK116.out 0;have hfz11_1:=blk_frozen BK116.out 1;have hfz11_2:=blk_frozen BK116.out 2;have hfz11_3:=blk_frozen BK116.out 3;have hfz11_4:=blk_frozen BK116.out 4;have hfz11_5:=blk_frozen BK116.out 5;have hnb12:=NB114_115.out;have hnc12:=NB115_114.out;have hcz13_0:w8.cell? ⟨gb114,0,none⟩=some (.int .i64 a0_0):=(blk_cell BK114.out 0).trans rfl;have hcz13_1:w8.cell? ⟨gb114,1,none⟩=some (.int .i64 a0_1):=(blk_cell BK114.out 1).trans rfl;have hfz13_0:=blk_frozen BK114.out 0;have hfz13_1:=blk_frozen BK114.out 1)|((with_reducible refine gate_callee (f:=19) rfl ?_);refine goesL_ (some 22) rfl rfl Try.func19 (by kernel_rfl) rfl #[.agg #[.int .i64 a0_0,.int .i64 a0_1]] rfl (by (try simp only [List.map_toArray,List.map_cons,List.map_nil]);first|done|rfl|(simp only [List.length_drop,List.length_take];rfl)) ?_;(with_reducible refine (layout_Descs.calls k a0_0 a0_1 t117 _ A5.out).mono ?_);rintro e w14 ⟨rfl,hb⟩;refine ⟨_,rfl,?_⟩;have n0_:=zm (zbB (g:=gb114) (o:=.cells #[.int .i64 a0_0,.int .i64 a0_1] 24 (0,0)) (by (with_reducible repeat (first|refine zbN ?_ _|refine zbD ?_|refine zbA ?_ _));refine blk_far ?_ NB114_116.out _;(with_reducible repeat (first|refine zbN ?_ _|refine zbD ?_|refine zbA ?_ _));refine blk_far ?_ NB114_116.out _;(with_reducible repeat (first|refine zbN ?_ _|refine zbD ?_|refine zbA ?_ _));refine blk_far ?_ NB114_116.out _;(with_reducible repeat (first|refine zbN ?_ _|refine zbD ?_|refine zbA ?_ _));refine blk_far ?_ NB114_116.out _;(with_reducible repeat (first|refine zbN ?_ _|refine zbD ?_|refine zbA ?_ _));refine blk_far ?_ NB114_116.out _;(with_reducible repeat (first|refine zbN ?_ _|refine zbD ?_|refine zbA ?_ _));refine blk_far ?_ NB114_116.out _;(with_reducible repeat (first|refine zbN ?_ _|refine zbD ?_|refine zbA ?_ _));refine blk_far ?_ NB114_116.out _;(with_reducible repeat (first|refine zbN ?_ _|refine zbD ?_|refine zbA ?_ _));refine blk_far ?_ NB114_116.out _;(with_reducible repeat (first|refine zbN ?_ _|refine zbD ?_|refine zbA ?_ _));exact BK114.out) hb);have n1_:=zm (zbB (g:=gb115) (o:=.cells #[.int .i64 0,.int .i64 0,.int .i64 0,.int .i64 0,.int .i64 0,.int .i64 0] 30 (0,0)) (by (with_reducible repeat (first|refine zbN ?_ _|refine zbD ?_|refine zbA ?_ _));refine blk_far ?_ NB115_116.out _;(with_reducible repeat (first|refine zbN ?_ _|refine zbD ?_|refine zbA ?_ _));refine blk_far ?_ NB115_116.out _;(with_reducible repeat (first|refine zbN ?_ _|refine zbD ?_|refine zbA ?_ _));refine blk_far ?_ NB115_116.out _;(with_reducible repeat (first|refine zbN ?_ _|refine zbD ?_|refine zbA ?_ _));refine blk_far ?_ NB115_116.out _;(with_reducible repeat (first|refine zbN ?_ _|refine zbD ?_|refine zbA ?_ _));refine blk_far ?_ NB115_116.out _;(with_reducible repeat (first|refine zbN ?_ _|refine zbD ?_|refine zbA ?_ _));refine blk_far ?_ NB115_116.out _;(with_reducible repeat (first|refine zbN ?_ _|refine zbD ?_|refine zbA ?_ _));refine blk_far ?_ NB115_116.out _;(with_reducible repeat (first|refine zbN ?_ _|refine zbD ?_|refine zbA ?_ _));refine blk_far ?_ NB115_116.out _;(with_reducible repeat (first|refine zbN ?_ _|refine zbD ?_|refine zbA ?_ _));exact BK115.out) hb);have n2_:=zm (zbB (g:=gb116) (o:=.cells #[.int .i64 (wrap64 (a1 * 128)),.int .i64 ji3,.int .i64 (wrap64 (a1 * 128)),.int .i64 0,.int .i64 0,.int .i64 0] 30 (0,0)) (by (with_reducible repeat (first|refine zbN ?_ _|refine zbD ?_|refine zbA ?_ _));refine blk_put (cs:=#[.int .i64 (wrap64 (a1 * 128)),.int .i64 ji3,.int .i64 0,.int .i64 0,.int .i64 0,.int .i64 0]) ?_ 2 _ rfl;(with_reducible repeat (first|refine zbN ?_ _|refine zbD ?_|refine zbA ?_ _));refine blk_put (cs:=#[.int .i64 (wrap64 (a1 * 128)),.int .i64 0,.int .i64 0,.int .i64 0,.int .i64 0,.int .i64 0]) ?_ 1 _ rfl;(with_reducible repeat (first|refine zbN ?_ _|refine zbD ?_|refine zbA ?_ _));refine blk_put (cs:=#[.int .i64 (wrap64 (a1 * 128)),.int .i64 0,.int .i64 0,.int .i64 0,.int .i64 0,.int .i64 0]) ?_ 5 _ rfl;(with_reducible repeat (first|refine zbN ?_ _|refine zbD ?_|refine zbA ?_ _));refine blk_put (cs:=#[.int .i64 (wrap64 (a1 * 128)),.int .i64 0,.int .i64 0,.int .i64 0,.int .i64 0,.int .i64 0]) ?_ 4 _ rfl;(with_reducible repeat (first|refine zbN ?_ _|refine zbD ?_|refine zbA ?_ _));refine blk_put (cs:=#[.int .i64 (wrap64 (a1 * 128)),.int .i64 0,.int .i64 0,.int .i64 0,.int .i64 0,.int .i64 0]) ?_ 3 _ rfl;(with_reducible repeat (first|refine zbN ?_ _|refine zbD ?_|refine zbA ?_ _));refine blk_put (cs:=#[.int .i64 (wrap64 (a1 * 128)),.int .i64 0,.int .i64 0,.int .i64 0,.int .i64 0,.int .i64 0]) ?_ 2 _ rfl;(with_reducible repeat (first|refine zbN ?_ _|refine zbD ?_|refine zbA ?_ _));refine blk_put (cs:=#[.int .i64 (wrap64 (a1 * 128)),.int .i64 0,.int .i64 0,.int .i64 0,.int .i64 0,.int .i64 0]) ?_ 1 _ rfl;(with_reducible repeat (first|refine zbN ?_ _|refine zbD ?_|refine zbA ?_ _));refine blk_put (cs:=#[.int .i64 0,.int .i64 0,.int .i64 0,.int .i64 0,.int .i64 0,.int .i64 0]) ?_ 0 _ rfl;(with_reducible repeat (first|refine zbN ?_ _|refine zbD ?_|refine zbA ?_ _));exact BK116.out) hb);have n3_:=zm (below_step (by repeat (first|(with_reducible first|exact HB.out|apply zlA|apply zlN|apply zlD|refine zlS ?_ GE114.out|refine zlS ?_ GE115.out|refine zlS ?_ GE116.out)|exact HB.out)) hb);clear BK114 BK115 BK116 HB;have BK114:=n0_;have BK115:=n1_;have BK116:=n2_;have HB:=n3_;clear n0_ n1_ n2_ n3_;(try clear hb);(try clear hb2);(try clear hk);(try clear hi);have hcz15_0:w14.cell? ⟨gb116,0,none⟩=some (.int .i64 (wrap64 (a1 * 128))):=(blk_cell BK116.out 0).trans rfl;have hcz15_1:w14.cell? ⟨gb116,1,none⟩=some (.int .i64 ji3):=(blk_cell BK116.out 1).trans rfl;have hcz15_2:w14.cell? ⟨gb116,2,none⟩=some (.int .i64 (wrap64 (a1 * 128))):=(blk_cell BK116.out 2).trans rfl;have hcz15_3:w14.cell? ⟨gb116,3,none⟩=some (.int .i64 0):=(blk_cell BK116.out 3).trans rfl;have hcz15_4:w14.cell? ⟨gb116,4,none⟩=some (.int .i64 0):=(blk_cell BK116.out 4).trans rfl;have hcz15_5:w14.cell? ⟨gb116,5,none⟩=some (.int .i64 0):=(blk_cell BK116.out 5).trans rfl;have hfz15_0:=blk_frozen BK116.out 0;have hfz15_1:=blk_frozen BK116.out 1;have hfz15_2:=blk_frozen BK116.out 2;have hfz15_3:=blk_frozen BK116.out 3;have hfz15_4:=blk_frozen BK116.out 4;have hfz15_5:=blk_frozen BK116.out 5;have hcz16_0:w14.cell? ⟨gb114,0,none⟩=some (.int .i64 a0_0):=(blk_cell BK114.out 0).trans rfl;have hcz16_1:w14.cell? ⟨gb114,1,none⟩=some (.int .i64 a0_1):=(blk_cell BK114.out 1).trans rfl;have hfz16_0:=blk_frozen BK114.out 0;have hfz16_1:=blk_frozen BK114.out 1;have hcz17_0:w14.cell? ⟨gb115,0,none⟩=some (.int .i64 0):=(blk_cell BK115.out 0).trans rfl;have hcz17_1:w14.cell? ⟨gb115,1,none⟩=some (.int .i64 0):=(blk_cell BK115.out 1).trans rfl;have hcz17_2:w14.cell? ⟨gb115,2,none⟩=some (.int .i64 0):=(blk_cell BK115.out 2).trans rfl;have hcz17_3:w14.cell? ⟨gb115,3,none⟩=some (.int .i64 0):=(blk_cell BK115.out 3).trans rfl;have hcz17_4:w14.cell? ⟨gb115,4,none⟩=some (.int .i64 0):=(blk_cell BK115.out 4).trans rfl;have hcz17_5:w14.cell? ⟨gb115,5,none⟩=some (.int .i64 0):=(blk_cell BK115.out 5).trans rfl;have hfz17_0:=blk_frozen BK115.out 0;have hfz17_1:=blk_frozen BK115.out 1;have hfz17_2:=blk_frozen BK115.out 2;have hfz17_3:=blk_frozen BK115.out 3;have hfz17_4:=blk_frozen BK115.out 4;have hfz17_5:=blk_frozen BK115.out 5))
  refine bodyPost_ret (results_cell_row rfl _ _ gb115 30 #[.int .i64 (wrap64 (a1 * 128)),.int .i64 ji3,.int .i64 (wrap64 (1 + t117)),.int .i64 (wrap64 ((wrap64 (1 + t117)) + 1)),.int .i64 (wrap64 ((wrap64 ((wrap64 (1 + t117)) + 1)) + 1)),.int .i64 (wrap64 ((wrap64 ((wrap64 ((wrap64 ((wrap64 (1 + t117)) + 1)) + 1)) + 4)) + a0_1))] (0,0) _ rfl (by (with_reducible repeat (first|refine zbN ?_ _|refine zbD ?_|refine zbA ?_ _));refine blk_put (cs:=#[.int .i64 (wrap64 (a1 * 128)),.int .i64 ji3,.int .i64 (wrap64 (1 + t117)),.int .i64 (wrap64 ((wrap64 (1 + t117)) + 1)),.int .i64 (wrap64 ((wrap64 ((wrap64 (1 + t117)) + 1)) + 1)),.int .i64 0]) ?_ 5 _ rfl;(with_reducible repeat (first|refine zbN ?_ _|refine zbD ?_|refine zbA ?_ _));refine blk_put (cs:=#[.int .i64 (wrap64 (a1 * 128)),.int .i64 ji3,.int .i64 (wrap64 (1 + t117)),.int .i64 (wrap64 ((wrap64 (1 + t117)) + 1)),.int .i64 0,.int .i64 0]) ?_ 4 _ rfl;(with_reducible repeat (first|refine zbN ?_ _|refine zbD ?_|refine zbA ?_ _));refine blk_put (cs:=#[.int .i64 (wrap64 (a1 * 128)),.int .i64 ji3,.int .i64 (wrap64 (1 + t117)),.int .i64 0,.int .i64 0,.int .i64 0]) ?_ 3 _ rfl;(with_reducible repeat (first|refine zbN ?_ _|refine zbD ?_|refine zbA ?_ _));refine blk_put (cs:=#[.int .i64 (wrap64 (a1 * 128)),.int .i64 ji3,.int .i64 0,.int .i64 0,.int .i64 0,.int .i64 0]) ?_ 2 _ rfl;(with_reducible repeat (first|refine zbN ?_ _|refine zbD ?_|refine zbA ?_ _));refine blk_put (cs:=#[.int .i64 (wrap64 (a1 * 128)),.int .i64 0,.int .i64 0,.int .i64 0,.int .i64 0,.int .i64 0]) ?_ 1 _ rfl;(with_reducible repeat (first|refine zbN ?_ _|refine zbD ?_|refine zbA ?_ _));refine blk_put (cs:=#[.int .i64 0,.int .i64 0,.int .i64 0,.int .i64 0,.int .i64 0,.int .i64 0]) ?_ 0 _ rfl;(with_reducible repeat (first|refine zbN ?_ _|refine zbD ?_|refine zbA ?_ _));refine blk_far ?_ NB115_116.out _;(with_reducible repeat (first|refine zbN ?_ _|refine zbD ?_|refine zbA ?_ _));refine blk_far ?_ NB115_116.out _;(with_reducible repeat (first|refine zbN ?_ _|refine zbD ?_|refine zbA ?_ _));refine blk_far ?_ NB115_116.out _;(with_reducible repeat (first|refine zbN ?_ _|refine zbD ?_|refine zbA ?_ _));refine blk_far ?_ NB115_116.out _;(with_reducible repeat (first|refine zbN ?_ _|refine zbD ?_|refine zbA ?_ _));refine blk_far ?_ NB115_116.out _;(with_reducible repeat (first|refine zbN ?_ _|refine zbD ?_|refine zbA ?_ _));exact BK115.out) Try.underlying30 rfl (by kernel_rfl)) rfl ?_
  exact ⟨by first|rfl|(simp [errW_none,errW_some] <;> rfl)|(simp only [← hji3];first|rfl|(simp [errW_none,errW_some] <;> rfl))|(simp [*,errW_none,errW_some] <;> rfl),by repeat (first|(with_reducible first|exact HB.out|apply zlA|apply zlN|apply zlD|refine zlS ?_ GE114.out|refine zlS ?_ GE115.out|refine zlS ?_ GE116.out)|exact HB.out)⟩
 ·rw [if_neg c4] at H
  have c4b0:(a1 == 0)=false:=beq_eq_false_iff_ne.mpr c4
  have c4b1:(a1 != 0)=true:=bne_iff_ne.mpr c4
  simp only [Option.some.injEq,Prod.mk.injEq] at H
  obtain ⟨rfl,rfl,rfl,rfl,rfl,rfl⟩:=H
  go_enter Try.func44,Try.ntmps44
  go_wp2_with (first|((with_reducible refine gate_dst (N:=2) rfl ?_);refine box_event ?hg (N:=2) ?hd (cs:=#[.int .i64 a0_0,.int .i64 a0_1]) (t:=24) ?hr ?_;(case hd=>rfl);(case hg=>rfl);(case hr=>first|(go_simp;done)|(go_simp;rfl));intro gb114 hg w18 hbox hb;have n0_:=zm (below_step (by repeat (first|(with_reducible first|exact HB.out|apply zlA|apply zlN|apply zlD)|exact HB.out)) hb);have n1_:=zm (hbox);have n2_:=zm ((by rw [hg];exact (below_size (by repeat (first|(with_reducible first|exact HB.out|apply zlA|apply zlN|apply zlD)|exact HB.out))):w.heap.size≤gb114));have n3_:=zm ((by rw [hg];exact (below_size (by repeat (first|(with_reducible first|exact HB.out|apply zlA|apply zlN|apply zlD)|exact HB.out))):w.heap.size≤gb114));clear HB;have HB:=n0_;have BK114:=n1_;have GW114:=n2_;have GE114:=n3_;clear n0_ n1_ n2_ n3_;clear hb hbox hg)|((with_reducible refine gate_dst (N:=4) rfl ?_);refine box_event ?hg (N:=4) ?hd (cs:=#[.int .i64 0,.int .i64 0,.int .i64 0,.int .i64 0,.int .i64 0,.int .i64 0]) (t:=30) ?hr ?_;(case hd=>rfl);(case hg=>rfl);(case hr=>first|(go_simp;done)|(go_simp;rfl));intro gb115 hg w19 hbox hb;have n0_:=zm (zbB (g:=gb114) (o:=.cells #[.int .i64 a0_0,.int .i64 a0_1] 24 (0,0)) (by (with_reducible repeat (first|refine zbN ?_ _|refine zbD ?_|refine zbA ?_ _));exact BK114.out) hb);have n1_:=zm (below_step (by repeat (first|(with_reducible first|exact HB.out|apply zlA|apply zlN|apply zlD|refine zlS ?_ GE114.out)|exact HB.out)) hb);have n2_:=zm (hbox);have n3_:=zm ((by rw [hg];exact (below_size (by repeat (first|(with_reducible first|exact HB.out|apply zlA|apply zlN|apply zlD|refine zlS ?_ GE114.out)|exact HB.out))):w.heap.size≤gb115));have n4_:=zm ((by rw [hg];exact (below_size (by repeat (first|(with_reducible first|exact HB.out|apply zlA|apply zlN|apply zlD|refine zlS ?_ GE114.out)|exact HB.out))):w.heap.size≤gb115));have n5_:=zm ((by rw [hg];exact Nat.ne_of_lt (blk_lt (g:=gb114) (o:=.cells #[.int .i64 a0_0,.int .i64 a0_1] 24 (0,0)) (by (with_reducible repeat (first|refine zbN ?_ _|refine zbD ?_|refine zbA ?_ _));exact BK114.out)):gb114≠gb115));have n6_:=zm ((by rw [hg];exact Nat.ne_of_gt (blk_lt (g:=gb114) (o:=.cells #[.int .i64 a0_0,.int .i64 a0_1] 24 (0,0)) (by (with_reducible repeat (first|refine zbN ?_ _|refine zbD ?_|refine zbA ?_ _));exact BK114.out)):gb115≠gb114));clear BK114 HB;have BK114:=n0_;have HB:=n1_;have BK115:=n2_;have GW115:=n3_;have GE115:=n4_;have NB114_115:=n5_;have NB115_114:=n6_;clear n0_ n1_ n2_ n3_ n4_ n5_ n6_;clear hb hbox hg)|((with_reducible refine gate_dst (N:=5) rfl ?_);refine box_event ?hg (N:=5) ?hd (cs:=#[.int .i64 0,.int .i64 0,.int .i64 0,.int .i64 0,.int .i64 0,.int .i64 0]) (t:=30) ?hr ?_;(case hd=>rfl);(case hg=>rfl);(case hr=>first|(go_simp;done)|(go_simp;rfl));intro gb116 hg w20 hbox hb;have n0_:=zm (zbB (g:=gb114) (o:=.cells #[.int .i64 a0_0,.int .i64 a0_1] 24 (0,0)) (by (with_reducible repeat (first|refine zbN ?_ _|refine zbD ?_|refine zbA ?_ _));exact BK114.out) hb);have n1_:=zm (zbB (g:=gb115) (o:=.cells #[.int .i64 0,.int .i64 0,.int .i64 0,.int .i64 0,.int .i64 0,.int .i64 0] 30 (0,0)) (by (with_reducible repeat (first|refine zbN ?_ _|refine zbD ?_|refine zbA ?_ _));exact BK115.out) hb);have n2_:=zm (below_step (by repeat (first|(with_reducible first|exact HB.out|apply zlA|apply zlN|apply zlD|refine zlS ?_ GE114.out|refine zlS ?_ GE115.out)|exact HB.out)) hb);have n3_:=zm (hbox);have n4_:=zm ((by rw [hg];exact (below_size (by repeat (first|(with_reducible first|exact HB.out|apply zlA|apply zlN|apply zlD|refine zlS ?_ GE114.out|refine zlS ?_ GE115.out)|exact HB.out))):w.heap.size≤gb116));have n5_:=zm ((by rw [hg];exact (below_size (by repeat (first|(with_reducible first|exact HB.out|apply zlA|apply zlN|apply zlD|refine zlS ?_ GE114.out|refine zlS ?_ GE115.out)|exact HB.out))):w.heap.size≤gb116));have n6_:=zm ((by rw [hg];exact Nat.ne_of_lt (blk_lt (g:=gb114) (o:=.cells #[.int .i64 a0_0,.int .i64 a0_1] 24 (0,0)) (by (with_reducible repeat (first|refine zbN ?_ _|refine zbD ?_|refine zbA ?_ _));exact BK114.out)):gb114≠gb116));have n7_:=zm ((by rw [hg];exact Nat.ne_of_gt (blk_lt (g:=gb114) (o:=.cells #[.int .i64 a0_0,.int .i64 a0_1] 24 (0,0)) (by (with_reducible repeat (first|refine zbN ?_ _|refine zbD ?_|refine zbA ?_ _));exact BK114.out)):gb116≠gb114));have n8_:=zm ((by rw [hg];exact Nat.ne_of_lt (blk_lt (g:=gb115) (o:=.cells #[.int .i64 0,.int .i64 0,.int .i64 0,.int .i64 0,.int .i64 0,.int .i64 0] 30 (0,0)) (by (with_reducible repeat (first|refine zbN ?_ _|refine zbD ?_|refine zbA ?_ _));exact BK115.out)):gb115≠gb116));have n9_:=zm ((by rw [hg];exact Nat.ne_of_gt (blk_lt (g:=gb115) (o:=.cells #[.int .i64 0,.int .i64 0,.int .i64 0,.int .i64 0,.int .i64 0,.int .i64 0] 30 (0,0)) (by (with_reducible repeat (first|refine zbN ?_ _|refine zbD ?_|refine zbA ?_ _));exact BK115.out)):gb116≠gb115));clear BK114 BK115 HB;have BK114:=n0_;have BK115:=n1_;have HB:=n2_;have BK116:=n3_;have GW116:=n4_;have GE116:=n5_;have NB114_116:=n6_;have NB116_114:=n7_;have NB115_116:=n8_;have NB116_115:=n9_;clear n0_ n1_ n2_ n3_ n4_ n5_ n6_ n7_ n8_ n9_;clear hb hbox hg;have hnb21:=NB116_114.out;have hnc21:=NB114_116.out;have hnb22:=NB116_115.out;have hnc22:=NB115_116.out;have hcz23_0:w20.cell? ⟨gb116,0,none⟩=some (.int .i64 0):=(blk_cell BK116.out 0).trans rfl;have hcz23_1:w20.cell? ⟨gb116,1,none⟩=some (.int .i64 0):=(blk_cell BK116.out 1).trans rfl;have hcz23_2:w20.cell? ⟨gb116,2,none⟩=some (.int .i64 0):=(blk_cell BK116.out 2).trans rfl;have hcz23_3:w20.cell? ⟨gb116,3,none⟩=some (.int .i64 0):=(blk_cell BK116.out 3).trans rfl;have hcz23_4:w20.cell? ⟨gb116,4,none⟩=some (.int .i64 0):=(blk_cell BK116.out 4).trans rfl;have hcz23_5:w20.cell? ⟨gb116,5,none⟩=some (.int .i64 0):=(blk_cell BK116.out 5).trans rfl;have hfz23_0:=blk_frozen BK116.out 0;have hfz23_1:=blk_frozen BK116.out 1;have hfz23_2:=blk_frozen BK116.out 2;have hfz23_3:=blk_frozen BK116.out 3;have hfz23_4:=blk_frozen BK116.out 4;have hfz23_5:=blk_frozen BK116.out 5;have hnb24:=NB114_115.out;have hnc24:=NB115_114.out;have hcz25_0:w20.cell? ⟨gb114,0,none⟩=some (.int .i64 a0_0):=(blk_cell BK114.out 0).trans rfl;have hcz25_1:w20.cell? ⟨gb114,1,none⟩=some (.int .i64 a0_1):=(blk_cell BK114.out 1).trans rfl;have hfz25_0:=blk_frozen BK114.out 0;have hfz25_1:=blk_frozen BK114.out 1;have hcz26_0:w20.cell? ⟨gb115,0,none⟩=some (.int .i64 0):=(blk_cell BK115.out 0).trans rfl;have hcz26_1:w20.cell? ⟨gb115,1,none⟩=some (.int .i64 0):=(blk_cell BK115.out 1).trans rfl;have hcz26_2:w20.cell? ⟨gb115,2,none⟩=some (.int .i64 0):=(blk_cell BK115.out 2).trans rfl;have hcz26_3:w20.cell? ⟨gb115,3,none⟩=some (.int .i64 0):=(blk_cell BK115.out 3).trans rfl;have hcz26_4:w20.cell? ⟨gb115,4,none⟩=some (.int .i64 0):=(blk_cell BK115.out 4).trans rfl;have hcz26_5:w20.cell? ⟨gb115,5,none⟩=some (.int .i64 0):=(blk_cell BK115.out 5).trans rfl;have hfz26_0:=blk_frozen BK115.out 0;have hfz26_1:=blk_frozen BK115.out 1;have hfz26_2:=blk_frozen BK115.out 2;have hfz26_3:=blk_frozen BK115.out 3;have hfz26_4:=blk_frozen BK115.out 4;have hfz26_5:=blk_frozen BK115.out 5))
  refine bodyPost_ret (results_cell_row rfl _ _ gb115 30 #[.int .i64 (wrap64 (a1 * 128)),.int .i64 ji3,.int .i64 (wrap64 (a1 * 128)),.int .i64 (wrap64 ((wrap64 (a1 * 128)) + 1)),.int .i64 (wrap64 ((wrap64 ((wrap64 (a1 * 128)) + 1)) + 1)),.int .i64 (wrap64 ((wrap64 ((wrap64 ((wrap64 (a1 * 128)) + 1)) + 1)) + 4))] (0,0) _ rfl (by (with_reducible repeat (first|refine zbN ?_ _|refine zbD ?_|refine zbA ?_ _));refine blk_put (cs:=#[.int .i64 (wrap64 (a1 * 128)),.int .i64 ji3,.int .i64 (wrap64 (a1 * 128)),.int .i64 (wrap64 ((wrap64 (a1 * 128)) + 1)),.int .i64 (wrap64 ((wrap64 ((wrap64 (a1 * 128)) + 1)) + 1)),.int .i64 0]) ?_ 5 _ rfl;(with_reducible repeat (first|refine zbN ?_ _|refine zbD ?_|refine zbA ?_ _));refine blk_put (cs:=#[.int .i64 (wrap64 (a1 * 128)),.int .i64 ji3,.int .i64 (wrap64 (a1 * 128)),.int .i64 (wrap64 ((wrap64 (a1 * 128)) + 1)),.int .i64 0,.int .i64 0]) ?_ 4 _ rfl;(with_reducible repeat (first|refine zbN ?_ _|refine zbD ?_|refine zbA ?_ _));refine blk_put (cs:=#[.int .i64 (wrap64 (a1 * 128)),.int .i64 ji3,.int .i64 (wrap64 (a1 * 128)),.int .i64 0,.int .i64 0,.int .i64 0]) ?_ 3 _ rfl;(with_reducible repeat (first|refine zbN ?_ _|refine zbD ?_|refine zbA ?_ _));refine blk_put (cs:=#[.int .i64 (wrap64 (a1 * 128)),.int .i64 ji3,.int .i64 0,.int .i64 0,.int .i64 0,.int .i64 0]) ?_ 2 _ rfl;(with_reducible repeat (first|refine zbN ?_ _|refine zbD ?_|refine zbA ?_ _));refine blk_put (cs:=#[.int .i64 (wrap64 (a1 * 128)),.int .i64 0,.int .i64 0,.int .i64 0,.int .i64 0,.int .i64 0]) ?_ 1 _ rfl;(with_reducible repeat (first|refine zbN ?_ _|refine zbD ?_|refine zbA ?_ _));refine blk_put (cs:=#[.int .i64 0,.int .i64 0,.int .i64 0,.int .i64 0,.int .i64 0,.int .i64 0]) ?_ 0 _ rfl;(with_reducible repeat (first|refine zbN ?_ _|refine zbD ?_|refine zbA ?_ _));refine blk_far ?_ NB115_116.out _;(with_reducible repeat (first|refine zbN ?_ _|refine zbD ?_|refine zbA ?_ _));refine blk_far ?_ NB115_116.out _;(with_reducible repeat (first|refine zbN ?_ _|refine zbD ?_|refine zbA ?_ _));refine blk_far ?_ NB115_116.out _;(with_reducible repeat (first|refine zbN ?_ _|refine zbD ?_|refine zbA ?_ _));refine blk_far ?_ NB115_116.out _;(with_reducible repeat (first|refine zbN ?_ _|refine zbD ?_|refine zbA ?_ _));refine blk_far ?_ NB115_116.out _;(with_reducible repeat (first|refine zbN ?_ _|refine zbD ?_|refine zbA ?_ _));refine blk_far ?_ NB115_116.out _;(with_reducible repeat (first|refine zbN ?_ _|refine zbD ?_|refine zbA ?_ _));refine blk_far ?_ NB115_116.out _;(with_reducible repeat (first|refine zbN ?_ _|refine zbD ?_|refine zbA ?_ _));refine blk_far ?_ NB115_116.out _;(with_reducible repeat (first|refine zbN ?_ _|refine zbD ?_|refine zbA ?_ _));refine blk_far ?_ NB115_116.out _;(with_reducible repeat (first|refine zbN ?_ _|refine zbD ?_|refine zbA ?_ _));refine blk_far ?_ NB115_116.out _;(with_reducible repeat (first|refine zbN ?_ _|refine zbD ?_|refine zbA ?_ _));refine blk_far ?_ NB115_116.out _;(with_reducible repeat (first|refine zbN ?_ _|refine zbD ?_|refine zbA ?_ _));exact BK115.out) Try.underlying30 rfl (by kernel_rfl)) rfl ?_
  exact ⟨by first|rfl|(simp [errW_none,errW_some] <;> rfl)|(simp only [← hji3];first|rfl|(simp [errW_none,errW_some] <;> rfl))|(simp [*,errW_none,errW_some] <;> rfl),by repeat (first|(with_reducible first|exact HB.out|apply zlA|apply zlN|apply zlD|refine zlS ?_ GE114.out|refine zlS ?_ GE115.out|refine zlS ?_ GE116.out)|exact HB.out)⟩
end Go.Proofs.Ytbdnmdmfnopihaa.Print
end
section
namespace Go.Proofs.Ytbdnmdmfnopihaa.Print
open Go.RowKit Go.Proofs.YtbdnmdmfnopihaaW.PrintWords Go.Proofs.YtbdnmdmfnopihaaW.PrintLast Go.Proofs.YtbdnmdmfnopihaaW.PrintMore
attribute [local go_sem] max2_int min2_int max_two min_two max_three min_three max_four min_four   -- for this text's walks alone
attribute [local go_sem ↓] Go.Proofs.Ytbdnmdmfnopihaa.Sem.isSome_setCell
attribute [local go_sem] Go.Instr.field Go.asAgg
set_option linter.unusedVariables false
set_option linter.unusedSimpArgs false
theorem eqA30 (d:Nat) (w:World) (x0 y0:Int) (x1 y1:Int) (x2 y2:Int) (x3 y3:Int) (x4 y4:Int) (x5 y5:Int) :
  (Op.equalIn (d + 2) 30 (.agg #[.int .i64 x0,.int .i64 x1,.int .i64 x2,.int .i64 x3,.int .i64 x4,.int .i64 x5]) (.agg #[.int .i64 y0,.int .i64 y1,.int .i64 y2,.int .i64 y3,.int .i64 y4,.int .i64 y5])).run Try.prog w=.ok (x0 == y0 && (x1 == y1 && (x2 == y2 && (x3 == y3 && (x4 == y4 && (x5 == y5)))))) w:=by
 refine eqA_of Try.underlying30 (by kernel_rfl) ?_
 refine eqf_cons (by rfl) (by go_simp;rfl) (by go_simp;rfl) (by go_simp) ?_
 refine eqf_cons (by rfl) (by go_simp;rfl) (by go_simp;rfl) (by go_simp) ?_
 refine eqf_cons (by rfl) (by go_simp;rfl) (by go_simp;rfl) (by go_simp) ?_
 refine eqf_cons (by rfl) (by go_simp;rfl) (by go_simp;rfl) (by go_simp) ?_
 refine eqf_cons (by rfl) (by go_simp;rfl) (by go_simp;rfl) (by go_simp) ?_
 exact eqf_last (by rfl) (by go_simp;rfl) (by go_simp;rfl) (by go_simp)
end Go.Proofs.Ytbdnmdmfnopihaa.Print
end
section
namespace Go.Proofs.Ytbdnmdmfnopihaa.Print
open Go.RowKit Go.Proofs.YtbdnmdmfnopihaaW.PrintWords Go.Proofs.YtbdnmdmfnopihaaW.PrintLast Go.Proofs.YtbdnmdmfnopihaaW.PrintMore
attribute [local go_sem] max2_int min2_int max_two min_two max_three min_three max_four min_four   -- for this text's walks alone
attribute [local go_sem ↓] Go.Proofs.Ytbdnmdmfnopihaa.Sem.isSome_setCell
attribute [local go_sem] Go.Instr.field Go.asAgg
set_option linter.unusedVariables false
set_option linter.unusedSimpArgs false
attribute [local go_sem high] eqA30
def layout_Group.f (k:Nat) (a0_0:Int) (a0_1:Int) (a1:Int):Option (Int × Int × Int × Int × Int × Int × Int):=(layout_Check.f k a0_0 a0_1).bind fun t120=>(if t120=0 then (if a1 < 0 then (some (0,0,0,0,0,0,1)) else ((layout_Groups.f k a0_0 a0_1).bind fun t121=>(if a1 ≥ t121 then (some (0,0,0,0,0,0,1)) else ((layout_group.f k a0_0 a0_1 a1).bind fun bt122=>(some (bt122.1,bt122.2.1,bt122.2.2.1,bt122.2.2.2.1,bt122.2.2.2.2.1,bt122.2.2.2.2.2,0)))))) else (some (0,0,0,0,0,0,t120)))
theorem layout_Group.mono:∀ a0 a1 a2 k,LeO (layout_Group.f k a0 a1 a2) (layout_Group.f (k + 1) a0 a1 a2):=by
 intro a0 a1 a2 k
 unfold layout_Group.f
 repeat' first
   | (with_reducible exact layout_Check.mono _ _ _)
   | (with_reducible exact layout_Groups.mono _ _ _)
   | (with_reducible exact layout_group.mono _ _ _ _)
   | (with_reducible exact LeO.refl _)
   | (with_reducible exact LeO.none _)
   | (with_reducible refine LeO.ite ?_ ?_)
   | (with_reducible refine LeO.bind ?_ (fun _=>?_))
   | exact layout_Check.mono _ _ _
   | exact layout_Groups.mono _ _ _
   | exact layout_group.mono _ _ _ _
   | exact LeO.none _
   | refine LeO.ite ?_ ?_
   | refine LeO.bind ?_ (fun _=>?_)
set_option maxHeartbeats 8000000 in
set_option maxRecDepth 100000 in
theorem layout_Group.calls (k:Nat) (a0_0:Int) (a0_1:Int) (a1:Int) (r1:Int) (r2:Int) (r3:Int) (r4:Int) (r5:Int) (r6:Int) (r7:Int) (w:World) (h:layout_Group.f k a0_0 a0_1 a1=some (r1,r2,r3,r4,r5,r6,r7)) :
  Calls Try.prog 13 #[.agg #[.int .i64 a0_0,.int .i64 a0_1],.int .i64 a1] w fun e w'=>e=.returned (.tuple #[.agg #[.int .i64 r1,.int .i64 r2,.int .i64 r3,.int .i64 r4,.int .i64 r5,.int .i64 r6],.int .i64 r7])∧Below w.heap.size w w':=by
 have hu24:=Try.underlying24
 have hu30:=Try.underlying30
 have HB:=zm (Below.refl w.heap.size w)
 have H:((layout_Check.f k a0_0 a0_1).bind fun t120=>(if t120=0 then (if a1 < 0 then (some (0,0,0,0,0,0,1)) else ((layout_Groups.f k a0_0 a0_1).bind fun t121=>(if a1 ≥ t121 then (some (0,0,0,0,0,0,1)) else ((layout_group.f k a0_0 a0_1 a1).bind fun bt122=>(some (bt122.1,bt122.2.1,bt122.2.2.1,bt122.2.2.2.1,bt122.2.2.2.2.1,bt122.2.2.2.2.2,0)))))) else (some (0,0,0,0,0,0,t120))))=some (r1,r2,r3,r4,r5,r6,r7):=h
 clear h
 replace H:=Option.bind_eq_some_iff.mp H
 obtain ⟨t120,A30,H⟩:=H
 replace H:(if t120=0 then (if a1 < 0 then (some (0,0,0,0,0,0,1)) else ((layout_Groups.f k a0_0 a0_1).bind fun t121=>(if a1 ≥ t121 then (some (0,0,0,0,0,0,1)) else ((layout_group.f k a0_0 a0_1 a1).bind fun bt122=>(some (bt122.1,bt122.2.1,bt122.2.2.1,bt122.2.2.2.1,bt122.2.2.2.2.1,bt122.2.2.2.2.2,0)))))) else (some (0,0,0,0,0,0,t120)))=some (r1,r2,r3,r4,r5,r6,r7):=H
 have A3:=zm A30
 clear A30
 by_cases c4:t120=0
 ·rw [if_pos c4] at H
  have c4b0:(t120 == 0)=true:=beq_iff_eq.mpr c4
  have c4b1:(t120 != 0)=false:=bne_eq_false_iff_eq.mpr c4
  clear c4
  by_cases c5:a1 < 0
  ·rw [if_pos c5] at H
   have c5b0:decide (a1 < 0)=true:=decide_eq_true c5
   clear c5
   simp only [Option.some.injEq,Prod.mk.injEq] at H
   obtain ⟨rfl,rfl,rfl,rfl,rfl,rfl,rfl⟩:=H
   go_enter Try.func13,Try.ntmps13
   go_wp2_with (first|((with_reducible refine gate_dst (N:=2) rfl ?_);refine box_event ?hg (N:=2) ?hd (cs:=#[.int .i64 a0_0,.int .i64 a0_1]) (t:=24) ?hr ?_;(case hd=>rfl);(case hg=>rfl);(case hr=>first|(go_simp;done)|(go_simp;rfl));intro gb118 hg w6 hbox hb;have n0_:=zm (below_step (by repeat (first|(with_reducible first|exact HB.out|apply zlA|apply zlN|apply zlD)|exact HB.out)) hb);have n1_:=zm (hbox);have n2_:=zm ((by rw [hg];exact (below_size (by repeat (first|(with_reducible first|exact HB.out|apply zlA|apply zlN|apply zlD)|exact HB.out))):w.heap.size≤gb118));have n3_:=zm ((by rw [hg];exact (below_size (by repeat (first|(with_reducible first|exact HB.out|apply zlA|apply zlN|apply zlD)|exact HB.out))):w.heap.size≤gb118));clear HB;have HB:=n0_;have BK118:=n1_;have GW118:=n2_;have GE118:=n3_;clear n0_ n1_ n2_ n3_;clear hb hbox hg)|((with_reducible refine gate_dst (N:=4) rfl ?_);refine box_event ?hg (N:=4) ?hd (cs:=#[.int .i64 0,.int .i64 0,.int .i64 0,.int .i64 0,.int .i64 0,.int .i64 0]) (t:=30) ?hr ?_;(case hd=>rfl);(case hg=>rfl);(case hr=>first|(go_simp;done)|(go_simp;rfl));intro gb119 hg w7 hbox hb;have n0_:=zm (zbB (g:=gb118) (o:=.cells #[.int .i64 a0_0,.int .i64 a0_1] 24 (0,0)) (by (with_reducible repeat (first|refine zbN ?_ _|refine zbD ?_|refine zbA ?_ _));exact BK118.out) hb);have n1_:=zm (below_step (by repeat (first|(with_reducible first|exact HB.out|apply zlA|apply zlN|apply zlD|refine zlS ?_ GE118.out)|exact HB.out)) hb);have n2_:=zm (hbox);have n3_:=zm ((by rw [hg];exact (below_size (by repeat (first|(with_reducible first|exact HB.out|apply zlA|apply zlN|apply zlD|refine zlS ?_ GE118.out)|exact HB.out))):w.heap.size≤gb119));have n4_:=zm ((by rw [hg];exact (below_size (by repeat (first|(with_reducible first|exact HB.out|apply zlA|apply zlN|apply zlD|refine zlS ?_ GE118.out)|exact HB.out))):w.heap.size≤gb119));have n5_:=zm ((by rw [hg];exact Nat.ne_of_lt (blk_lt (g:=gb118) (o:=.cells #[.int .i64 a0_0,.int .i64 a0_1] 24 (0,0)) (by (with_reducible repeat (first|refine zbN ?_ _|refine zbD ?_|refine zbA ?_ _));exact BK118.out)):gb118≠gb119));have n6_:=zm ((by rw [hg];exact Nat.ne_of_gt (blk_lt (g:=gb118) (o:=.cells #[.int .i64 a0_0,.int .i64 a0_1] 24 (0,0)) (by (with_reducible repeat (first|refine zbN ?_ _|refine zbD ?_|refine zbA ?_ _));exact BK118.out)):gb119≠gb118));clear BK118 HB;have BK118:=n0_;have HB:=n1_;have BK119:=n2_;have GW119:=n3_;have GE119:=n4_;have NB118_119:=n5_;have NB119_118:=n6_;clear n0_ n1_ n2_ n3_ n4_ n5_ n6_;clear hb hbox hg;have hnb8:=NB118_119.out;have hnc8:=NB119_118.out;have hcz9_0:w7.cell? ⟨gb118,0,none⟩=some (.int .i64 a0_0):=(blk_cell BK118.out 0).trans rfl;have hcz9_1:w7.cell? ⟨gb118,1,none⟩=some (.int .i64 a0_1):=(blk_cell BK118.out 1).trans rfl;have hfz9_0:=blk_frozen BK118.out 0;have hfz9_1:=blk_frozen BK118.out 1)|((with_reducible refine gate_callee (f:=15) rfl ?_);refine goesL_ (some 8) rfl rfl Try.func15 (by kernel_rfl) rfl #[.agg #[.int .i64 a0_0,.int .i64 a0_1]] rfl (by (try simp only [List.map_toArray,List.map_cons,List.map_nil]);first|done|rfl|(simp only [List.length_drop,List.length_take];rfl)) ?_;(with_reducible refine (layout_Check.calls k a0_0 a0_1 t120 _ A3.out).mono ?_);rintro e w10 ⟨rfl,hb⟩;refine ⟨_,rfl,?_⟩;have n0_:=zm (zbB (g:=gb118) (o:=.cells #[.int .i64 a0_0,.int .i64 a0_1] 24 (0,0)) (by (with_reducible repeat (first|refine zbN ?_ _|refine zbD ?_|refine zbA ?_ _));exact BK118.out) hb);have n1_:=zm (zbB (g:=gb119) (o:=.cells #[.int .i64 0,.int .i64 0,.int .i64 0,.int .i64 0,.int .i64 0,.int .i64 0] 30 (0,0)) (by (with_reducible repeat (first|refine zbN ?_ _|refine zbD ?_|refine zbA ?_ _));exact BK119.out) hb);have n2_:=zm (below_step (by repeat (first|(with_reducible first|exact HB.out|apply zlA|apply zlN|apply zlD|refine zlS ?_ GE118.out|refine zlS ?_ GE119.out)|exact HB.out)) hb);clear BK118 BK119 HB;have BK118:=n0_;have BK119:=n1_;have HB:=n2_;clear n0_ n1_ n2_;(try clear hb);(try clear hb2);(try clear hk);(try clear hi);have hcz11_0:w10.cell? ⟨gb119,0,none⟩=some (.int .i64 0):=(blk_cell BK119.out 0).trans rfl;have hcz11_1:w10.cell? ⟨gb119,1,none⟩=some (.int .i64 0):=(blk_cell BK119.out 1).trans rfl;have hcz11_2:w10.cell? ⟨gb119,2,none⟩=some (.int .i64 0):=(blk_cell BK119.out 2).trans rfl;have hcz11_3:w10.cell? ⟨gb119,3,none⟩=some (.int .i64 0):=(blk_cell BK119.out 3).trans rfl;have hcz11_4:w10.cell? ⟨gb119,4,none⟩=some (.int .i64 0):=(blk_cell BK119.out 4).trans rfl;have hcz11_5:w10.cell? ⟨gb119,5,none⟩=some (.int .i64 0):=(blk_cell BK119.out 5).trans rfl;have hfz11_0:=blk_frozen BK119.out 0;have hfz11_1:=blk_frozen BK119.out 1;have hfz11_2:=blk_frozen BK119.out 2;have hfz11_3:=blk_frozen BK119.out 3;have hfz11_4:=blk_frozen BK119.out 4;have hfz11_5:=blk_frozen BK119.out 5))
   refine bodyPost_ret (results_ct rfl _ _ gb119 30 #[.int .i64 0,.int .i64 0,.int .i64 0,.int .i64 0,.int .i64 0,.int .i64 0] (0,0) _ rfl (by (with_reducible repeat (first|refine zbN ?_ _|refine zbD ?_|refine zbA ?_ _));refine blk_put (cs:=#[.int .i64 0,.int .i64 0,.int .i64 0,.int .i64 0,.int .i64 0,.int .i64 0]) ?_ 5 _ rfl;(with_reducible repeat (first|refine zbN ?_ _|refine zbD ?_|refine zbA ?_ _));refine blk_put (cs:=#[.int .i64 0,.int .i64 0,.int .i64 0,.int .i64 0,.int .i64 0,.int .i64 0]) ?_ 4 _ rfl;(with_reducible repeat (first|refine zbN ?_ _|refine zbD ?_|refine zbA ?_ _));refine blk_put (cs:=#[.int .i64 0,.int .i64 0,.int .i64 0,.int .i64 0,.int .i64 0,.int .i64 0]) ?_ 3 _ rfl;(with_reducible repeat (first|refine zbN ?_ _|refine zbD ?_|refine zbA ?_ _));refine blk_put (cs:=#[.int .i64 0,.int .i64 0,.int .i64 0,.int .i64 0,.int .i64 0,.int .i64 0]) ?_ 2 _ rfl;(with_reducible repeat (first|refine zbN ?_ _|refine zbD ?_|refine zbA ?_ _));refine blk_put (cs:=#[.int .i64 0,.int .i64 0,.int .i64 0,.int .i64 0,.int .i64 0,.int .i64 0]) ?_ 1 _ rfl;(with_reducible repeat (first|refine zbN ?_ _|refine zbD ?_|refine zbA ?_ _));refine blk_put (cs:=#[.int .i64 0,.int .i64 0,.int .i64 0,.int .i64 0,.int .i64 0,.int .i64 0]) ?_ 0 _ rfl;(with_reducible repeat (first|refine zbN ?_ _|refine zbD ?_|refine zbA ?_ _));exact BK119.out) Try.underlying30 rfl (by kernel_rfl)) rfl ?_
   exact ⟨by first|rfl|(simp [errW_none,errW_some] <;> rfl)|(simp [*,errW_none,errW_some] <;> rfl),by repeat (first|(with_reducible first|exact HB.out|apply zlA|apply zlN|apply zlD|refine zlS ?_ GE118.out|refine zlS ?_ GE119.out)|exact HB.out)⟩
  ·rw [if_neg c5] at H
   have c5b0:decide (a1 < 0)=false:=decide_eq_false c5
   clear c5
   replace H:=Option.bind_eq_some_iff.mp H
   obtain ⟨t121,A120,H⟩:=H
   replace H:(if a1 ≥ t121 then (some (0,0,0,0,0,0,1)) else ((layout_group.f k a0_0 a0_1 a1).bind fun bt122=>(some (bt122.1,bt122.2.1,bt122.2.2.1,bt122.2.2.2.1,bt122.2.2.2.2.1,bt122.2.2.2.2.2,0))))=some (r1,r2,r3,r4,r5,r6,r7):=H
   have A12:=zm A120
   clear A120
   by_cases c13:a1 ≥ t121
   ·rw [if_pos c13] at H
    have c13b0:decide (t121≤a1)=true:=decide_eq_true c13
    clear c13
    simp only [Option.some.injEq,Prod.mk.injEq] at H
    obtain ⟨rfl,rfl,rfl,rfl,rfl,rfl,rfl⟩:=H
    go_enter Try.func13,Try.ntmps13
    go_wp2_with (first|((with_reducible refine gate_dst (N:=2) rfl ?_);refine box_event ?hg (N:=2) ?hd (cs:=#[.int .i64 a0_0,.int .i64 a0_1]) (t:=24) ?hr ?_;(case hd=>rfl);(case hg=>rfl);(case hr=>first|(go_simp;done)|(go_simp;rfl));intro gb118 hg w14 hbox hb;have n0_:=zm (below_step (by repeat (first|(with_reducible first|exact HB.out|apply zlA|apply zlN|apply zlD)|exact HB.out)) hb);have n1_:=zm (hbox);have n2_:=zm ((by rw [hg];exact (below_size (by repeat (first|(with_reducible first|exact HB.out|apply zlA|apply zlN|apply zlD)|exact HB.out))):w.heap.size≤gb118));have n3_:=zm ((by rw [hg];exact (below_size (by repeat (first|(with_reducible first|exact HB.out|apply zlA|apply zlN|apply zlD)|exact HB.out))):w.heap.size≤gb118));clear HB;have HB:=n0_;have BK118:=n1_;have GW118:=n2_;have GE118:=n3_;clear n0_ n1_ n2_ n3_;clear hb hbox hg)|((with_reducible refine gate_dst (N:=4) rfl ?_);refine box_event ?hg (N:=4) ?hd (cs:=#[.int .i64 0,.int .i64 0,.int .i64 0,.int .i64 0,.int .i64 0,.int .i64 0]) (t:=30) ?hr ?_;(case hd=>rfl);(case hg=>rfl);(case hr=>first|(go_simp;done)|(go_simp;rfl));intro gb119 hg w15 hbox hb;have n0_:=zm (zbB (g:=gb118) (o:=.cells #[.int .i64 a0_0,.int .i64 a0_1] 24 (0,0)) (by (with_reducible repeat (first|refine zbN ?_ _|refine zbD ?_|refine zbA ?_ _));exact BK118.out) hb);have n1_:=zm (below_step (by repeat (first|(with_reducible first|exact HB.out|apply zlA|apply zlN|apply zlD|refine zlS ?_ GE118.out)|exact HB.out)) hb);have n2_:=zm (hbox);have n3_:=zm ((by rw [hg];exact (below_size (by repeat (first|(with_reducible first|exact HB.out|apply zlA|apply zlN|apply zlD|refine zlS ?_ GE118.out)|exact HB.out))):w.heap.size≤gb119));have n4_:=zm ((by rw [hg];exact (below_size (by repeat (first|(with_reducible first|exact HB.out|apply zlA|apply zlN|apply zlD|refine zlS ?_ GE118.out)|exact HB.out))):w.heap.size≤gb119));have n5_:=zm ((by rw [hg];exact Nat.ne_of_lt (blk_lt (g:=gb118) (o:=.cells #[.int .i64 a0_0,.int .i64 a0_1] 24 (0,0)) (by (with_reducible repeat (first|refine zbN ?_ _|refine zbD ?_|refine zbA ?_ _));exact BK118.out)):gb118≠gb119));have n6_:=zm ((by rw [hg];exact Nat.ne_of_gt (blk_lt (g:=gb118) (o:=.cells #[.int .i64 a0_0,.int .i64 a0_1] 24 (0,0)) (by (with_reducible repeat (first|refine zbN ?_ _|refine zbD ?_|refine zbA ?_ _));exact BK118.out)):gb119≠gb118));clear BK118 HB;have BK118:=n0_;have HB:=n1_;have BK119:=n2_;have GW119:=n3_;have GE119:=n4_;have NB118_119:=n5_;have NB119_118:=n6_;clear n0_ n1_ n2_ n3_ n4_ n5_ n6_;clear hb hbox hg;have hnb16:=NB118_119.out;have hnc16:=NB119_118.out;have hcz17_0:w15.cell? ⟨gb118,0,none⟩=some (.int .i64 a0_0):=(blk_cell BK118.out 0).trans rfl;have hcz17_1:w15.cell? ⟨gb118,1,none⟩=some (.int .i64 a0_1):=(blk_cell BK118.out 1).trans rfl;have hfz17_0:=blk_frozen BK118.out 0;have hfz17_1:=blk_frozen BK118.out 1)|((with_reducible refine gate_callee (f:=15) rfl ?_);refine goesL_ (some 8) rfl rfl Try.func15 (by kernel_rfl) rfl #[.agg #[.int .i64 a0_0,.int .i64 a0_1]] rfl (by (try simp only [List.map_toArray,List.map_cons,List.map_nil]);first|done|rfl|(simp only [List.length_drop,List.length_take];rfl)) ?_;(with_reducible refine (layout_Check.calls k a0_0 a0_1 t120 _ A3.out).mono ?_);rintro e w18 ⟨rfl,hb⟩;refine ⟨_,rfl,?_⟩;have n0_:=zm (zbB (g:=gb118) (o:=.cells #[.int .i64 a0_0,.int .i64 a0_1] 24 (0,0)) (by (with_reducible repeat (first|refine zbN ?_ _|refine zbD ?_|refine zbA ?_ _));exact BK118.out) hb);have n1_:=zm (zbB (g:=gb119) (o:=.cells #[.int .i64 0,.int .i64 0,.int .i64 0,.int .i64 0,.int .i64 0,.int .i64 0] 30 (0,0)) (by (with_reducible repeat (first|refine zbN ?_ _|refine zbD ?_|refine zbA ?_ _));exact BK119.out) hb);have n2_:=zm (below_step (by repeat (first|(with_reducible first|exact HB.out|apply zlA|apply zlN|apply zlD|refine zlS ?_ GE118.out|refine zlS ?_ GE119.out)|exact HB.out)) hb);clear BK118 BK119 HB;have BK118:=n0_;have BK119:=n1_;have HB:=n2_;clear n0_ n1_ n2_;(try clear hb);(try clear hb2);(try clear hk);(try clear hi);have hcz19_0:w18.cell? ⟨gb118,0,none⟩=some (.int .i64 a0_0):=(blk_cell BK118.out 0).trans rfl;have hcz19_1:w18.cell? ⟨gb118,1,none⟩=some (.int .i64 a0_1):=(blk_cell BK118.out 1).trans rfl;have hfz19_0:=blk_frozen BK118.out 0;have hfz19_1:=blk_frozen BK118.out 1)|(go_at_call 17;(with_reducible refine (layout_Groups.calls k a0_0 a0_1 t121 _ A12.out).mono ?_);rintro e w20 ⟨rfl,hb⟩;have n0_:=zm (zbB (g:=gb118) (o:=.cells #[.int .i64 a0_0,.int .i64 a0_1] 24 (0,0)) (by (with_reducible repeat (first|refine zbN ?_ _|refine zbD ?_|refine zbA ?_ _));exact BK118.out) hb);have n1_:=zm (zbB (g:=gb119) (o:=.cells #[.int .i64 0,.int .i64 0,.int .i64 0,.int .i64 0,.int .i64 0,.int .i64 0] 30 (0,0)) (by (with_reducible repeat (first|refine zbN ?_ _|refine zbD ?_|refine zbA ?_ _));exact BK119.out) hb);have n2_:=zm (below_step (by repeat (first|(with_reducible first|exact HB.out|apply zlA|apply zlN|apply zlD|refine zlS ?_ GE118.out|refine zlS ?_ GE119.out)|exact HB.out)) hb);clear BK118 BK119 HB;have BK118:=n0_;have BK119:=n1_;have HB:=n2_;clear n0_ n1_ n2_;(try clear hb);(try clear hb2);(try clear hk);(try clear hi);have hcz21_0:w20.cell? ⟨gb119,0,none⟩=some (.int .i64 0):=(blk_cell BK119.out 0).trans rfl;have hcz21_1:w20.cell? ⟨gb119,1,none⟩=some (.int .i64 0):=(blk_cell BK119.out 1).trans rfl;have hcz21_2:w20.cell? ⟨gb119,2,none⟩=some (.int .i64 0):=(blk_cell BK119.out 2).trans rfl;have hcz21_3:w20.cell? ⟨gb119,3,none⟩=some (.int .i64 0):=(blk_cell BK119.out 3).trans rfl;have hcz21_4:w20.cell? ⟨gb119,4,none⟩=some (.int .i64 0):=(blk_cell BK119.out 4).trans rfl;have hcz21_5:w20.cell? ⟨gb119,5,none⟩=some (.int .i64 0):=(blk_cell BK119.out 5).trans rfl;have hfz21_0:=blk_frozen BK119.out 0;have hfz21_1:=blk_frozen BK119.out 1;have hfz21_2:=blk_frozen BK119.out 2;have hfz21_3:=blk_frozen BK119.out 3;have hfz21_4:=blk_frozen BK119.out 4;have hfz21_5:=blk_frozen BK119.out 5))
    refine bodyPost_ret (results_ct rfl _ _ gb119 30 #[.int .i64 0,.int .i64 0,.int .i64 0,.int .i64 0,.int .i64 0,.int .i64 0] (0,0) _ rfl (by (with_reducible repeat (first|refine zbN ?_ _|refine zbD ?_|refine zbA ?_ _));refine blk_put (cs:=#[.int .i64 0,.int .i64 0,.int .i64 0,.int .i64 0,.int .i64 0,.int .i64 0]) ?_ 5 _ rfl;(with_reducible repeat (first|refine zbN ?_ _|refine zbD ?_|refine zbA ?_ _));refine blk_put (cs:=#[.int .i64 0,.int .i64 0,.int .i64 0,.int .i64 0,.int .i64 0,.int .i64 0]) ?_ 4 _ rfl;(with_reducible repeat (first|refine zbN ?_ _|refine zbD ?_|refine zbA ?_ _));refine blk_put (cs:=#[.int .i64 0,.int .i64 0,.int .i64 0,.int .i64 0,.int .i64 0,.int .i64 0]) ?_ 3 _ rfl;(with_reducible repeat (first|refine zbN ?_ _|refine zbD ?_|refine zbA ?_ _));refine blk_put (cs:=#[.int .i64 0,.int .i64 0,.int .i64 0,.int .i64 0,.int .i64 0,.int .i64 0]) ?_ 2 _ rfl;(with_reducible repeat (first|refine zbN ?_ _|refine zbD ?_|refine zbA ?_ _));refine blk_put (cs:=#[.int .i64 0,.int .i64 0,.int .i64 0,.int .i64 0,.int .i64 0,.int .i64 0]) ?_ 1 _ rfl;(with_reducible repeat (first|refine zbN ?_ _|refine zbD ?_|refine zbA ?_ _));refine blk_put (cs:=#[.int .i64 0,.int .i64 0,.int .i64 0,.int .i64 0,.int .i64 0,.int .i64 0]) ?_ 0 _ rfl;(with_reducible repeat (first|refine zbN ?_ _|refine zbD ?_|refine zbA ?_ _));exact BK119.out) Try.underlying30 rfl (by kernel_rfl)) rfl ?_
    exact ⟨by first|rfl|(simp [errW_none,errW_some] <;> rfl)|(simp [*,errW_none,errW_some] <;> rfl),by repeat (first|(with_reducible first|exact HB.out|apply zlA|apply zlN|apply zlD|refine zlS ?_ GE118.out|refine zlS ?_ GE119.out)|exact HB.out)⟩
   ·rw [if_neg c13] at H
    have c13b0:decide (t121≤a1)=false:=decide_eq_false c13
    clear c13
    replace H:=Option.bind_eq_some_iff.mp H
    obtain ⟨⟨t122,t123,t124,t125,t126,t127⟩,A220,H⟩:=H
    replace H:(some (t122,t123,t124,t125,t126,t127,0))=some (r1,r2,r3,r4,r5,r6,r7):=H
    have A22:=zm A220
    clear A220
    simp only [Option.some.injEq,Prod.mk.injEq] at H
    obtain ⟨rfl,rfl,rfl,rfl,rfl,rfl,rfl⟩:=H
    go_enter Try.func13,Try.ntmps13
    go_wp2_with (first|((with_reducible refine gate_dst (N:=2) rfl ?_);refine box_event ?hg (N:=2) ?hd (cs:=#[.int .i64 a0_0,.int .i64 a0_1]) (t:=24) ?hr ?_;(case hd=>rfl);(case hg=>rfl);(case hr=>first|(go_simp;done)|(go_simp;rfl));intro gb118 hg w23 hbox hb;have n0_:=zm (below_step (by repeat (first|(with_reducible first|exact HB.out|apply zlA|apply zlN|apply zlD)|exact HB.out)) hb);have n1_:=zm (hbox);have n2_:=zm ((by rw [hg];exact (below_size (by repeat (first|(with_reducible first|exact HB.out|apply zlA|apply zlN|apply zlD)|exact HB.out))):w.heap.size≤gb118));have n3_:=zm ((by rw [hg];exact (below_size (by repeat (first|(with_reducible first|exact HB.out|apply zlA|apply zlN|apply zlD)|exact HB.out))):w.heap.size≤gb118));clear HB;have HB:=n0_;have BK118:=n1_;have GW118:=n2_;have GE118:=n3_;clear n0_ n1_ n2_ n3_;clear hb hbox hg)|((with_reducible refine gate_dst (N:=4) rfl ?_);refine box_event ?hg (N:=4) ?hd (cs:=#[.int .i64 0,.int .i64 0,.int .i64 0,.int .i64 0,.int .i64 0,.int .i64 0]) (t:=30) ?hr ?_;(case hd=>rfl);(case hg=>rfl);(case hr=>first|(go_simp;done)|(go_simp;rfl));intro gb119 hg w24 hbox hb;have n0_:=zm (zbB (g:=gb118) (o:=.cells #[.int .i64 a0_0,.int .i64 a0_1] 24 (0,0)) (by (with_reducible repeat (first|refine zbN ?_ _|refine zbD ?_|refine zbA ?_ _));exact BK118.out) hb);have n1_:=zm (below_step (by repeat (first|(with_reducible first|exact HB.out|apply zlA|apply zlN|apply zlD|refine zlS ?_ GE118.out)|exact HB.out)) hb);have n2_:=zm (hbox);have n3_:=zm ((by rw [hg];exact (below_size (by repeat (first|(with_reducible first|exact HB.out|apply zlA|apply zlN|apply zlD|refine zlS ?_ GE118.out)|exact HB.out))):w.heap.size≤gb119));have n4_:=zm ((by rw [hg];exact (below_size (by repeat (first|(with_reducible first|exact HB.out|apply zlA|apply zlN|apply zlD|refine zlS ?_ GE118.out)|exact HB.out))):w.heap.size≤gb119));have n5_:=zm ((by rw [hg];exact Nat.ne_of_lt (blk_lt (g:=gb118) (o:=.cells #[.int .i64 a0_0,.int .i64 a0_1] 24 (0,0)) (by (with_reducible repeat (first|refine zbN ?_ _|refine zbD ?_|refine zbA ?_ _));exact BK118.out)):gb118≠gb119));have n6_:=zm ((by rw [hg];exact Nat.ne_of_gt (blk_lt (g:=gb118) (o:=.cells #[.int .i64 a0_0,.int .i64 a0_1] 24 (0,0)) (by (with_reducible repeat (first|refine zbN ?_ _|refine zbD ?_|refine zbA ?_ _));exact BK118.out)):gb119≠gb118));clear BK118 HB;have BK118:=n0_;have HB:=n1_;have BK119:=n2_;have GW119:=n3_;have GE119:=n4_;have NB118_119:=n5_;have NB119_118:=n6_;clear n0_ n1_ n2_ n3_ n4_ n5_ n6_;clear hb hbox hg;have hnb25:=NB118_119.out;have hnc25:=NB119_118.out;have hcz26_0:w24.cell? ⟨gb118,0,none⟩=some (.int .i64 a0_0):=(blk_cell BK118.out 0).trans rfl;have hcz26_1:w24.cell? ⟨gb118,1,none⟩=some (.int .i64 a0_1):=(blk_cell BK118.out 1).trans rfl;have hfz26_0:=blk_frozen BK118.out 0;have hfz26_1:=blk_frozen BK118.out 1)|((with_reducible refine gate_callee (f:=15) rfl ?_);refine goesL_ (some 8) rfl rfl Try.func15 (by kernel_rfl) rfl #[.agg #[.int .i64 a0_0,.int .i64 a0_1]] rfl (by (try simp only [List.map_toArray,List.map_cons,List.map_nil]);first|done|rfl|(simp only [List.length_drop,List.length_take];rfl)) ?_;(with_reducible refine (layout_Check.calls k a0_0 a0_1 t120 _ A3.out).mono ?_);rintro e w27 ⟨rfl,hb⟩;refine ⟨_,rfl,?_⟩;have n0_:=zm (zbB (g:=gb118) (o:=.cells #[.int .i64 a0_0,.int .i64 a0_1] 24 (0,0)) (by (with_reducible repeat (first|refine zbN ?_ _|refine zbD ?_|refine zbA ?_ _));exact BK118.out) hb);have n1_:=zm (zbB (g:=gb119) (o:=.cells #[.int .i64 0,.int .i64 0,.int .i64 0,.int .i64 0,.int .i64 0,.int .i64 0] 30 (0,0)) (by (with_reducible repeat (first|refine zbN ?_ _|refine zbD ?_|refine zbA ?_ _));exact BK119.out) hb);have n2_:=zm (below_step (by repeat (first|(with_reducible first|exact HB.out|apply zlA|apply zlN|apply zlD|refine zlS ?_ GE118.out|refine zlS ?_ GE119.out)|exact HB.out)) hb);clear BK118 BK119 HB;have BK118:=n0_;have BK119:=n1_;have HB:=n2_;clear n0_ n1_ n2_;(try clear hb);(try clear hb2);(try clear hk);(try clear hi);have hcz28_0:w27.cell? ⟨gb118,0,none⟩=some (.int .i64 a0_0):=(blk_cell BK118.out 0).trans rfl;have hcz28_1:w27.cell? ⟨gb118,1,none⟩=some (.int .i64 a0_1):=(blk_cell BK118.out 1).trans rfl;have hfz28_0:=blk_frozen BK118.out 0;have hfz28_1:=blk_frozen BK118.out 1)|(go_at_call 17;(with_reducible refine (layout_Groups.calls k a0_0 a0_1 t121 _ A12.out).mono ?_);rintro e w29 ⟨rfl,hb⟩;have n0_:=zm (zbB (g:=gb118) (o:=.cells #[.int .i64 a0_0,.int .i64 a0_1] 24 (0,0)) (by (with_reducible repeat (first|refine zbN ?_ _|refine zbD ?_|refine zbA ?_ _));exact BK118.out) hb);have n1_:=zm (zbB (g:=gb119) (o:=.cells #[.int .i64 0,.int .i64 0,.int .i64 0,.int .i64 0,.int .i64 0,.int .i64 0] 30 (0,0)) (by (with_reducible repeat (first|refine zbN ?_ _|refine zbD ?_|refine zbA ?_ _));exact BK119.out) hb);have n2_:=zm (below_step (by repeat (first|(with_reducible first|exact HB.out|apply zlA|apply zlN|apply zlD|refine zlS ?_ GE118.out|refine zlS ?_ GE119.out)|exact HB.out)) hb);clear BK118 BK119 HB;have BK118:=n0_;have BK119:=n1_;have HB:=n2_;clear n0_ n1_ n2_;(try clear hb);(try clear hb2);(try clear hk);(try clear hi);have hcz30_0:w29.cell? ⟨gb118,0,none⟩=some (.int .i64 a0_0):=(blk_cell BK118.out 0).trans rfl;have hcz30_1:w29.cell? ⟨gb118,1,none⟩=some (.int .i64 a0_1):=(blk_cell BK118.out 1).trans rfl;have hfz30_0:=blk_frozen BK118.out 0;have hfz30_1:=blk_frozen BK118.out 1)|((with_reducible refine gate_callee (f:=44) rfl ?_);refine goesL_ (some 24) rfl rfl Try.func44 (by kernel_rfl) rfl #[.agg #[.int .i64 a0_0,.int .i64 a0_1],.int .i64 a1] rfl (by (try simp only [List.map_toArray,List.map_cons,List.map_nil]);first|done|rfl|(simp only [List.length_drop,List.length_take];rfl)) ?_;(with_reducible refine (layout_group.calls k a0_0 a0_1 a1 t122 t123 t124 t125 t126 t127 _ A22.out).mono ?_);rintro e w31 ⟨rfl,hb⟩;refine ⟨_,rfl,?_⟩;have n0_:=zm (zbB (g:=gb118) (o:=.cells #[.int .i64 a0_0,.int .i64 a0_1] 24 (0,0)) (by (with_reducible repeat (first|refine zbN ?_ _|refine zbD ?_|refine zbA ?_ _));exact BK118.out) hb);have n1_:=zm (zbB (g:=gb119) (o:=.cells #[.int .i64 0,.int .i64 0,.int .i64 0,.int .i64 0,.int .i64 0,.int .i64 0] 30 (0,0)) (by (with_reducible repeat (first|refine zbN ?_ _|refine zbD ?_|refine zbA ?_ _));exact BK119.out) hb);have n2_:=zm (below_step (by repeat (first|(with_reducible first|exact HB.out|apply zlA|apply zlN|apply zlD|refine zlS ?_ GE118.out|refine zlS ?_ GE119.out)|exact HB.out)) hb);clear BK118 BK119 HB;have BK118:=n0_;have BK119:=n1_;have HB:=n2_;clear n0_ n1_ n2_;(try clear hb);(try clear hb2);(try clear hk);(try clear hi);have hcz32_0:w31.cell? ⟨gb119,0,none⟩=some (.int .i64 0):=(blk_cell BK119.out 0).trans rfl;have hcz32_1:w31.cell? ⟨gb119,1,none⟩=some (.int .i64 0):=(blk_cell BK119.out 1).trans rfl;have hcz32_2:w31.cell? ⟨gb119,2,none⟩=some (.int .i64 0):=(blk_cell BK119.out 2).trans rfl;have hcz32_3:w31.cell? ⟨gb119,3,none⟩=some (.int .i64 0):=(blk_cell BK119.out 3).trans rfl;have hcz32_4:w31.cell? ⟨gb119,4,none⟩=some (.int .i64 0):=(blk_cell BK119.out 4).trans rfl;have hcz32_5:w31.cell? ⟨gb119,5,none⟩=some (.int .i64 0):=(blk_cell BK119.out 5).trans rfl;have hfz32_0:=blk_frozen BK119.out 0;have hfz32_1:=blk_frozen BK119.out 1;have hfz32_2:=blk_frozen BK119.out 2;have hfz32_3:=blk_frozen BK119.out 3;have hfz32_4:=blk_frozen BK119.out 4;have hfz32_5:=blk_frozen BK119.out 5))
    refine bodyPost_ret (results_ct rfl _ _ gb119 30 #[.int .i64 t122,.int .i64 t123,.int .i64 t124,.int .i64 t125,.int .i64 t126,.int .i64 t127] (0,0) _ rfl (by (with_reducible repeat (first|refine zbN ?_ _|refine zbD ?_|refine zbA ?_ _));refine blk_put (cs:=#[.int .i64 t122,.int .i64 t123,.int .i64 t124,.int .i64 t125,.int .i64 t126,.int .i64 0]) ?_ 5 _ rfl;(with_reducible repeat (first|refine zbN ?_ _|refine zbD ?_|refine zbA ?_ _));refine blk_put (cs:=#[.int .i64 t122,.int .i64 t123,.int .i64 t124,.int .i64 t125,.int .i64 0,.int .i64 0]) ?_ 4 _ rfl;(with_reducible repeat (first|refine zbN ?_ _|refine zbD ?_|refine zbA ?_ _));refine blk_put (cs:=#[.int .i64 t122,.int .i64 t123,.int .i64 t124,.int .i64 0,.int .i64 0,.int .i64 0]) ?_ 3 _ rfl;(with_reducible repeat (first|refine zbN ?_ _|refine zbD ?_|refine zbA ?_ _));refine blk_put (cs:=#[.int .i64 t122,.int .i64 t123,.int .i64 0,.int .i64 0,.int .i64 0,.int .i64 0]) ?_ 2 _ rfl;(with_reducible repeat (first|refine zbN ?_ _|refine zbD ?_|refine zbA ?_ _));refine blk_put (cs:=#[.int .i64 t122,.int .i64 0,.int .i64 0,.int .i64 0,.int .i64 0,.int .i64 0]) ?_ 1 _ rfl;(with_reducible repeat (first|refine zbN ?_ _|refine zbD ?_|refine zbA ?_ _));refine blk_put (cs:=#[.int .i64 0,.int .i64 0,.int .i64 0,.int .i64 0,.int .i64 0,.int .i64 0]) ?_ 0 _ rfl;(with_reducible repeat (first|refine zbN ?_ _|refine zbD ?_|refine zbA ?_ _));exact BK119.out) Try.underlying30 rfl (by kernel_rfl)) rfl ?_
    exact ⟨by first|rfl|(simp [errW_none,errW_some] <;> rfl)|(simp [*,errW_none,errW_some] <;> rfl),by repeat (first|(with_reducible first|exact HB.out|apply zlA|apply zlN|apply zlD|refine zlS ?_ GE118.out|refine zlS ?_ GE119.out)|exact HB.out)⟩
 ·rw [if_neg c4] at H
  have c4b0:(t120 == 0)=false:=beq_eq_false_iff_ne.mpr c4
  have c4b1:(t120 != 0)=true:=bne_iff_ne.mpr c4
  simp only [Option.some.injEq,Prod.mk.injEq] at H
  obtain ⟨rfl,rfl,rfl,rfl,rfl,rfl,rfl⟩:=H
  go_enter Try.func13,Try.ntmps13
  go_wp2_with (first|((with_reducible refine gate_dst (N:=2) rfl ?_);refine box_event ?hg (N:=2) ?hd (cs:=#[.int .i64 a0_0,.int .i64 a0_1]) (t:=24) ?hr ?_;(case hd=>rfl);(case hg=>rfl);(case hr=>first|(go_simp;done)|(go_simp;rfl));intro gb118 hg w33 hbox hb;have n0_:=zm (below_step (by repeat (first|(with_reducible first|exact HB.out|apply zlA|apply zlN|apply zlD)|exact HB.out)) hb);have n1_:=zm (hbox);have n2_:=zm ((by rw [hg];exact (below_size (by repeat (first|(with_reducible first|exact HB.out|apply zlA|apply zlN|apply zlD)|exact HB.out))):w.heap.size≤gb118));have n3_:=zm ((by rw [hg];exact (below_size (by repeat (first|(with_reducible first|exact HB.out|apply zlA|apply zlN|apply zlD)|exact HB.out))):w.heap.size≤gb118));clear HB;have HB:=n0_;have BK118:=n1_;have GW118:=n2_;have GE118:=n3_;clear n0_ n1_ n2_ n3_;clear hb hbox hg)|((with_reducible refine gate_dst (N:=4) rfl ?_);refine box_event ?hg (N:=4) ?hd (cs:=#[.int .i64 0,.int .i64 0,.int .i64 0,.int .i64 0,.int .i64 0,.int .i64 0]) (t:=30) ?hr ?_;(case hd=>rfl);(case hg=>rfl);(case hr=>first|(go_simp;done)|(go_simp;rfl));intro gb119 hg w34 hbox hb;have n0_:=zm (zbB (g:=gb118) (o:=.cells #[.int .i64 a0_0,.int .i64 a0_1] 24 (0,0)) (by (with_reducible repeat (first|refine zbN ?_ _|refine zbD ?_|refine zbA ?_ _));exact BK118.out) hb);have n1_:=zm (below_step (by repeat (first|(with_reducible first|exact HB.out|apply zlA|apply zlN|apply zlD|refine zlS ?_ GE118.out)|exact HB.out)) hb);have n2_:=zm (hbox);have n3_:=zm ((by rw [hg];exact (below_size (by repeat (first|(with_reducible first|exact HB.out|apply zlA|apply zlN|apply zlD|refine zlS ?_ GE118.out)|exact HB.out))):w.heap.size≤gb119));have n4_:=zm ((by rw [hg];exact (below_size (by repeat (first|(with_reducible first|exact HB.out|apply zlA|apply zlN|apply zlD|refine zlS ?_ GE118.out)|exact HB.out))):w.heap.size≤gb119));have n5_:=zm ((by rw [hg];exact Nat.ne_of_lt (blk_lt (g:=gb118) (o:=.cells #[.int .i64 a0_0,.int .i64 a0_1] 24 (0,0)) (by (with_reducible repeat (first|refine zbN ?_ _|refine zbD ?_|refine zbA ?_ _));exact BK118.out)):gb118≠gb119));have n6_:=zm ((by rw [hg];exact Nat.ne_of_gt (blk_lt (g:=gb118) (o:=.cells #[.int .i64 a0_0,.int .i64 a0_1] 24 (0,0)) (by (with_reducible repeat (first|refine zbN ?_ _|refine zbD ?_|refine zbA ?_ _));exact BK118.out)):gb119≠gb118));clear BK118 HB;have BK118:=n0_;have HB:=n1_;have BK119:=n2_;have GW119:=n3_;have GE119:=n4_;have NB118_119:=n5_;have NB119_118:=n6_;clear n0_ n1_ n2_ n3_ n4_ n5_ n6_;clear hb hbox hg;have hnb35:=NB118_119.out;have hnc35:=NB119_118.out;have hcz36_0:w34.cell? ⟨gb118,0,none⟩=some (.int .i64 a0_0):=(blk_cell BK118.out 0).trans rfl;have hcz36_1:w34.cell? ⟨gb118,1,none⟩=some (.int .i64 a0_1):=(blk_cell BK118.out 1).trans rfl;have hfz36_0:=blk_frozen BK118.out 0;have hfz36_1:=blk_frozen BK118.out 1)|((with_reducible refine gate_callee (f:=15) rfl ?_);refine goesL_ (some 8) rfl rfl Try.func15 (by kernel_rfl) rfl #[.agg #[.int .i64 a0_0,.int .i64 a0_1]] rfl (by (try simp only [List.map_toArray,List.map_cons,List.map_nil]);first|done|rfl|(simp only [List.length_drop,List.length_take];rfl)) ?_;(with_reducible refine (layout_Check.calls k a0_0 a0_1 t120 _ A3.out).mono ?_);rintro e w37 ⟨rfl,hb⟩;refine ⟨_,rfl,?_⟩;have n0_:=zm (zbB (g:=gb118) (o:=.cells #[.int .i64 a0_0,.int .i64 a0_1] 24 (0,0)) (by (with_reducible repeat (first|refine zbN ?_ _|refine zbD ?_|refine zbA ?_ _));exact BK118.out) hb);have n1_:=zm (zbB (g:=gb119) (o:=.cells #[.int .i64 0,.int .i64 0,.int .i64 0,.int .i64 0,.int .i64 0,.int .i64 0] 30 (0,0)) (by (with_reducible repeat (first|refine zbN ?_ _|refine zbD ?_|refine zbA ?_ _));exact BK119.out) hb);have n2_:=zm (below_step (by repeat (first|(with_reducible first|exact HB.out|apply zlA|apply zlN|apply zlD|refine zlS ?_ GE118.out|refine zlS ?_ GE119.out)|exact HB.out)) hb);clear BK118 BK119 HB;have BK118:=n0_;have BK119:=n1_;have HB:=n2_;clear n0_ n1_ n2_;(try clear hb);(try clear hb2);(try clear hk);(try clear hi);have hcz38_0:w37.cell? ⟨gb119,0,none⟩=some (.int .i64 0):=(blk_cell BK119.out 0).trans rfl;have hcz38_1:w37.cell? ⟨gb119,1,none⟩=some (.int .i64 0):=(blk_cell BK119.out 1).trans rfl;have hcz38_2:w37.cell? ⟨gb119,2,none⟩=some (.int .i64 0):=(blk_cell BK119.out 2).trans rfl;have hcz38_3:w37.cell? ⟨gb119,3,none⟩=some (.int .i64 0):=(blk_cell BK119.out 3).trans rfl;have hcz38_4:w37.cell? ⟨gb119,4,none⟩=some (.int .i64 0):=(blk_cell BK119.out 4).trans rfl;have hcz38_5:w37.cell? ⟨gb119,5,none⟩=some (.int .i64 0):=(blk_cell BK119.out 5).trans rfl;have hfz38_0:=blk_frozen BK119.out 0;have hfz38_1:=blk_frozen BK119.out 1;have hfz38_2:=blk_frozen BK119.out 2;have hfz38_3:=blk_frozen BK119.out 3;have hfz38_4:=blk_frozen BK119.out 4;have hfz38_5:=blk_frozen BK119.out 5))
  refine bodyPost_ret (results_ct rfl _ _ gb119 30 #[.int .i64 0,.int .i64 0,.int .i64 0,.int .i64 0,.int .i64 0,.int .i64 0] (0,0) _ rfl (by (with_reducible repeat (first|refine zbN ?_ _|refine zbD ?_|refine zbA ?_ _));refine blk_put (cs:=#[.int .i64 0,.int .i64 0,.int .i64 0,.int .i64 0,.int .i64 0,.int .i64 0]) ?_ 5 _ rfl;(with_reducible repeat (first|refine zbN ?_ _|refine zbD ?_|refine zbA ?_ _));refine blk_put (cs:=#[.int .i64 0,.int .i64 0,.int .i64 0,.int .i64 0,.int .i64 0,.int .i64 0]) ?_ 4 _ rfl;(with_reducible repeat (first|refine zbN ?_ _|refine zbD ?_|refine zbA ?_ _));refine blk_put (cs:=#[.int .i64 0,.int .i64 0,.int .i64 0,.int .i64 0,.int .i64 0,.int .i64 0]) ?_ 3 _ rfl;(with_reducible repeat (first|refine zbN ?_ _|refine zbD ?_|refine zbA ?_ _));refine blk_put (cs:=#[.int .i64 0,.int .i64 0,.int .i64 0,.int .i64 0,.int .i64 0,.int .i64 0]) ?_ 2 _ rfl;(with_reducible repeat (first|refine zbN ?_ _|refine zbD ?_|refine zbA ?_ _));refine blk_put (cs:=#[.int .i64 0,.int .i64 0,.int .i64 0,.int .i64 0,.int .i64 0,.int .i64 0]) ?_ 1 _ rfl;(with_reducible repeat (first|refine zbN ?_ _|refine zbD ?_|refine zbA ?_ _));refine blk_put (cs:=#[.int .i64 0,.int .i64 0,.int .i64 0,.int .i64 0,.int .i64 0,.int .i64 0]) ?_ 0 _ rfl;(with_reducible repeat (first|refine zbN ?_ _|refine zbD ?_|refine zbA ?_ _));exact BK119.out) Try.underlying30 rfl (by kernel_rfl)) rfl ?_
  exact ⟨by first|rfl|(simp [errW_none,errW_some] <;> rfl)|(simp [*,errW_none,errW_some] <;> rfl),by repeat (first|(with_reducible first|exact HB.out|apply zlA|apply zlN|apply zlD|refine zlS ?_ GE118.out|refine zlS ?_ GE119.out)|exact HB.out)⟩
def slipwaylaw11_live.f (k:Nat) :Option (Bool):=(layout_Plan.f k 300 16).bind fun bt128=>((layout_Group.f k bt128.1 bt128.2.1 0).bind fun bt132=>(if bt128.2.2=0 then (if bt132.2.2.2.2.2.2=0 then (if bt128.1=300 then ((layout_Groups.f k bt128.1 bt128.2.1).bind fun t140=>(if t140=3 then (some (bt132.1 == 0 && (bt132.2.1 == 128 && (bt132.2.2.1 == 2 && (bt132.2.2.2.1 == 3 && (bt132.2.2.2.2.1 == 4 && (bt132.2.2.2.2.2.1 == 24))))))) else (none))) else (none)) else (none)) else (none)))
theorem slipwaylaw11_live.mono:∀ k,LeO (slipwaylaw11_live.f k ) (slipwaylaw11_live.f (k + 1) ):=by
 intro  k
 unfold slipwaylaw11_live.f
 repeat' first
   | (with_reducible exact layout_Group.mono _ _ _ _)
   | (with_reducible exact layout_Groups.mono _ _ _)
   | (with_reducible exact layout_Plan.mono _ _ _)
   | (with_reducible exact LeO.refl _)
   | (with_reducible exact LeO.none _)
   | (with_reducible refine LeO.ite ?_ ?_)
   | (with_reducible refine LeO.bind ?_ (fun _=>?_))
   | exact layout_Group.mono _ _ _ _
   | exact layout_Groups.mono _ _ _
   | exact layout_Plan.mono _ _ _
   | exact LeO.none _
   | refine LeO.ite ?_ ?_
   | refine LeO.bind ?_ (fun _=>?_)
set_option maxHeartbeats 8000000 in
set_option maxRecDepth 100000 in
theorem slipwaylaw11_live.calls (k:Nat)  (r:Bool) (w:World) (h:slipwaylaw11_live.f k =some r) :
  Calls Try.prog 10 #[] w fun e w'=>e=.returned (.bool r)∧Below w.heap.size w w':=by
 have hu24:=Try.underlying24
 have hu30:=Try.underlying30
 have HB:=zm (Below.refl w.heap.size w)
 have H:((layout_Plan.f k 300 16).bind fun bt128=>((layout_Group.f k bt128.1 bt128.2.1 0).bind fun bt132=>(if bt128.2.2=0 then (if bt132.2.2.2.2.2.2=0 then (if bt128.1=300 then ((layout_Groups.f k bt128.1 bt128.2.1).bind fun t140=>(if t140=3 then (some (bt132.1 == 0 && (bt132.2.1 == 128 && (bt132.2.2.1 == 2 && (bt132.2.2.2.1 == 3 && (bt132.2.2.2.2.1 == 4 && (bt132.2.2.2.2.2.1 == 24))))))) else (none))) else (none)) else (none)) else (none))))=some r:=h
 clear h
 replace H:=Option.bind_eq_some_iff.mp H
 obtain ⟨⟨t128,t129,t130⟩,A10,H⟩:=H
 replace H:((layout_Group.f k t128 t129 0).bind fun bt132=>(if t130=0 then (if bt132.2.2.2.2.2.2=0 then (if t128=300 then ((layout_Groups.f k t128 t129).bind fun t140=>(if t140=3 then (some (bt132.1 == 0 && (bt132.2.1 == 128 && (bt132.2.2.1 == 2 && (bt132.2.2.2.1 == 3 && (bt132.2.2.2.2.1 == 4 && (bt132.2.2.2.2.2.1 == 24))))))) else (none))) else (none)) else (none)) else (none)))=some r:=H
 have A1:=zm A10
 clear A10
 replace H:=Option.bind_eq_some_iff.mp H
 obtain ⟨⟨t132,t133,t134,t135,t136,t137,t138⟩,A20,H⟩:=H
 replace H:(if t130=0 then (if t138=0 then (if t128=300 then ((layout_Groups.f k t128 t129).bind fun t140=>(if t140=3 then (some (t132 == 0 && (t133 == 128 && (t134 == 2 && (t135 == 3 && (t136 == 4 && (t137 == 24))))))) else (none))) else (none)) else (none)) else (none))=some r:=H
 have A2:=zm A20
 clear A20
 by_cases c3:t130=0
 ·rw [if_pos c3] at H
  have c3b0:(t130 == 0)=true:=beq_iff_eq.mpr c3
  have c3b1:(t130 != 0)=false:=bne_eq_false_iff_eq.mpr c3
  clear c3
  by_cases c4:t138=0
  ·rw [if_pos c4] at H
   have c4b0:(t138 == 0)=true:=beq_iff_eq.mpr c4
   have c4b1:(t138 != 0)=false:=bne_eq_false_iff_eq.mpr c4
   clear c4
   by_cases c5:t128=300
   ·rw [if_pos c5] at H
    have c5b0:(t128 == 300)=true:=beq_iff_eq.mpr c5
    have c5b1:(t128 != 300)=false:=bne_eq_false_iff_eq.mpr c5
    clear c5
    replace H:=Option.bind_eq_some_iff.mp H
    obtain ⟨t140,A60,H⟩:=H
    replace H:(if t140=3 then (some (t132 == 0 && (t133 == 128 && (t134 == 2 && (t135 == 3 && (t136 == 4 && (t137 == 24))))))) else (none))=some r:=H
    have A6:=zm A60
    clear A60
    by_cases c7:t140=3
    ·rw [if_pos c7] at H
     have c7b0:(t140 == 3)=true:=beq_iff_eq.mpr c7
     have c7b1:(t140 != 3)=false:=bne_eq_false_iff_eq.mpr c7
     clear c7
     obtain rfl:=Option.some.inj H
     go_enter Try.func10,Try.ntmps10
     go_wp2_with (first|((with_reducible refine gate_callee (f:=11) rfl ?_);refine goesL_ (some 6) rfl rfl Try.func11 (by kernel_rfl) rfl #[.int .i64 300,.int .i64 16] rfl (by (try simp only [List.map_toArray,List.map_cons,List.map_nil]);first|done|rfl|(simp only [List.length_drop,List.length_take];rfl)) ?_;(with_reducible refine (layout_Plan.calls k 300 16 t128 t129 t130 _ A1.out).mono ?_);rintro e w8 ⟨rfl,hb⟩;refine ⟨_,rfl,?_⟩;have n0_:=zm (below_step (by repeat (first|(with_reducible first|exact HB.out|apply zlA|apply zlN|apply zlD)|exact HB.out)) hb);clear HB;have HB:=n0_;clear n0_;(try clear hb);(try clear hb2);(try clear hk);(try clear hi))|((with_reducible refine gate_dst (N:=1) rfl ?_);refine box_event ?hg (N:=1) ?hd (cs:=#[.int .i64 0,.int .i64 0]) (t:=24) ?hr ?_;(case hd=>rfl);(case hg=>rfl);(case hr=>first|(go_simp;done)|(go_simp;rfl));intro gb131 hg w9 hbox hb;have n0_:=zm (below_step (by repeat (first|(with_reducible first|exact HB.out|apply zlA|apply zlN|apply zlD)|exact HB.out)) hb);have n1_:=zm (hbox);have n2_:=zm ((by rw [hg];exact (below_size (by repeat (first|(with_reducible first|exact HB.out|apply zlA|apply zlN|apply zlD)|exact HB.out))):w.heap.size≤gb131));have n3_:=zm ((by rw [hg];exact (below_size (by repeat (first|(with_reducible first|exact HB.out|apply zlA|apply zlN|apply zlD)|exact HB.out))):w.heap.size≤gb131));clear HB;have HB:=n0_;have BK131:=n1_;have GW131:=n2_;have GE131:=n3_;clear n0_ n1_ n2_ n3_;clear hb hbox hg;have hcz10_0:w9.cell? ⟨gb131,0,none⟩=some (.int .i64 0):=(blk_cell BK131.out 0).trans rfl;have hcz10_1:w9.cell? ⟨gb131,1,none⟩=some (.int .i64 0):=(blk_cell BK131.out 1).trans rfl;have hfz10_0:=blk_frozen BK131.out 0;have hfz10_1:=blk_frozen BK131.out 1)|((with_reducible refine gate_callee (f:=13) rfl ?_);refine goesL_ (some 11) rfl rfl Try.func13 (by kernel_rfl) rfl #[.agg #[.int .i64 t128,.int .i64 t129],.int .i64 0] rfl (by (try simp only [List.map_toArray,List.map_cons,List.map_nil]);first|done|rfl|(simp only [List.length_drop,List.length_take];rfl)) ?_;(with_reducible refine (layout_Group.calls k t128 t129 0 t132 t133 t134 t135 t136 t137 t138 _ A2.out).mono ?_);rintro e w11 ⟨rfl,hb⟩;refine ⟨_,rfl,?_⟩;have n0_:=zm (zbB (g:=gb131) (o:=.cells #[.int .i64 t128,.int .i64 t129] 24 (0,0)) (by (with_reducible repeat (first|refine zbN ?_ _|refine zbD ?_|refine zbA ?_ _));refine blk_put (cs:=#[.int .i64 t128,.int .i64 0]) ?_ 1 _ rfl;(with_reducible repeat (first|refine zbN ?_ _|refine zbD ?_|refine zbA ?_ _));refine blk_put (cs:=#[.int .i64 0,.int .i64 0]) ?_ 0 _ rfl;(with_reducible repeat (first|refine zbN ?_ _|refine zbD ?_|refine zbA ?_ _));exact BK131.out) hb);have n1_:=zm (below_step (by repeat (first|(with_reducible first|exact HB.out|apply zlA|apply zlN|apply zlD|refine zlS ?_ GE131.out)|exact HB.out)) hb);clear BK131 HB;have BK131:=n0_;have HB:=n1_;clear n0_ n1_;(try clear hb);(try clear hb2);(try clear hk);(try clear hi))|((with_reducible refine gate_dst (N:=3) rfl ?_);refine box_event ?hg (N:=3) ?hd (cs:=#[.int .i64 0,.int .i64 0,.int .i64 0,.int .i64 0,.int .i64 0,.int .i64 0]) (t:=30) ?hr ?_;(case hd=>rfl);(case hg=>rfl);(case hr=>first|(go_simp;done)|(go_simp;rfl));intro gb139 hg w12 hbox hb;have n0_:=zm (zbB (g:=gb131) (o:=.cells #[.int .i64 t128,.int .i64 t129] 24 (0,0)) (by (with_reducible repeat (first|refine zbN ?_ _|refine zbD ?_|refine zbA ?_ _));exact BK131.out) hb);have n1_:=zm (below_step (by repeat (first|(with_reducible first|exact HB.out|apply zlA|apply zlN|apply zlD|refine zlS ?_ GE131.out)|exact HB.out)) hb);have n2_:=zm (hbox);have n3_:=zm ((by rw [hg];exact (below_size (by repeat (first|(with_reducible first|exact HB.out|apply zlA|apply zlN|apply zlD|refine zlS ?_ GE131.out)|exact HB.out))):w.heap.size≤gb139));have n4_:=zm ((by rw [hg];exact (below_size (by repeat (first|(with_reducible first|exact HB.out|apply zlA|apply zlN|apply zlD|refine zlS ?_ GE131.out)|exact HB.out))):w.heap.size≤gb139));have n5_:=zm ((by rw [hg];exact Nat.ne_of_lt (blk_lt (g:=gb131) (o:=.cells #[.int .i64 t128,.int .i64 t129] 24 (0,0)) (by (with_reducible repeat (first|refine zbN ?_ _|refine zbD ?_|refine zbA ?_ _));exact BK131.out)):gb131≠gb139));have n6_:=zm ((by rw [hg];exact Nat.ne_of_gt (blk_lt (g:=gb131) (o:=.cells #[.int .i64 t128,.int .i64 t129] 24 (0,0)) (by (with_reducible repeat (first|refine zbN ?_ _|refine zbD ?_|refine zbA ?_ _));exact BK131.out)):gb139≠gb131));clear BK131 HB;have BK131:=n0_;have HB:=n1_;have BK139:=n2_;have GW139:=n3_;have GE139:=n4_;have NB131_139:=n5_;have NB139_131:=n6_;clear n0_ n1_ n2_ n3_ n4_ n5_ n6_;clear hb hbox hg;have hnb13:=NB139_131.out;have hnc13:=NB131_139.out;have hcz14_0:w12.cell? ⟨gb139,0,none⟩=some (.int .i64 0):=(blk_cell BK139.out 0).trans rfl;have hcz14_1:w12.cell? ⟨gb139,1,none⟩=some (.int .i64 0):=(blk_cell BK139.out 1).trans rfl;have hcz14_2:w12.cell? ⟨gb139,2,none⟩=some (.int .i64 0):=(blk_cell BK139.out 2).trans rfl;have hcz14_3:w12.cell? ⟨gb139,3,none⟩=some (.int .i64 0):=(blk_cell BK139.out 3).trans rfl;have hcz14_4:w12.cell? ⟨gb139,4,none⟩=some (.int .i64 0):=(blk_cell BK139.out 4).trans rfl;have hcz14_5:w12.cell? ⟨gb139,5,none⟩=some (.int .i64 0):=(blk_cell BK139.out 5).trans rfl;have hfz14_0:=blk_frozen BK139.out 0;have hfz14_1:=blk_frozen BK139.out 1;have hfz14_2:=blk_frozen BK139.out 2;have hfz14_3:=blk_frozen BK139.out 3;have hfz14_4:=blk_frozen BK139.out 4;have hfz14_5:=blk_frozen BK139.out 5;have hcz15_0:w12.cell? ⟨gb131,0,none⟩=some (.int .i64 t128):=(blk_cell BK131.out 0).trans rfl;have hcz15_1:w12.cell? ⟨gb131,1,none⟩=some (.int .i64 t129):=(blk_cell BK131.out 1).trans rfl;have hfz15_0:=blk_frozen BK131.out 0;have hfz15_1:=blk_frozen BK131.out 1)|(go_at_call 17;(with_reducible refine (layout_Groups.calls k t128 t129 t140 _ A6.out).mono ?_);rintro e w16 ⟨rfl,hb⟩;have n0_:=zm (zbB (g:=gb131) (o:=.cells #[.int .i64 t128,.int .i64 t129] 24 (0,0)) (by (with_reducible repeat (first|refine zbN ?_ _|refine zbD ?_|refine zbA ?_ _));refine blk_far ?_ NB131_139.out _;(with_reducible repeat (first|refine zbN ?_ _|refine zbD ?_|refine zbA ?_ _));refine blk_far ?_ NB131_139.out _;(with_reducible repeat (first|refine zbN ?_ _|refine zbD ?_|refine zbA ?_ _));refine blk_far ?_ NB131_139.out _;(with_reducible repeat (first|refine zbN ?_ _|refine zbD ?_|refine zbA ?_ _));refine blk_far ?_ NB131_139.out _;(with_reducible repeat (first|refine zbN ?_ _|refine zbD ?_|refine zbA ?_ _));refine blk_far ?_ NB131_139.out _;(with_reducible repeat (first|refine zbN ?_ _|refine zbD ?_|refine zbA ?_ _));refine blk_far ?_ NB131_139.out _;(with_reducible repeat (first|refine zbN ?_ _|refine zbD ?_|refine zbA ?_ _));exact BK131.out) hb);have n1_:=zm (zbB (g:=gb139) (o:=.cells #[.int .i64 t132,.int .i64 t133,.int .i64 t134,.int .i64 t135,.int .i64 t136,.int .i64 t137] 30 (0,0)) (by (with_reducible repeat (first|refine zbN ?_ _|refine zbD ?_|refine zbA ?_ _));refine blk_put (cs:=#[.int .i64 t132,.int .i64 t133,.int .i64 t134,.int .i64 t135,.int .i64 t136,.int .i64 0]) ?_ 5 _ rfl;(with_reducible repeat (first|refine zbN ?_ _|refine zbD ?_|refine zbA ?_ _));refine blk_put (cs:=#[.int .i64 t132,.int .i64 t133,.int .i64 t134,.int .i64 t135,.int .i64 0,.int .i64 0]) ?_ 4 _ rfl;(with_reducible repeat (first|refine zbN ?_ _|refine zbD ?_|refine zbA ?_ _));refine blk_put (cs:=#[.int .i64 t132,.int .i64 t133,.int .i64 t134,.int .i64 0,.int .i64 0,.int .i64 0]) ?_ 3 _ rfl;(with_reducible repeat (first|refine zbN ?_ _|refine zbD ?_|refine zbA ?_ _));refine blk_put (cs:=#[.int .i64 t132,.int .i64 t133,.int .i64 0,.int .i64 0,.int .i64 0,.int .i64 0]) ?_ 2 _ rfl;(with_reducible repeat (first|refine zbN ?_ _|refine zbD ?_|refine zbA ?_ _));refine blk_put (cs:=#[.int .i64 t132,.int .i64 0,.int .i64 0,.int .i64 0,.int .i64 0,.int .i64 0]) ?_ 1 _ rfl;(with_reducible repeat (first|refine zbN ?_ _|refine zbD ?_|refine zbA ?_ _));refine blk_put (cs:=#[.int .i64 0,.int .i64 0,.int .i64 0,.int .i64 0,.int .i64 0,.int .i64 0]) ?_ 0 _ rfl;(with_reducible repeat (first|refine zbN ?_ _|refine zbD ?_|refine zbA ?_ _));exact BK139.out) hb);have n2_:=zm (below_step (by repeat (first|(with_reducible first|exact HB.out|apply zlA|apply zlN|apply zlD|refine zlS ?_ GE131.out|refine zlS ?_ GE139.out)|exact HB.out)) hb);clear BK131 BK139 HB;have BK131:=n0_;have BK139:=n1_;have HB:=n2_;clear n0_ n1_ n2_;(try clear hb);(try clear hb2);(try clear hk);(try clear hi);have hcz17_0:w16.cell? ⟨gb139,0,none⟩=some (.int .i64 t132):=(blk_cell BK139.out 0).trans rfl;have hcz17_1:w16.cell? ⟨gb139,1,none⟩=some (.int .i64 t133):=(blk_cell BK139.out 1).trans rfl;have hcz17_2:w16.cell? ⟨gb139,2,none⟩=some (.int .i64 t134):=(blk_cell BK139.out 2).trans rfl;have hcz17_3:w16.cell? ⟨gb139,3,none⟩=some (.int .i64 t135):=(blk_cell BK139.out 3).trans rfl;have hcz17_4:w16.cell? ⟨gb139,4,none⟩=some (.int .i64 t136):=(blk_cell BK139.out 4).trans rfl;have hcz17_5:w16.cell? ⟨gb139,5,none⟩=some (.int .i64 t137):=(blk_cell BK139.out 5).trans rfl;have hfz17_0:=blk_frozen BK139.out 0;have hfz17_1:=blk_frozen BK139.out 1;have hfz17_2:=blk_frozen BK139.out 2;have hfz17_3:=blk_frozen BK139.out 3;have hfz17_4:=blk_frozen BK139.out 4;have hfz17_5:=blk_frozen BK139.out 5))
     go_ret
     exact ⟨by first|rfl|(simp [errW_none,errW_some] <;> rfl)|(simp [*,errW_none,errW_some] <;> rfl),by repeat (first|(with_reducible first|exact HB.out|apply zlA|apply zlN|apply zlD|refine zlS ?_ GE131.out|refine zlS ?_ GE139.out)|exact HB.out)⟩
    ·rw [if_neg c7] at H
     exact absurd H (by simp)
   ·rw [if_neg c5] at H
    exact absurd H (by simp)
  ·rw [if_neg c4] at H
   exact absurd H (by simp)
 ·rw [if_neg c3] at H
  exact absurd H (by simp)
end Go.Proofs.Ytbdnmdmfnopihaa.Print
end
section
namespace Go.Proofs.Ytbdnmdmfnopihaa.Print
open Go.RowKit Go.Proofs.YtbdnmdmfnopihaaW.PrintWords Go.Proofs.YtbdnmdmfnopihaaW.PrintLast Go.Proofs.YtbdnmdmfnopihaaW.PrintMore
attribute [local go_sem] max2_int min2_int max_two min_two max_three min_three max_four min_four   -- for this text's walks alone
attribute [local go_sem ↓] Go.Proofs.Ytbdnmdmfnopihaa.Sem.isSome_setCell
attribute [local go_sem] Go.Instr.field Go.asAgg
set_option linter.unusedVariables false
set_option linter.unusedSimpArgs false
def layout_GroupOf.f (k:Nat) (a0_0:Int) (a0_1:Int) (a1:Int):Option (Int × Bool):=(layout_Check.f k a0_0 a0_1).bind fun t232=>(if t232=0 then (if a1 < 0 then (some (0,false)) else (if a1 ≥ a0_0 then (some (0,false)) else (some (wrap64 (Int.tdiv a1 128),true)))) else (some (0,false)))
set_option maxHeartbeats 8000000 in
set_option maxRecDepth 100000 in
theorem layout_GroupOf.calls (k:Nat) (a0_0:Int) (a0_1:Int) (a1:Int) (r1:Int) (r2:Bool) (w:World) (h:layout_GroupOf.f k a0_0 a0_1 a1=some (r1,r2)) :
  Calls Try.prog 35 #[.agg #[.int .i64 a0_0,.int .i64 a0_1],.int .i64 a1] w fun e w'=>e=.returned (.tuple #[.int .i64 r1,.bool r2])∧Below w.heap.size w w':=by
 have hu24:=Try.underlying24
 have HB:=zm (Below.refl w.heap.size w)
 have H:((layout_Check.f k a0_0 a0_1).bind fun t232=>(if t232=0 then (if a1 < 0 then (some (0,false)) else (if a1 ≥ a0_0 then (some (0,false)) else (some (wrap64 (Int.tdiv a1 128),true)))) else (some (0,false))))=some (r1,r2):=h
 clear h
 replace H:=Option.bind_eq_some_iff.mp H
 obtain ⟨t232,A30,H⟩:=H
 replace H:(if t232=0 then (if a1 < 0 then (some (0,false)) else (if a1 ≥ a0_0 then (some (0,false)) else (some (wrap64 (Int.tdiv a1 128),true)))) else (some (0,false)))=some (r1,r2):=H
 have A3:=zm A30
 clear A30
 by_cases c4:t232=0
 ·rw [if_pos c4] at H
  have c4b0:(t232 == 0)=true:=beq_iff_eq.mpr c4
  have c4b1:(t232 != 0)=false:=bne_eq_false_iff_eq.mpr c4
  clear c4
  by_cases c5:a1 < 0
  ·rw [if_pos c5] at H
   have c5b0:decide (a1 < 0)=true:=decide_eq_true c5
   clear c5
   simp only [Option.some.injEq,Prod.mk.injEq] at H
   obtain ⟨rfl,rfl⟩:=H
   go_enter Try.func35,Try.ntmps35
   go_wp2_with (first|((with_reducible refine gate_dst (N:=2) rfl ?_);refine box_event ?hg (N:=2) ?hd (cs:=#[.int .i64 a0_0,.int .i64 a0_1]) (t:=24) ?hr ?_;(case hd=>rfl);(case hg=>rfl);(case hr=>first|(go_simp;done)|(go_simp;rfl));intro gb231 hg w6 hbox hb;have n0_:=zm (below_step (by repeat (first|(with_reducible first|exact HB.out|apply zlA|apply zlN|apply zlD)|exact HB.out)) hb);have n1_:=zm (hbox);have n2_:=zm ((by rw [hg];exact (below_size (by repeat (first|(with_reducible first|exact HB.out|apply zlA|apply zlN|apply zlD)|exact HB.out))):w.heap.size≤gb231));have n3_:=zm ((by rw [hg];exact (below_size (by repeat (first|(with_reducible first|exact HB.out|apply zlA|apply zlN|apply zlD)|exact HB.out))):w.heap.size≤gb231));clear HB;have HB:=n0_;have BK231:=n1_;have GW231:=n2_;have GE231:=n3_;clear n0_ n1_ n2_ n3_;clear hb hbox hg;have hcz7_0:w6.cell? ⟨gb231,0,none⟩=some (.int .i64 a0_0):=(blk_cell BK231.out 0).trans rfl;have hcz7_1:w6.cell? ⟨gb231,1,none⟩=some (.int .i64 a0_1):=(blk_cell BK231.out 1).trans rfl;have hfz7_0:=blk_frozen BK231.out 0;have hfz7_1:=blk_frozen BK231.out 1)|((with_reducible refine gate_callee (f:=15) rfl ?_);refine goesL_ (some 7) rfl rfl Try.func15 (by kernel_rfl) rfl #[.agg #[.int .i64 a0_0,.int .i64 a0_1]] rfl (by (try simp only [List.map_toArray,List.map_cons,List.map_nil]);first|done|rfl|(simp only [List.length_drop,List.length_take];rfl)) ?_;(with_reducible refine (layout_Check.calls k a0_0 a0_1 t232 _ A3.out).mono ?_);rintro e w8 ⟨rfl,hb⟩;refine ⟨_,rfl,?_⟩;have n0_:=zm (zbB (g:=gb231) (o:=.cells #[.int .i64 a0_0,.int .i64 a0_1] 24 (0,0)) (by (with_reducible repeat (first|refine zbN ?_ _|refine zbD ?_|refine zbA ?_ _));exact BK231.out) hb);have n1_:=zm (below_step (by repeat (first|(with_reducible first|exact HB.out|apply zlA|apply zlN|apply zlD|refine zlS ?_ GE231.out)|exact HB.out)) hb);clear BK231 HB;have BK231:=n0_;have HB:=n1_;clear n0_ n1_;(try clear hb);(try clear hb2);(try clear hk);(try clear hi)))
   go_ret2
   exact ⟨by first|rfl|(simp [errW_none,errW_some] <;> rfl)|(simp [*,errW_none,errW_some] <;> rfl),by repeat (first|(with_reducible first|exact HB.out|apply zlA|apply zlN|apply zlD|refine zlS ?_ GE231.out)|exact HB.out)⟩
  ·rw [if_neg c5] at H
   have c5b0:decide (a1 < 0)=false:=decide_eq_false c5
   clear c5
   by_cases c9:a1 ≥ a0_0
   ·rw [if_pos c9] at H
    have c9b0:decide (a0_0≤a1)=true:=decide_eq_true c9
    clear c9
    simp only [Option.some.injEq,Prod.mk.injEq] at H
    obtain ⟨rfl,rfl⟩:=H
    go_enter Try.func35,Try.ntmps35
    go_wp2_with (first|((with_reducible refine gate_dst (N:=2) rfl ?_);refine box_event ?hg (N:=2) ?hd (cs:=#[.int .i64 a0_0,.int .i64 a0_1]) (t:=24) ?hr ?_;(case hd=>rfl);(case hg=>rfl);(case hr=>first|(go_simp;done)|(go_simp;rfl));intro gb231 hg w10 hbox hb;have n0_:=zm (below_step (by repeat (first|(with_reducible first|exact HB.out|apply zlA|apply zlN|apply zlD)|exact HB.out)) hb);have n1_:=zm (hbox);have n2_:=zm ((by rw [hg];exact (below_size (by repeat (first|(with_reducible first|exact HB.out|apply zlA|apply zlN|apply zlD)|exact HB.out))):w.heap.size≤gb231));have n3_:=zm ((by rw [hg];exact (below_size (by repeat (first|(with_reducible first|exact HB.out|apply zlA|apply zlN|apply zlD)|exact HB.out))):w.heap.size≤gb231));clear HB;have HB:=n0_;have BK231:=n1_;have GW231:=n2_;have GE231:=n3_;clear n0_ n1_ n2_ n3_;clear hb hbox hg;have hcz11_0:w10.cell? ⟨gb231,0,none⟩=some (.int .i64 a0_0):=(blk_cell BK231.out 0).trans rfl;have hcz11_1:w10.cell? ⟨gb231,1,none⟩=some (.int .i64 a0_1):=(blk_cell BK231.out 1).trans rfl;have hfz11_0:=blk_frozen BK231.out 0;have hfz11_1:=blk_frozen BK231.out 1)|((with_reducible refine gate_callee (f:=15) rfl ?_);refine goesL_ (some 7) rfl rfl Try.func15 (by kernel_rfl) rfl #[.agg #[.int .i64 a0_0,.int .i64 a0_1]] rfl (by (try simp only [List.map_toArray,List.map_cons,List.map_nil]);first|done|rfl|(simp only [List.length_drop,List.length_take];rfl)) ?_;(with_reducible refine (layout_Check.calls k a0_0 a0_1 t232 _ A3.out).mono ?_);rintro e w12 ⟨rfl,hb⟩;refine ⟨_,rfl,?_⟩;have n0_:=zm (zbB (g:=gb231) (o:=.cells #[.int .i64 a0_0,.int .i64 a0_1] 24 (0,0)) (by (with_reducible repeat (first|refine zbN ?_ _|refine zbD ?_|refine zbA ?_ _));exact BK231.out) hb);have n1_:=zm (below_step (by repeat (first|(with_reducible first|exact HB.out|apply zlA|apply zlN|apply zlD|refine zlS ?_ GE231.out)|exact HB.out)) hb);clear BK231 HB;have BK231:=n0_;have HB:=n1_;clear n0_ n1_;(try clear hb);(try clear hb2);(try clear hk);(try clear hi);have hcz13_0:w12.cell? ⟨gb231,0,none⟩=some (.int .i64 a0_0):=(blk_cell BK231.out 0).trans rfl;have hcz13_1:w12.cell? ⟨gb231,1,none⟩=some (.int .i64 a0_1):=(blk_cell BK231.out 1).trans rfl;have hfz13_0:=blk_frozen BK231.out 0;have hfz13_1:=blk_frozen BK231.out 1))
    go_ret2
    exact ⟨by first|rfl|(simp [errW_none,errW_some] <;> rfl)|(simp [*,errW_none,errW_some] <;> rfl),by repeat (first|(with_reducible first|exact HB.out|apply zlA|apply zlN|apply zlD|refine zlS ?_ GE231.out)|exact HB.out)⟩
   ·rw [if_neg c9] at H
    have c9b0:decide (a0_0≤a1)=false:=decide_eq_false c9
    clear c9
    simp only [Option.some.injEq,Prod.mk.injEq] at H
    obtain ⟨rfl,rfl⟩:=H
    go_enter Try.func35,Try.ntmps35
    go_wp2_with (first|((with_reducible refine gate_dst (N:=2) rfl ?_);refine box_event ?hg (N:=2) ?hd (cs:=#[.int .i64 a0_0,.int .i64 a0_1]) (t:=24) ?hr ?_;(case hd=>rfl);(case hg=>rfl);(case hr=>first|(go_simp;done)|(go_simp;rfl));intro gb231 hg w14 hbox hb;have n0_:=zm (below_step (by repeat (first|(with_reducible first|exact HB.out|apply zlA|apply zlN|apply zlD)|exact HB.out)) hb);have n1_:=zm (hbox);have n2_:=zm ((by rw [hg];exact (below_size (by repeat (first|(with_reducible first|exact HB.out|apply zlA|apply zlN|apply zlD)|exact HB.out))):w.heap.size≤gb231));have n3_:=zm ((by rw [hg];exact (below_size (by repeat (first|(with_reducible first|exact HB.out|apply zlA|apply zlN|apply zlD)|exact HB.out))):w.heap.size≤gb231));clear HB;have HB:=n0_;have BK231:=n1_;have GW231:=n2_;have GE231:=n3_;clear n0_ n1_ n2_ n3_;clear hb hbox hg;have hcz15_0:w14.cell? ⟨gb231,0,none⟩=some (.int .i64 a0_0):=(blk_cell BK231.out 0).trans rfl;have hcz15_1:w14.cell? ⟨gb231,1,none⟩=some (.int .i64 a0_1):=(blk_cell BK231.out 1).trans rfl;have hfz15_0:=blk_frozen BK231.out 0;have hfz15_1:=blk_frozen BK231.out 1)|((with_reducible refine gate_callee (f:=15) rfl ?_);refine goesL_ (some 7) rfl rfl Try.func15 (by kernel_rfl) rfl #[.agg #[.int .i64 a0_0,.int .i64 a0_1]] rfl (by (try simp only [List.map_toArray,List.map_cons,List.map_nil]);first|done|rfl|(simp only [List.length_drop,List.length_take];rfl)) ?_;(with_reducible refine (layout_Check.calls k a0_0 a0_1 t232 _ A3.out).mono ?_);rintro e w16 ⟨rfl,hb⟩;refine ⟨_,rfl,?_⟩;have n0_:=zm (zbB (g:=gb231) (o:=.cells #[.int .i64 a0_0,.int .i64 a0_1] 24 (0,0)) (by (with_reducible repeat (first|refine zbN ?_ _|refine zbD ?_|refine zbA ?_ _));exact BK231.out) hb);have n1_:=zm (below_step (by repeat (first|(with_reducible first|exact HB.out|apply zlA|apply zlN|apply zlD|refine zlS ?_ GE231.out)|exact HB.out)) hb);clear BK231 HB;have BK231:=n0_;have HB:=n1_;clear n0_ n1_;(try clear hb);(try clear hb2);(try clear hk);(try clear hi);have hcz17_0:w16.cell? ⟨gb231,0,none⟩=some (.int .i64 a0_0):=(blk_cell BK231.out 0).trans rfl;have hcz17_1:w16.cell? ⟨gb231,1,none⟩=some (.int .i64 a0_1):=(blk_cell BK231.out 1).trans rfl;have hfz17_0:=blk_frozen BK231.out 0;have hfz17_1:=blk_frozen BK231.out 1))
    go_ret2
    exact ⟨by first|rfl|(simp [errW_none,errW_some] <;> rfl)|(simp [*,errW_none,errW_some] <;> rfl),by repeat (first|(with_reducible first|exact HB.out|apply zlA|apply zlN|apply zlD|refine zlS ?_ GE231.out)|exact HB.out)⟩
 ·rw [if_neg c4] at H
  have c4b0:(t232 == 0)=false:=beq_eq_false_iff_ne.mpr c4
  have c4b1:(t232 != 0)=true:=bne_iff_ne.mpr c4
  simp only [Option.some.injEq,Prod.mk.injEq] at H
  obtain ⟨rfl,rfl⟩:=H
  go_enter Try.func35,Try.ntmps35
  go_wp2_with (first|((with_reducible refine gate_dst (N:=2) rfl ?_);refine box_event ?hg (N:=2) ?hd (cs:=#[.int .i64 a0_0,.int .i64 a0_1]) (t:=24) ?hr ?_;(case hd=>rfl);(case hg=>rfl);(case hr=>first|(go_simp;done)|(go_simp;rfl));intro gb231 hg w18 hbox hb;have n0_:=zm (below_step (by repeat (first|(with_reducible first|exact HB.out|apply zlA|apply zlN|apply zlD)|exact HB.out)) hb);have n1_:=zm (hbox);have n2_:=zm ((by rw [hg];exact (below_size (by repeat (first|(with_reducible first|exact HB.out|apply zlA|apply zlN|apply zlD)|exact HB.out))):w.heap.size≤gb231));have n3_:=zm ((by rw [hg];exact (below_size (by repeat (first|(with_reducible first|exact HB.out|apply zlA|apply zlN|apply zlD)|exact HB.out))):w.heap.size≤gb231));clear HB;have HB:=n0_;have BK231:=n1_;have GW231:=n2_;have GE231:=n3_;clear n0_ n1_ n2_ n3_;clear hb hbox hg;have hcz19_0:w18.cell? ⟨gb231,0,none⟩=some (.int .i64 a0_0):=(blk_cell BK231.out 0).trans rfl;have hcz19_1:w18.cell? ⟨gb231,1,none⟩=some (.int .i64 a0_1):=(blk_cell BK231.out 1).trans rfl;have hfz19_0:=blk_frozen BK231.out 0;have hfz19_1:=blk_frozen BK231.out 1)|((with_reducible refine gate_callee (f:=15) rfl ?_);refine goesL_ (some 7) rfl rfl Try.func15 (by kernel_rfl) rfl #[.agg #[.int .i64 a0_0,.int .i64 a0_1]] rfl (by (try simp only [List.map_toArray,List.map_cons,List.map_nil]);first|done|rfl|(simp only [List.length_drop,List.length_take];rfl)) ?_;(with_reducible refine (layout_Check.calls k a0_0 a0_1 t232 _ A3.out).mono ?_);rintro e w20 ⟨rfl,hb⟩;refine ⟨_,rfl,?_⟩;have n0_:=zm (zbB (g:=gb231) (o:=.cells #[.int .i64 a0_0,.int .i64 a0_1] 24 (0,0)) (by (with_reducible repeat (first|refine zbN ?_ _|refine zbD ?_|refine zbA ?_ _));exact BK231.out) hb);have n1_:=zm (below_step (by repeat (first|(with_reducible first|exact HB.out|apply zlA|apply zlN|apply zlD|refine zlS ?_ GE231.out)|exact HB.out)) hb);clear BK231 HB;have BK231:=n0_;have HB:=n1_;clear n0_ n1_;(try clear hb);(try clear hb2);(try clear hk);(try clear hi)))
  go_ret2
  exact ⟨by first|rfl|(simp [errW_none,errW_some] <;> rfl)|(simp [*,errW_none,errW_some] <;> rfl),by repeat (first|(with_reducible first|exact HB.out|apply zlA|apply zlN|apply zlD|refine zlS ?_ GE231.out)|exact HB.out)⟩
def layout_Kind.f (k:Nat) (a0_0:Int) (a0_1:Int) (a1:Int):Option (Int):=(layout_Check.f k a0_0 a0_1).bind fun t234=>(if t234=0 then ((layout_GroupOf.f k a0_0 a0_1 a1).bind fun bt235=>(if bt235.2=true then ((layout_group.f k a0_0 a0_1 bt235.1).bind fun bt237=>(if a1=0 then (some 1) else (if a1 < bt237.2.2.1 then (some 2) else (if a1=bt237.2.2.1 then (some 3) else (if a1=bt237.2.2.2.1 then (some 4) else (if a1 < (wrap64 (bt237.2.2.2.2.1 + 4)) then (some 5) else (if a1 < bt237.2.2.2.2.2 then (some 6) else (some 7)))))))) else (some 8))) else (some 0))
set_option maxHeartbeats 8000000 in
set_option maxRecDepth 100000 in
theorem layout_Kind.calls (k:Nat) (a0_0:Int) (a0_1:Int) (a1:Int) (r:Int) (w:World) (h:layout_Kind.f k a0_0 a0_1 a1=some r) :
  Calls Try.prog 26 #[.agg #[.int .i64 a0_0,.int .i64 a0_1],.int .i64 a1] w fun e w'=>e=.returned (.int .i64 r)∧Below w.heap.size w w':=by
 have hu24:=Try.underlying24
 have hu30:=Try.underlying30
 have HB:=zm (Below.refl w.heap.size w)
 have H:((layout_Check.f k a0_0 a0_1).bind fun t234=>(if t234=0 then ((layout_GroupOf.f k a0_0 a0_1 a1).bind fun bt235=>(if bt235.2=true then ((layout_group.f k a0_0 a0_1 bt235.1).bind fun bt237=>(if a1=0 then (some 1) else (if a1 < bt237.2.2.1 then (some 2) else (if a1=bt237.2.2.1 then (some 3) else (if a1=bt237.2.2.2.1 then (some 4) else (if a1 < (wrap64 (bt237.2.2.2.2.1 + 4)) then (some 5) else (if a1 < bt237.2.2.2.2.2 then (some 6) else (some 7)))))))) else (some 8))) else (some 0)))=some r:=h
 clear h
 replace H:=Option.bind_eq_some_iff.mp H
 obtain ⟨t234,A30,H⟩:=H
 replace H:(if t234=0 then ((layout_GroupOf.f k a0_0 a0_1 a1).bind fun bt235=>(if bt235.2=true then ((layout_group.f k a0_0 a0_1 bt235.1).bind fun bt237=>(if a1=0 then (some 1) else (if a1 < bt237.2.2.1 then (some 2) else (if a1=bt237.2.2.1 then (some 3) else (if a1=bt237.2.2.2.1 then (some 4) else (if a1 < (wrap64 (bt237.2.2.2.2.1 + 4)) then (some 5) else (if a1 < bt237.2.2.2.2.2 then (some 6) else (some 7)))))))) else (some 8))) else (some 0))=some r:=H
 have A3:=zm A30
 clear A30
 by_cases c4:t234=0
 ·rw [if_pos c4] at H
  have c4b0:(t234 == 0)=true:=beq_iff_eq.mpr c4
  have c4b1:(t234 != 0)=false:=bne_eq_false_iff_eq.mpr c4
  clear c4
  replace H:=Option.bind_eq_some_iff.mp H
  obtain ⟨⟨t235,t236⟩,A50,H⟩:=H
  replace H:(if t236=true then ((layout_group.f k a0_0 a0_1 t235).bind fun bt237=>(if a1=0 then (some 1) else (if a1 < bt237.2.2.1 then (some 2) else (if a1=bt237.2.2.1 then (some 3) else (if a1=bt237.2.2.2.1 then (some 4) else (if a1 < (wrap64 (bt237.2.2.2.2.1 + 4)) then (some 5) else (if a1 < bt237.2.2.2.2.2 then (some 6) else (some 7)))))))) else (some 8))=some r:=H
  have A5:=zm A50
  clear A50
  by_cases c6:t236=true
  ·subst c6
   have H1:((layout_group.f k a0_0 a0_1 t235).bind fun bt237=>(if a1=0 then (some 1) else (if a1 < bt237.2.2.1 then (some 2) else (if a1=bt237.2.2.1 then (some 3) else (if a1=bt237.2.2.2.1 then (some 4) else (if a1 < (wrap64 (bt237.2.2.2.2.1 + 4)) then (some 5) else (if a1 < bt237.2.2.2.2.2 then (some 6) else (some 7))))))))=some r:=by rw [if_pos rfl] at H;exact H
   clear H
   have H:=H1
   clear H1
   replace H:=Option.bind_eq_some_iff.mp H
   obtain ⟨⟨t237,t238,t239,t240,t241,t242⟩,A70,H⟩:=H
   replace H:(if a1=0 then (some 1) else (if a1 < t239 then (some 2) else (if a1=t239 then (some 3) else (if a1=t240 then (some 4) else (if a1 < (wrap64 (t241 + 4)) then (some 5) else (if a1 < t242 then (some 6) else (some 7)))))))=some r:=H
   have A7:=zm A70
   clear A70
   by_cases c8:a1=0
   ·rw [if_pos c8] at H
    have c8b0:(a1 == 0)=true:=beq_iff_eq.mpr c8
    have c8b1:(a1 != 0)=false:=bne_eq_false_iff_eq.mpr c8
    clear c8
    obtain rfl:=Option.some.inj H
    go_enter Try.func26,Try.ntmps26
    go_wp2_with (first|((with_reducible refine gate_dst (N:=2) rfl ?_);refine box_event ?hg (N:=2) ?hd (cs:=#[.int .i64 a0_0,.int .i64 a0_1]) (t:=24) ?hr ?_;(case hd=>rfl);(case hg=>rfl);(case hr=>first|(go_simp;done)|(go_simp;rfl));intro gb233 hg w9 hbox hb;have n0_:=zm (below_step (by repeat (first|(with_reducible first|exact HB.out|apply zlA|apply zlN|apply zlD)|exact HB.out)) hb);have n1_:=zm (hbox);have n2_:=zm ((by rw [hg];exact (below_size (by repeat (first|(with_reducible first|exact HB.out|apply zlA|apply zlN|apply zlD)|exact HB.out))):w.heap.size≤gb233));have n3_:=zm ((by rw [hg];exact (below_size (by repeat (first|(with_reducible first|exact HB.out|apply zlA|apply zlN|apply zlD)|exact HB.out))):w.heap.size≤gb233));clear HB;have HB:=n0_;have BK233:=n1_;have GW233:=n2_;have GE233:=n3_;clear n0_ n1_ n2_ n3_;clear hb hbox hg;have hcz10_0:w9.cell? ⟨gb233,0,none⟩=some (.int .i64 a0_0):=(blk_cell BK233.out 0).trans rfl;have hcz10_1:w9.cell? ⟨gb233,1,none⟩=some (.int .i64 a0_1):=(blk_cell BK233.out 1).trans rfl;have hfz10_0:=blk_frozen BK233.out 0;have hfz10_1:=blk_frozen BK233.out 1)|((with_reducible refine gate_callee (f:=15) rfl ?_);refine goesL_ (some 9) rfl rfl Try.func15 (by kernel_rfl) rfl #[.agg #[.int .i64 a0_0,.int .i64 a0_1]] rfl (by (try simp only [List.map_toArray,List.map_cons,List.map_nil]);first|done|rfl|(simp only [List.length_drop,List.length_take];rfl)) ?_;(with_reducible refine (layout_Check.calls k a0_0 a0_1 t234 _ A3.out).mono ?_);rintro e w11 ⟨rfl,hb⟩;refine ⟨_,rfl,?_⟩;have n0_:=zm (zbB (g:=gb233) (o:=.cells #[.int .i64 a0_0,.int .i64 a0_1] 24 (0,0)) (by (with_reducible repeat (first|refine zbN ?_ _|refine zbD ?_|refine zbA ?_ _));exact BK233.out) hb);have n1_:=zm (below_step (by repeat (first|(with_reducible first|exact HB.out|apply zlA|apply zlN|apply zlD|refine zlS ?_ GE233.out)|exact HB.out)) hb);clear BK233 HB;have BK233:=n0_;have HB:=n1_;clear n0_ n1_;(try clear hb);(try clear hb2);(try clear hk);(try clear hi);have hcz12_0:w11.cell? ⟨gb233,0,none⟩=some (.int .i64 a0_0):=(blk_cell BK233.out 0).trans rfl;have hcz12_1:w11.cell? ⟨gb233,1,none⟩=some (.int .i64 a0_1):=(blk_cell BK233.out 1).trans rfl;have hfz12_0:=blk_frozen BK233.out 0;have hfz12_1:=blk_frozen BK233.out 1)|((with_reducible refine gate_callee (f:=35) rfl ?_);refine goesL_ (some 14) rfl rfl Try.func35 (by kernel_rfl) rfl #[.agg #[.int .i64 a0_0,.int .i64 a0_1],.int .i64 a1] rfl (by (try simp only [List.map_toArray,List.map_cons,List.map_nil]);first|done|rfl|(simp only [List.length_drop,List.length_take];rfl)) ?_;(with_reducible refine (layout_GroupOf.calls k a0_0 a0_1 a1 t235 true _ A5.out).mono ?_);rintro e w13 ⟨rfl,hb⟩;refine ⟨_,rfl,?_⟩;have n0_:=zm (zbB (g:=gb233) (o:=.cells #[.int .i64 a0_0,.int .i64 a0_1] 24 (0,0)) (by (with_reducible repeat (first|refine zbN ?_ _|refine zbD ?_|refine zbA ?_ _));exact BK233.out) hb);have n1_:=zm (below_step (by repeat (first|(with_reducible first|exact HB.out|apply zlA|apply zlN|apply zlD|refine zlS ?_ GE233.out)|exact HB.out)) hb);clear BK233 HB;have BK233:=n0_;have HB:=n1_;clear n0_ n1_;(try clear hb);(try clear hb2);(try clear hk);(try clear hi);have hcz14_0:w13.cell? ⟨gb233,0,none⟩=some (.int .i64 a0_0):=(blk_cell BK233.out 0).trans rfl;have hcz14_1:w13.cell? ⟨gb233,1,none⟩=some (.int .i64 a0_1):=(blk_cell BK233.out 1).trans rfl;have hfz14_0:=blk_frozen BK233.out 0;have hfz14_1:=blk_frozen BK233.out 1)|((with_reducible refine gate_callee (f:=44) rfl ?_);refine goesL_ (some 21) rfl rfl Try.func44 (by kernel_rfl) rfl #[.agg #[.int .i64 a0_0,.int .i64 a0_1],.int .i64 t235] rfl (by (try simp only [List.map_toArray,List.map_cons,List.map_nil]);first|done|rfl|(simp only [List.length_drop,List.length_take];rfl)) ?_;(with_reducible refine (layout_group.calls k a0_0 a0_1 t235 t237 t238 t239 t240 t241 t242 _ A7.out).mono ?_);rintro e w15 ⟨rfl,hb⟩;refine ⟨_,rfl,?_⟩;have n0_:=zm (zbB (g:=gb233) (o:=.cells #[.int .i64 a0_0,.int .i64 a0_1] 24 (0,0)) (by (with_reducible repeat (first|refine zbN ?_ _|refine zbD ?_|refine zbA ?_ _));exact BK233.out) hb);have n1_:=zm (below_step (by repeat (first|(with_reducible first|exact HB.out|apply zlA|apply zlN|apply zlD|refine zlS ?_ GE233.out)|exact HB.out)) hb);clear BK233 HB;have BK233:=n0_;have HB:=n1_;clear n0_ n1_;(try clear hb);(try clear hb2);(try clear hk);(try clear hi))|((with_reducible refine gate_dst (N:=7) rfl ?_);refine box_event ?hg (N:=7) ?hd (cs:=#[.int .i64 0,.int .i64 0,.int .i64 0,.int .i64 0,.int .i64 0,.int .i64 0]) (t:=30) ?hr ?_;(case hd=>rfl);(case hg=>rfl);(case hr=>first|(go_simp;done)|(go_simp;rfl));intro gb243 hg w16 hbox hb;have n0_:=zm (zbB (g:=gb233) (o:=.cells #[.int .i64 a0_0,.int .i64 a0_1] 24 (0,0)) (by (with_reducible repeat (first|refine zbN ?_ _|refine zbD ?_|refine zbA ?_ _));exact BK233.out) hb);have n1_:=zm (below_step (by repeat (first|(with_reducible first|exact HB.out|apply zlA|apply zlN|apply zlD|refine zlS ?_ GE233.out)|exact HB.out)) hb);have n2_:=zm (hbox);have n3_:=zm ((by rw [hg];exact (below_size (by repeat (first|(with_reducible first|exact HB.out|apply zlA|apply zlN|apply zlD|refine zlS ?_ GE233.out)|exact HB.out))):w.heap.size≤gb243));have n4_:=zm ((by rw [hg];exact (below_size (by repeat (first|(with_reducible first|exact HB.out|apply zlA|apply zlN|apply zlD|refine zlS ?_ GE233.out)|exact HB.out))):w.heap.size≤gb243));have n5_:=zm ((by rw [hg];exact Nat.ne_of_lt (blk_lt (g:=gb233) (o:=.cells #[.int .i64 a0_0,.int .i64 a0_1] 24 (0,0)) (by (with_reducible repeat (first|refine zbN ?_ _|refine zbD ?_|refine zbA ?_ _));exact BK233.out)):gb233≠gb243));have n6_:=zm ((by rw [hg];exact Nat.ne_of_gt (blk_lt (g:=gb233) (o:=.cells #[.int .i64 a0_0,.int .i64 a0_1] 24 (0,0)) (by (with_reducible repeat (first|refine zbN ?_ _|refine zbD ?_|refine zbA ?_ _));exact BK233.out)):gb243≠gb233));clear BK233 HB;have BK233:=n0_;have HB:=n1_;have BK243:=n2_;have GW243:=n3_;have GE243:=n4_;have NB233_243:=n5_;have NB243_233:=n6_;clear n0_ n1_ n2_ n3_ n4_ n5_ n6_;clear hb hbox hg;have hnb17:=NB243_233.out;have hnc17:=NB233_243.out;have hcz18_0:w16.cell? ⟨gb243,0,none⟩=some (.int .i64 0):=(blk_cell BK243.out 0).trans rfl;have hcz18_1:w16.cell? ⟨gb243,1,none⟩=some (.int .i64 0):=(blk_cell BK243.out 1).trans rfl;have hcz18_2:w16.cell? ⟨gb243,2,none⟩=some (.int .i64 0):=(blk_cell BK243.out 2).trans rfl;have hcz18_3:w16.cell? ⟨gb243,3,none⟩=some (.int .i64 0):=(blk_cell BK243.out 3).trans rfl;have hcz18_4:w16.cell? ⟨gb243,4,none⟩=some (.int .i64 0):=(blk_cell BK243.out 4).trans rfl;have hcz18_5:w16.cell? ⟨gb243,5,none⟩=some (.int .i64 0):=(blk_cell BK243.out 5).trans rfl;have hfz18_0:=blk_frozen BK243.out 0;have hfz18_1:=blk_frozen BK243.out 1;have hfz18_2:=blk_frozen BK243.out 2;have hfz18_3:=blk_frozen BK243.out 3;have hfz18_4:=blk_frozen BK243.out 4;have hfz18_5:=blk_frozen BK243.out 5))
    go_ret
    exact ⟨by first|rfl|(simp [errW_none,errW_some] <;> rfl)|(simp [*,errW_none,errW_some] <;> rfl),by repeat (first|(with_reducible first|exact HB.out|apply zlA|apply zlN|apply zlD|refine zlS ?_ GE233.out|refine zlS ?_ GE243.out)|exact HB.out)⟩
   ·rw [if_neg c8] at H
    have c8b0:(a1 == 0)=false:=beq_eq_false_iff_ne.mpr c8
    have c8b1:(a1 != 0)=true:=bne_iff_ne.mpr c8
    by_cases c19:a1 < t239
    ·rw [if_pos c19] at H
     have c19b0:decide (a1 < t239)=true:=decide_eq_true c19
     clear c19
     obtain rfl:=Option.some.inj H
     go_enter Try.func26,Try.ntmps26
     go_wp2_with (first|((with_reducible refine gate_dst (N:=2) rfl ?_);refine box_event ?hg (N:=2) ?hd (cs:=#[.int .i64 a0_0,.int .i64 a0_1]) (t:=24) ?hr ?_;(case hd=>rfl);(case hg=>rfl);(case hr=>first|(go_simp;done)|(go_simp;rfl));intro gb233 hg w20 hbox hb;have n0_:=zm (below_step (by repeat (first|(with_reducible first|exact HB.out|apply zlA|apply zlN|apply zlD)|exact HB.out)) hb);have n1_:=zm (hbox);have n2_:=zm ((by rw [hg];exact (below_size (by repeat (first|(with_reducible first|exact HB.out|apply zlA|apply zlN|apply zlD)|exact HB.out))):w.heap.size≤gb233));have n3_:=zm ((by rw [hg];exact (below_size (by repeat (first|(with_reducible first|exact HB.out|apply zlA|apply zlN|apply zlD)|exact HB.out))):w.heap.size≤gb233));clear HB;have HB:=n0_;have BK233:=n1_;have GW233:=n2_;have GE233:=n3_;clear n0_ n1_ n2_ n3_;clear hb hbox hg;have hcz21_0:w20.cell? ⟨gb233,0,none⟩=some (.int .i64 a0_0):=(blk_cell BK233.out 0).trans rfl;have hcz21_1:w20.cell? ⟨gb233,1,none⟩=some (.int .i64 a0_1):=(blk_cell BK233.out 1).trans rfl;have hfz21_0:=blk_frozen BK233.out 0;have hfz21_1:=blk_frozen BK233.out 1)|((with_reducible refine gate_callee (f:=15) rfl ?_);refine goesL_ (some 9) rfl rfl Try.func15 (by kernel_rfl) rfl #[.agg #[.int .i64 a0_0,.int .i64 a0_1]] rfl (by (try simp only [List.map_toArray,List.map_cons,List.map_nil]);first|done|rfl|(simp only [List.length_drop,List.length_take];rfl)) ?_;(with_reducible refine (layout_Check.calls k a0_0 a0_1 t234 _ A3.out).mono ?_);rintro e w22 ⟨rfl,hb⟩;refine ⟨_,rfl,?_⟩;have n0_:=zm (zbB (g:=gb233) (o:=.cells #[.int .i64 a0_0,.int .i64 a0_1] 24 (0,0)) (by (with_reducible repeat (first|refine zbN ?_ _|refine zbD ?_|refine zbA ?_ _));exact BK233.out) hb);have n1_:=zm (below_step (by repeat (first|(with_reducible first|exact HB.out|apply zlA|apply zlN|apply zlD|refine zlS ?_ GE233.out)|exact HB.out)) hb);clear BK233 HB;have BK233:=n0_;have HB:=n1_;clear n0_ n1_;(try clear hb);(try clear hb2);(try clear hk);(try clear hi);have hcz23_0:w22.cell? ⟨gb233,0,none⟩=some (.int .i64 a0_0):=(blk_cell BK233.out 0).trans rfl;have hcz23_1:w22.cell? ⟨gb233,1,none⟩=some (.int .i64 a0_1):=(blk_cell BK233.out 1).trans rfl;have hfz23_0:=blk_frozen BK233.out 0;have hfz23_1:=blk_frozen BK233.out 1)|((with_reducible refine gate_callee (f:=35) rfl ?_);refine goesL_ (some 14) rfl rfl Try.func35 (by kernel_rfl) rfl #[.agg #[.int .i64 a0_0,.int .i64 a0_1],.int .i64 a1] rfl (by (try simp only [List.map_toArray,List.map_cons,List.map_nil]);first|done|rfl|(simp only [List.length_drop,List.length_take];rfl)) ?_;(with_reducible refine (layout_GroupOf.calls k a0_0 a0_1 a1 t235 true _ A5.out).mono ?_);rintro e w24 ⟨rfl,hb⟩;refine ⟨_,rfl,?_⟩;have n0_:=zm (zbB (g:=gb233) (o:=.cells #[.int .i64 a0_0,.int .i64 a0_1] 24 (0,0)) (by (with_reducible repeat (first|refine zbN ?_ _|refine zbD ?_|refine zbA ?_ _));exact BK233.out) hb);have n1_:=zm (below_step (by repeat (first|(with_reducible first|exact HB.out|apply zlA|apply zlN|apply zlD|refine zlS ?_ GE233.out)|exact HB.out)) hb);clear BK233 HB;have BK233:=n0_;have HB:=n1_;clear n0_ n1_;(try clear hb);(try clear hb2);(try clear hk);(try clear hi);have hcz25_0:w24.cell? ⟨gb233,0,none⟩=some (.int .i64 a0_0):=(blk_cell BK233.out 0).trans rfl;have hcz25_1:w24.cell? ⟨gb233,1,none⟩=some (.int .i64 a0_1):=(blk_cell BK233.out 1).trans rfl;have hfz25_0:=blk_frozen BK233.out 0;have hfz25_1:=blk_frozen BK233.out 1)|((with_reducible refine gate_callee (f:=44) rfl ?_);refine goesL_ (some 21) rfl rfl Try.func44 (by kernel_rfl) rfl #[.agg #[.int .i64 a0_0,.int .i64 a0_1],.int .i64 t235] rfl (by (try simp only [List.map_toArray,List.map_cons,List.map_nil]);first|done|rfl|(simp only [List.length_drop,List.length_take];rfl)) ?_;(with_reducible refine (layout_group.calls k a0_0 a0_1 t235 t237 t238 t239 t240 t241 t242 _ A7.out).mono ?_);rintro e w26 ⟨rfl,hb⟩;refine ⟨_,rfl,?_⟩;have n0_:=zm (zbB (g:=gb233) (o:=.cells #[.int .i64 a0_0,.int .i64 a0_1] 24 (0,0)) (by (with_reducible repeat (first|refine zbN ?_ _|refine zbD ?_|refine zbA ?_ _));exact BK233.out) hb);have n1_:=zm (below_step (by repeat (first|(with_reducible first|exact HB.out|apply zlA|apply zlN|apply zlD|refine zlS ?_ GE233.out)|exact HB.out)) hb);clear BK233 HB;have BK233:=n0_;have HB:=n1_;clear n0_ n1_;(try clear hb);(try clear hb2);(try clear hk);(try clear hi))|((with_reducible refine gate_dst (N:=7) rfl ?_);refine box_event ?hg (N:=7) ?hd (cs:=#[.int .i64 0,.int .i64 0,.int .i64 0,.int .i64 0,.int .i64 0,.int .i64 0]) (t:=30) ?hr ?_;(case hd=>rfl);(case hg=>rfl);(case hr=>first|(go_simp;done)|(go_simp;rfl));intro gb243 hg w27 hbox hb;have n0_:=zm (zbB (g:=gb233) (o:=.cells #[.int .i64 a0_0,.int .i64 a0_1] 24 (0,0)) (by (with_reducible repeat (first|refine zbN ?_ _|refine zbD ?_|refine zbA ?_ _));exact BK233.out) hb);have n1_:=zm (below_step (by repeat (first|(with_reducible first|exact HB.out|apply zlA|apply zlN|apply zlD|refine zlS ?_ GE233.out)|exact HB.out)) hb);have n2_:=zm (hbox);have n3_:=zm ((by rw [hg];exact (below_size (by repeat (first|(with_reducible first|exact HB.out|apply zlA|apply zlN|apply zlD|refine zlS ?_ GE233.out)|exact HB.out))):w.heap.size≤gb243));have n4_:=zm ((by rw [hg];exact (below_size (by repeat (first|(with_reducible first|exact HB.out|apply zlA|apply zlN|apply zlD|refine zlS ?_ GE233.out)|exact HB.out))):w.heap.size≤gb243));have n5_:=zm ((by rw [hg];exact Nat.ne_of_lt (blk_lt (g:=gb233) (o:=.cells #[.int .i64 a0_0,.int .i64 a0_1] 24 (0,0)) (by (with_reducible repeat (first|refine zbN ?_ _|refine zbD ?_|refine zbA ?_ _));exact BK233.out)):gb233≠gb243));have n6_:=zm ((by rw [hg];exact Nat.ne_of_gt (blk_lt (g:=gb233) (o:=.cells #[.int .i64 a0_0,.int .i64 a0_1] 24 (0,0)) (by (with_reducible repeat (first|refine zbN ?_ _|refine zbD ?_|refine zbA ?_ _));exact BK233.out)):gb243≠gb233));clear BK233 HB;have BK233:=n0_;have HB:=n1_;have BK243:=n2_;have GW243:=n3_;have GE243:=n4_;have NB233_243:=n5_;have NB243_233:=n6_;clear n0_ n1_ n2_ n3_ n4_ n5_ n6_;clear hb hbox hg;have hnb28:=NB243_233.out;have hnc28:=NB233_243.out;have hcz29_0:w27.cell? ⟨gb243,0,none⟩=some (.int .i64 0):=(blk_cell BK243.out 0).trans rfl;have hcz29_1:w27.cell? ⟨gb243,1,none⟩=some (.int .i64 0):=(blk_cell BK243.out 1).trans rfl;have hcz29_2:w27.cell? ⟨gb243,2,none⟩=some (.int .i64 0):=(blk_cell BK243.out 2).trans rfl;have hcz29_3:w27.cell? ⟨gb243,3,none⟩=some (.int .i64 0):=(blk_cell BK243.out 3).trans rfl;have hcz29_4:w27.cell? ⟨gb243,4,none⟩=some (.int .i64 0):=(blk_cell BK243.out 4).trans rfl;have hcz29_5:w27.cell? ⟨gb243,5,none⟩=some (.int .i64 0):=(blk_cell BK243.out 5).trans rfl;have hfz29_0:=blk_frozen BK243.out 0;have hfz29_1:=blk_frozen BK243.out 1;have hfz29_2:=blk_frozen BK243.out 2;have hfz29_3:=blk_frozen BK243.out 3;have hfz29_4:=blk_frozen BK243.out 4;have hfz29_5:=blk_frozen BK243.out 5))
     go_ret
     exact ⟨by first|rfl|(simp [errW_none,errW_some] <;> rfl)|(simp [*,errW_none,errW_some] <;> rfl),by repeat (first|(with_reducible first|exact HB.out|apply zlA|apply zlN|apply zlD|refine zlS ?_ GE233.out|refine zlS ?_ GE243.out)|exact HB.out)⟩
    ·rw [if_neg c19] at H
     have c19b0:decide (a1 < t239)=false:=decide_eq_false c19
     clear c19
     by_cases c30:a1=t239
     ·rw [if_pos c30] at H
      have c30b0:(a1 == t239)=true:=beq_iff_eq.mpr c30
      have c30b1:(a1 != t239)=false:=bne_eq_false_iff_eq.mpr c30
      clear c30
      obtain rfl:=Option.some.inj H
      go_enter Try.func26,Try.ntmps26
      go_wp2_with (first|((with_reducible refine gate_dst (N:=2) rfl ?_);refine box_event ?hg (N:=2) ?hd (cs:=#[.int .i64 a0_0,.int .i64 a0_1]) (t:=24) ?hr ?_;(case hd=>rfl);(case hg=>rfl);(case hr=>first|(go_simp;done)|(go_simp;rfl));intro gb233 hg w31 hbox hb;have n0_:=zm (below_step (by repeat (first|(with_reducible first|exact HB.out|apply zlA|apply zlN|apply zlD)|exact HB.out)) hb);have n1_:=zm (hbox);have n2_:=zm ((by rw [hg];exact (below_size (by repeat (first|(with_reducible first|exact HB.out|apply zlA|apply zlN|apply zlD)|exact HB.out))):w.heap.size≤gb233));have n3_:=zm ((by rw [hg];exact (below_size (by repeat (first|(with_reducible first|exact HB.out|apply zlA|apply zlN|apply zlD)|exact HB.out))):w.heap.size≤gb233));clear HB;have HB:=n0_;have BK233:=n1_;have GW233:=n2_;have GE233:=n3_;clear n0_ n1_ n2_ n3_;clear hb hbox hg;have hcz32_0:w31.cell? ⟨gb233,0,none⟩=some (.int .i64 a0_0):=(blk_cell BK233.out 0).trans rfl;have hcz32_1:w31.cell? ⟨gb233,1,none⟩=some (.int .i64 a0_1):=(blk_cell BK233.out 1).trans rfl;have hfz32_0:=blk_frozen BK233.out 0;have hfz32_1:=blk_frozen BK233.out 1)|((with_reducible refine gate_callee (f:=15) rfl ?_);refine goesL_ (some 9) rfl rfl Try.func15 (by kernel_rfl) rfl #[.agg #[.int .i64 a0_0,.int .i64 a0_1]] rfl (by (try simp only [List.map_toArray,List.map_cons,List.map_nil]);first|done|rfl|(simp only [List.length_drop,List.length_take];rfl)) ?_;(with_reducible refine (layout_Check.calls k a0_0 a0_1 t234 _ A3.out).mono ?_);rintro e w33 ⟨rfl,hb⟩;refine ⟨_,rfl,?_⟩;have n0_:=zm (zbB (g:=gb233) (o:=.cells #[.int .i64 a0_0,.int .i64 a0_1] 24 (0,0)) (by (with_reducible repeat (first|refine zbN ?_ _|refine zbD ?_|refine zbA ?_ _));exact BK233.out) hb);have n1_:=zm (below_step (by repeat (first|(with_reducible first|exact HB.out|apply zlA|apply zlN|apply zlD|refine zlS ?_ GE233.out)|exact HB.out)) hb);clear BK233 HB;have BK233:=n0_;have HB:=n1_;clear n0_ n1_;(try clear hb);(try clear hb2);(try clear hk);(try clear hi);have hcz34_0:w33.cell? ⟨gb233,0,none⟩=some (.int .i64 a0_0):=(blk_cell BK233.out 0).trans rfl;have hcz34_1:w33.cell? ⟨gb233,1,none⟩=some (.int .i64 a0_1):=(blk_cell BK233.out 1).trans rfl;have hfz34_0:=blk_frozen BK233.out 0;have hfz34_1:=blk_frozen BK233.out 1)|((with_reducible refine gate_callee (f:=35) rfl ?_);refine goesL_ (some 14) rfl rfl Try.func35 (by kernel_rfl) rfl #[.agg #[.int .i64 a0_0,.int .i64 a0_1],.int .i64 a1] rfl (by (try simp only [List.map_toArray,List.map_cons,List.map_nil]);first|done|rfl|(simp only [List.length_drop,List.length_take];rfl)) ?_;(with_reducible refine (layout_GroupOf.calls k a0_0 a0_1 a1 t235 true _ A5.out).mono ?_);rintro e w35 ⟨rfl,hb⟩;refine ⟨_,rfl,?_⟩;have n0_:=zm (zbB (g:=gb233) (o:=.cells #[.int .i64 a0_0,.int .i64 a0_1] 24 (0,0)) (by (with_reducible repeat (first|refine zbN ?_ _|refine zbD ?_|refine zbA ?_ _));exact BK233.out) hb);have n1_:=zm (below_step (by repeat (first|(with_reducible first|exact HB.out|apply zlA|apply zlN|apply zlD|refine zlS ?_ GE233.out)|exact HB.out)) hb);clear BK233 HB;have BK233:=n0_;have HB:=n1_;clear n0_ n1_;(try clear hb);(try clear hb2);(try clear hk);(try clear hi);have hcz36_0:w35.cell? ⟨gb233,0,none⟩=some (.int .i64 a0_0):=(blk_cell BK233.out 0).trans rfl;have hcz36_1:w35.cell? ⟨gb233,1,none⟩=some (.int .i64 a0_1):=(blk_cell BK233.out 1).trans rfl;have hfz36_0:=blk_frozen BK233.out 0;have hfz36_1:=blk_frozen BK233.out 1)|((with_reducible refine gate_callee (f:=44) rfl ?_);refine goesL_ (some 21) rfl rfl Try.func44 (by kernel_rfl) rfl #[.agg #[.int .i64 a0_0,.int .i64 a0_1],.int .i64 t235] rfl (by (try simp only [List.map_toArray,List.map_cons,List.map_nil]);first|done|rfl|(simp only [List.length_drop,List.length_take];rfl)) ?_;(with_reducible refine (layout_group.calls k a0_0 a0_1 t235 t237 t238 t239 t240 t241 t242 _ A7.out).mono ?_);rintro e w37 ⟨rfl,hb⟩;refine ⟨_,rfl,?_⟩;have n0_:=zm (zbB (g:=gb233) (o:=.cells #[.int .i64 a0_0,.int .i64 a0_1] 24 (0,0)) (by (with_reducible repeat (first|refine zbN ?_ _|refine zbD ?_|refine zbA ?_ _));exact BK233.out) hb);have n1_:=zm (below_step (by repeat (first|(with_reducible first|exact HB.out|apply zlA|apply zlN|apply zlD|refine zlS ?_ GE233.out)|exact HB.out)) hb);clear BK233 HB;have BK233:=n0_;have HB:=n1_;clear n0_ n1_;(try clear hb);(try clear hb2);(try clear hk);(try clear hi))|((with_reducible refine gate_dst (N:=7) rfl ?_);refine box_event ?hg (N:=7) ?hd (cs:=#[.int .i64 0,.int .i64 0,.int .i64 0,.int .i64 0,.int .i64 0,.int .i64 0]) (t:=30) ?hr ?_;(case hd=>rfl);(case hg=>rfl);(case hr=>first|(go_simp;done)|(go_simp;rfl));intro gb243 hg w38 hbox hb;have n0_:=zm (zbB (g:=gb233) (o:=.cells #[.int .i64 a0_0,.int .i64 a0_1] 24 (0,0)) (by (with_reducible repeat (first|refine zbN ?_ _|refine zbD ?_|refine zbA ?_ _));exact BK233.out) hb);have n1_:=zm (below_step (by repeat (first|(with_reducible first|exact HB.out|apply zlA|apply zlN|apply zlD|refine zlS ?_ GE233.out)|exact HB.out)) hb);have n2_:=zm (hbox);have n3_:=zm ((by rw [hg];exact (below_size (by repeat (first|(with_reducible first|exact HB.out|apply zlA|apply zlN|apply zlD|refine zlS ?_ GE233.out)|exact HB.out))):w.heap.size≤gb243));have n4_:=zm ((by rw [hg];exact (below_size (by repeat (first|(with_reducible first|exact HB.out|apply zlA|apply zlN|apply zlD|refine zlS ?_ GE233.out)|exact HB.out))):w.heap.size≤gb243));have n5_:=zm ((by rw [hg];exact Nat.ne_of_lt (blk_lt (g:=gb233) (o:=.cells #[.int .i64 a0_0,.int .i64 a0_1] 24 (0,0)) (by (with_reducible repeat (first|refine zbN ?_ _|refine zbD ?_|refine zbA ?_ _));exact BK233.out)):gb233≠gb243));have n6_:=zm ((by rw [hg];exact Nat.ne_of_gt (blk_lt (g:=gb233) (o:=.cells #[.int .i64 a0_0,.int .i64 a0_1] 24 (0,0)) (by (with_reducible repeat (first|refine zbN ?_ _|refine zbD ?_|refine zbA ?_ _));exact BK233.out)):gb243≠gb233));clear BK233 HB;have BK233:=n0_;have HB:=n1_;have BK243:=n2_;have GW243:=n3_;have GE243:=n4_;have NB233_243:=n5_;have NB243_233:=n6_;clear n0_ n1_ n2_ n3_ n4_ n5_ n6_;clear hb hbox hg;have hnb39:=NB243_233.out;have hnc39:=NB233_243.out;have hcz40_0:w38.cell? ⟨gb243,0,none⟩=some (.int .i64 0):=(blk_cell BK243.out 0).trans rfl;have hcz40_1:w38.cell? ⟨gb243,1,none⟩=some (.int .i64 0):=(blk_cell BK243.out 1).trans rfl;have hcz40_2:w38.cell? ⟨gb243,2,none⟩=some (.int .i64 0):=(blk_cell BK243.out 2).trans rfl;have hcz40_3:w38.cell? ⟨gb243,3,none⟩=some (.int .i64 0):=(blk_cell BK243.out 3).trans rfl;have hcz40_4:w38.cell? ⟨gb243,4,none⟩=some (.int .i64 0):=(blk_cell BK243.out 4).trans rfl;have hcz40_5:w38.cell? ⟨gb243,5,none⟩=some (.int .i64 0):=(blk_cell BK243.out 5).trans rfl;have hfz40_0:=blk_frozen BK243.out 0;have hfz40_1:=blk_frozen BK243.out 1;have hfz40_2:=blk_frozen BK243.out 2;have hfz40_3:=blk_frozen BK243.out 3;have hfz40_4:=blk_frozen BK243.out 4;have hfz40_5:=blk_frozen BK243.out 5))
      go_ret
      exact ⟨by first|rfl|(simp [errW_none,errW_some] <;> rfl)|(simp [*,errW_none,errW_some] <;> rfl),by repeat (first|(with_reducible first|exact HB.out|apply zlA|apply zlN|apply zlD|refine zlS ?_ GE233.out|refine zlS ?_ GE243.out)|exact HB.out)⟩
     ·rw [if_neg c30] at H
      have c30b0:(a1 == t239)=false:=beq_eq_false_iff_ne.mpr c30
      have c30b1:(a1 != t239)=true:=bne_iff_ne.mpr c30
      by_cases c41:a1=t240
      ·rw [if_pos c41] at H
       have c41b0:(a1 == t240)=true:=beq_iff_eq.mpr c41
       have c41b1:(a1 != t240)=false:=bne_eq_false_iff_eq.mpr c41
       clear c41
       obtain rfl:=Option.some.inj H
       go_enter Try.func26,Try.ntmps26
       go_wp2_with (first|((with_reducible refine gate_dst (N:=2) rfl ?_);refine box_event ?hg (N:=2) ?hd (cs:=#[.int .i64 a0_0,.int .i64 a0_1]) (t:=24) ?hr ?_;(case hd=>rfl);(case hg=>rfl);(case hr=>first|(go_simp;done)|(go_simp;rfl));intro gb233 hg w42 hbox hb;have n0_:=zm (below_step (by repeat (first|(with_reducible first|exact HB.out|apply zlA|apply zlN|apply zlD)|exact HB.out)) hb);have n1_:=zm (hbox);have n2_:=zm ((by rw [hg];exact (below_size (by repeat (first|(with_reducible first|exact HB.out|apply zlA|apply zlN|apply zlD)|exact HB.out))):w.heap.size≤gb233));have n3_:=zm ((by rw [hg];exact (below_size (by repeat (first|(with_reducible first|exact HB.out|apply zlA|apply zlN|apply zlD)|exact HB.out))):w.heap.size≤gb233));clear HB;have HB:=n0_;have BK233:=n1_;have GW233:=n2_;have GE233:=n3_;clear n0_ n1_ n2_ n3_;clear hb hbox hg;have hcz43_0:w42.cell? ⟨gb233,0,none⟩=some (.int .i64 a0_0):=(blk_cell BK233.out 0).trans rfl;have hcz43_1:w42.cell? ⟨gb233,1,none⟩=some (.int .i64 a0_1):=(blk_cell BK233.out 1).trans rfl;have hfz43_0:=blk_frozen BK233.out 0;have hfz43_1:=blk_frozen BK233.out 1)|((with_reducible refine gate_callee (f:=15) rfl ?_);refine goesL_ (some 9) rfl rfl Try.func15 (by kernel_rfl) rfl #[.agg #[.int .i64 a0_0,.int .i64 a0_1]] rfl (by (try simp only [List.map_toArray,List.map_cons,List.map_nil]);first|done|rfl|(simp only [List.length_drop,List.length_take];rfl)) ?_;(with_reducible refine (layout_Check.calls k a0_0 a0_1 t234 _ A3.out).mono ?_);rintro e w44 ⟨rfl,hb⟩;refine ⟨_,rfl,?_⟩;have n0_:=zm (zbB (g:=gb233) (o:=.cells #[.int .i64 a0_0,.int .i64 a0_1] 24 (0,0)) (by (with_reducible repeat (first|refine zbN ?_ _|refine zbD ?_|refine zbA ?_ _));exact BK233.out) hb);have n1_:=zm (below_step (by repeat (first|(with_reducible first|exact HB.out|apply zlA|apply zlN|apply zlD|refine zlS ?_ GE233.out)|exact HB.out)) hb);clear BK233 HB;have BK233:=n0_;have HB:=n1_;clear n0_ n1_;(try clear hb);(try clear hb2);(try clear hk);(try clear hi);have hcz45_0:w44.cell? ⟨gb233,0,none⟩=some (.int .i64 a0_0):=(blk_cell BK233.out 0).trans rfl;have hcz45_1:w44.cell? ⟨gb233,1,none⟩=some (.int .i64 a0_1):=(blk_cell BK233.out 1).trans rfl;have hfz45_0:=blk_frozen BK233.out 0;have hfz45_1:=blk_frozen BK233.out 1)|((with_reducible refine gate_callee (f:=35) rfl ?_);refine goesL_ (some 14) rfl rfl Try.func35 (by kernel_rfl) rfl #[.agg #[.int .i64 a0_0,.int .i64 a0_1],.int .i64 a1] rfl (by (try simp only [List.map_toArray,List.map_cons,List.map_nil]);first|done|rfl|(simp only [List.length_drop,List.length_take];rfl)) ?_;(with_reducible refine (layout_GroupOf.calls k a0_0 a0_1 a1 t235 true _ A5.out).mono ?_);rintro e w46 ⟨rfl,hb⟩;refine ⟨_,rfl,?_⟩;have n0_:=zm (zbB (g:=gb233) (o:=.cells #[.int .i64 a0_0,.int .i64 a0_1] 24 (0,0)) (by (with_reducible repeat (first|refine zbN ?_ _|refine zbD ?_|refine zbA ?_ _));exact BK233.out) hb);have n1_:=zm (below_step (by repeat (first|(with_reducible first|exact HB.out|apply zlA|apply zlN|apply zlD|refine zlS ?_ GE233.out)|exact HB.out)) hb);clear BK233 HB;have BK233:=n0_;have HB:=n1_;clear n0_ n1_;(try clear hb);(try clear hb2);(try clear hk);(try clear hi);have hcz47_0:w46.cell? ⟨gb233,0,none⟩=some (.int .i64 a0_0):=(blk_cell BK233.out 0).trans rfl;have hcz47_1:w46.cell? ⟨gb233,1,none⟩=some (.int .i64 a0_1):=(blk_cell BK233.out 1).trans rfl;have hfz47_0:=blk_frozen BK233.out 0;have hfz47_1:=blk_frozen BK233.out 1)|((with_reducible refine gate_callee (f:=44) rfl ?_);refine goesL_ (some 21) rfl rfl Try.func44 (by kernel_rfl) rfl #[.agg #[.int .i64 a0_0,.int .i64 a0_1],.int .i64 t235] rfl (by (try simp only [List.map_toArray,List.map_cons,List.map_nil]);first|done|rfl|(simp only [List.length_drop,List.length_take];rfl)) ?_;(with_reducible refine (layout_group.calls k a0_0 a0_1 t235 t237 t238 t239 t240 t241 t242 _ A7.out).mono ?_);rintro e w48 ⟨rfl,hb⟩;refine ⟨_,rfl,?_⟩;have n0_:=zm (zbB (g:=gb233) (o:=.cells #[.int .i64 a0_0,.int .i64 a0_1] 24 (0,0)) (by (with_reducible repeat (first|refine zbN ?_ _|refine zbD ?_|refine zbA ?_ _));exact BK233.out) hb);have n1_:=zm (below_step (by repeat (first|(with_reducible first|exact HB.out|apply zlA|apply zlN|apply zlD|refine zlS ?_ GE233.out)|exact HB.out)) hb);clear BK233 HB;have BK233:=n0_;have HB:=n1_;clear n0_ n1_;(try clear hb);(try clear hb2);(try clear hk);(try clear hi))|((with_reducible refine gate_dst (N:=7) rfl ?_);refine box_event ?hg (N:=7) ?hd (cs:=#[.int .i64 0,.int .i64 0,.int .i64 0,.int .i64 0,.int .i64 0,.int .i64 0]) (t:=30) ?hr ?_;(case hd=>rfl);(case hg=>rfl);(case hr=>first|(go_simp;done)|(go_simp;rfl));intro gb243 hg w49 hbox hb;have n0_:=zm (zbB (g:=gb233) (o:=.cells #[.int .i64 a0_0,.int .i64 a0_1] 24 (0,0)) (by (with_reducible repeat (first|refine zbN ?_ _|refine zbD ?_|refine zbA ?_ _));exact BK233.out) hb);have n1_:=zm (below_step (by repeat (first|(with_reducible first|exact HB.out|apply zlA|apply zlN|apply zlD|refine zlS ?_ GE233.out)|exact HB.out)) hb);have n2_:=zm (hbox);have n3_:=zm ((by rw [hg];exact (below_size (by repeat (first|(with_reducible first|exact HB.out|apply zlA|apply zlN|apply zlD|refine zlS ?_ GE233.out)|exact HB.out))):w.heap.size≤gb243));have n4_:=zm ((by rw [hg];exact (below_size (by repeat (first|(with_reducible first|exact HB.out|apply zlA|apply zlN|apply zlD|refine zlS ?_ GE233.out)|exact HB.out))):w.heap.size≤gb243));have n5_:=zm ((by rw [hg];exact Nat.ne_of_lt (blk_lt (g:=gb233) (o:=.cells #[.int .i64 a0_0,.int .i64 a0_1] 24 (0,0)) (by (with_reducible repeat (first|refine zbN ?_ _|refine zbD ?_|refine zbA ?_ _));exact BK233.out)):gb233≠gb243));have n6_:=zm ((by rw [hg];exact Nat.ne_of_gt (blk_lt (g:=gb233) (o:=.cells #[.int .i64 a0_0,.int .i64 a0_1] 24 (0,0)) (by (with_reducible repeat (first|refine zbN ?_ _|refine zbD ?_|refine zbA ?_ _));exact BK233.out)):gb243≠gb233));clear BK233 HB;have BK233:=n0_;have HB:=n1_;have BK243:=n2_;have GW243:=n3_;have GE243:=n4_;have NB233_243:=n5_;have NB243_233:=n6_;clear n0_ n1_ n2_ n3_ n4_ n5_ n6_;clear hb hbox hg;have hnb50:=NB243_233.out;have hnc50:=NB233_243.out;have hcz51_0:w49.cell? ⟨gb243,0,none⟩=some (.int .i64 0):=(blk_cell BK243.out 0).trans rfl;have hcz51_1:w49.cell? ⟨gb243,1,none⟩=some (.int .i64 0):=(blk_cell BK243.out 1).trans rfl;have hcz51_2:w49.cell? ⟨gb243,2,none⟩=some (.int .i64 0):=(blk_cell BK243.out 2).trans rfl;have hcz51_3:w49.cell? ⟨gb243,3,none⟩=some (.int .i64 0):=(blk_cell BK243.out 3).trans rfl;have hcz51_4:w49.cell? ⟨gb243,4,none⟩=some (.int .i64 0):=(blk_cell BK243.out 4).trans rfl;have hcz51_5:w49.cell? ⟨gb243,5,none⟩=some (.int .i64 0):=(blk_cell BK243.out 5).trans rfl;have hfz51_0:=blk_frozen BK243.out 0;have hfz51_1:=blk_frozen BK243.out 1;have hfz51_2:=blk_frozen BK243.out 2;have hfz51_3:=blk_frozen BK243.out 3;have hfz51_4:=blk_frozen BK243.out 4;have hfz51_5:=blk_frozen BK243.out 5))
       go_ret
       exact ⟨by first|rfl|(simp [errW_none,errW_some] <;> rfl)|(simp [*,errW_none,errW_some] <;> rfl),by repeat (first|(with_reducible first|exact HB.out|apply zlA|apply zlN|apply zlD|refine zlS ?_ GE233.out|refine zlS ?_ GE243.out)|exact HB.out)⟩
      ·rw [if_neg c41] at H
       have c41b0:(a1 == t240)=false:=beq_eq_false_iff_ne.mpr c41
       have c41b1:(a1 != t240)=true:=bne_iff_ne.mpr c41
       by_cases c52:a1 < (wrap64 (t241 + 4))
       ·rw [if_pos c52] at H
        have c52b0:decide (a1 < (wrap64 (t241 + 4)))=true:=decide_eq_true c52
        clear c52
        obtain rfl:=Option.some.inj H
        go_enter Try.func26,Try.ntmps26
        go_wp2_with (first|((with_reducible refine gate_dst (N:=2) rfl ?_);refine box_event ?hg (N:=2) ?hd (cs:=#[.int .i64 a0_0,.int .i64 a0_1]) (t:=24) ?hr ?_;(case hd=>rfl);(case hg=>rfl);(case hr=>first|(go_simp;done)|(go_simp;rfl));intro gb233 hg w53 hbox hb;have n0_:=zm (below_step (by repeat (first|(with_reducible first|exact HB.out|apply zlA|apply zlN|apply zlD)|exact HB.out)) hb);have n1_:=zm (hbox);have n2_:=zm ((by rw [hg];exact (below_size (by repeat (first|(with_reducible first|exact HB.out|apply zlA|apply zlN|apply zlD)|exact HB.out))):w.heap.size≤gb233));have n3_:=zm ((by rw [hg];exact (below_size (by repeat (first|(with_reducible first|exact HB.out|apply zlA|apply zlN|apply zlD)|exact HB.out))):w.heap.size≤gb233));clear HB;have HB:=n0_;have BK233:=n1_;have GW233:=n2_;have GE233:=n3_;clear n0_ n1_ n2_ n3_;clear hb hbox hg;have hcz54_0:w53.cell? ⟨gb233,0,none⟩=some (.int .i64 a0_0):=(blk_cell BK233.out 0).trans rfl;have hcz54_1:w53.cell? ⟨gb233,1,none⟩=some (.int .i64 a0_1):=(blk_cell BK233.out 1).trans rfl;have hfz54_0:=blk_frozen BK233.out 0;have hfz54_1:=blk_frozen BK233.out 1)|((with_reducible refine gate_callee (f:=15) rfl ?_);refine goesL_ (some 9) rfl rfl Try.func15 (by kernel_rfl) rfl #[.agg #[.int .i64 a0_0,.int .i64 a0_1]] rfl (by (try simp only [List.map_toArray,List.map_cons,List.map_nil]);first|done|rfl|(simp only [List.length_drop,List.length_take];rfl)) ?_;(with_reducible refine (layout_Check.calls k a0_0 a0_1 t234 _ A3.out).mono ?_);rintro e w55 ⟨rfl,hb⟩;refine ⟨_,rfl,?_⟩;have n0_:=zm (zbB (g:=gb233) (o:=.cells #[.int .i64 a0_0,.int .i64 a0_1] 24 (0,0)) (by (with_reducible repeat (first|refine zbN ?_ _|refine zbD ?_|refine zbA ?_ _));exact BK233.out) hb);have n1_:=zm (below_step (by repeat (first|(with_reducible first|exact HB.out|apply zlA|apply zlN|apply zlD|refine zlS ?_ GE233.out)|exact HB.out)) hb);clear BK233 HB;have BK233:=n0_;have HB:=n1_;clear n0_ n1_;(try clear hb);(try clear hb2);(try clear hk);(try clear hi);have hcz56_0:w55.cell? ⟨gb233,0,none⟩=some (.int .i64 a0_0):=(blk_cell BK233.out 0).trans rfl;have hcz56_1:w55.cell? ⟨gb233,1,none⟩=some (.int .i64 a0_1):=(blk_cell BK233.out 1).trans rfl;have hfz56_0:=blk_frozen BK233.out 0;have hfz56_1:=blk_frozen BK233.out 1)|((with_reducible refine gate_callee (f:=35) rfl ?_);refine goesL_ (some 14) rfl rfl Try.func35 (by kernel_rfl) rfl #[.agg #[.int .i64 a0_0,.int .i64 a0_1],.int .i64 a1] rfl (by (try simp only [List.map_toArray,List.map_cons,List.map_nil]);first|done|rfl|(simp only [List.length_drop,List.length_take];rfl)) ?_;(with_reducible refine (layout_GroupOf.calls k a0_0 a0_1 a1 t235 true _ A5.out).mono ?_);rintro e w57 ⟨rfl,hb⟩;refine ⟨_,rfl,?_⟩;have n0_:=zm (zbB (g:=gb233) (o:=.cells #[.int .i64 a0_0,.int .i64 a0_1] 24 (0,0)) (by (with_reducible repeat (first|refine zbN ?_ _|refine zbD ?_|refine zbA ?_ _));exact BK233.out) hb);have n1_:=zm (below_step (by repeat (first|(with_reducible first|exact HB.out|apply zlA|apply zlN|apply zlD|refine zlS ?_ GE233.out)|exact HB.out)) hb);clear BK233 HB;have BK233:=n0_;have HB:=n1_;clear n0_ n1_;(try clear hb);(try clear hb2);(try clear hk);(try clear hi);have hcz58_0:w57.cell? ⟨gb233,0,none⟩=some (.int .i64 a0_0):=(blk_cell BK233.out 0).trans rfl;have hcz58_1:w57.cell? ⟨gb233,1,none⟩=some (.int .i64 a0_1):=(blk_cell BK233.out 1).trans rfl;have hfz58_0:=blk_frozen BK233.out 0;have hfz58_1:=blk_frozen BK233.out 1)|((with_reducible refine gate_callee (f:=44) rfl ?_);refine goesL_ (some 21) rfl rfl Try.func44 (by kernel_rfl) rfl #[.agg #[.int .i64 a0_0,.int .i64 a0_1],.int .i64 t235] rfl (by (try simp only [List.map_toArray,List.map_cons,List.map_nil]);first|done|rfl|(simp only [List.length_drop,List.length_take];rfl)) ?_;(with_reducible refine (layout_group.calls k a0_0 a0_1 t235 t237 t238 t239 t240 t241 t242 _ A7.out).mono ?_);rintro e w59 ⟨rfl,hb⟩;refine ⟨_,rfl,?_⟩;have n0_:=zm (zbB (g:=gb233) (o:=.cells #[.int .i64 a0_0,.int .i64 a0_1] 24 (0,0)) (by (with_reducible repeat (first|refine zbN ?_ _|refine zbD ?_|refine zbA ?_ _));exact BK233.out) hb);have n1_:=zm (below_step (by repeat (first|(with_reducible first|exact HB.out|apply zlA|apply zlN|apply zlD|refine zlS ?_ GE233.out)|exact HB.out)) hb);clear BK233 HB;have BK233:=n0_;have HB:=n1_;clear n0_ n1_;(try clear hb);(try clear hb2);(try clear hk);(try clear hi))|((with_reducible refine gate_dst (N:=7) rfl ?_);refine box_event ?hg (N:=7) ?hd (cs:=#[.int .i64 0,.int .i64 0,.int .i64 0,.int .i64 0,.int .i64 0,.int .i64 0]) (t:=30) ?hr ?_;(case hd=>rfl);(case hg=>rfl);(case hr=>first|(go_simp;done)|(go_simp;rfl));intro gb243 hg w60 hbox hb;have n0_:=zm (zbB (g:=gb233) (o:=.cells #[.int .i64 a0_0,.int .i64 a0_1] 24 (0,0)) (by (with_reducible repeat (first|refine zbN ?_ _|refine zbD ?_|refine zbA ?_ _));exact BK233.out) hb);have n1_:=zm (below_step (by repeat (first|(with_reducible first|exact HB.out|apply zlA|apply zlN|apply zlD|refine zlS ?_ GE233.out)|exact HB.out)) hb);have n2_:=zm (hbox);have n3_:=zm ((by rw [hg];exact (below_size (by repeat (first|(with_reducible first|exact HB.out|apply zlA|apply zlN|apply zlD|refine zlS ?_ GE233.out)|exact HB.out))):w.heap.size≤gb243));have n4_:=zm ((by rw [hg];exact (below_size (by repeat (first|(with_reducible first|exact HB.out|apply zlA|apply zlN|apply zlD|refine zlS ?_ GE233.out)|exact HB.out))):w.heap.size≤gb243));have n5_:=zm ((by rw [hg];exact Nat.ne_of_lt (blk_lt (g:=gb233) (o:=.cells #[.int .i64 a0_0,.int .i64 a0_1] 24 (0,0)) (by (with_reducible repeat (first|refine zbN ?_ _|refine zbD ?_|refine zbA ?_ _));exact BK233.out)):gb233≠gb243));have n6_:=zm ((by rw [hg];exact Nat.ne_of_gt (blk_lt (g:=gb233) (o:=.cells #[.int .i64 a0_0,.int .i64 a0_1] 24 (0,0)) (by (with_reducible repeat (first|refine zbN ?_ _|refine zbD ?_|refine zbA ?_ _));exact BK233.out)):gb243≠gb233));clear BK233 HB;have BK233:=n0_;have HB:=n1_;have BK243:=n2_;have GW243:=n3_;have GE243:=n4_;have NB233_243:=n5_;have NB243_233:=n6_;clear n0_ n1_ n2_ n3_ n4_ n5_ n6_;clear hb hbox hg;have hnb61:=NB243_233.out;have hnc61:=NB233_243.out;have hcz62_0:w60.cell? ⟨gb243,0,none⟩=some (.int .i64 0):=(blk_cell BK243.out 0).trans rfl;have hcz62_1:w60.cell? ⟨gb243,1,none⟩=some (.int .i64 0):=(blk_cell BK243.out 1).trans rfl;have hcz62_2:w60.cell? ⟨gb243,2,none⟩=some (.int .i64 0):=(blk_cell BK243.out 2).trans rfl;have hcz62_3:w60.cell? ⟨gb243,3,none⟩=some (.int .i64 0):=(blk_cell BK243.out 3).trans rfl;have hcz62_4:w60.cell? ⟨gb243,4,none⟩=some (.int .i64 0):=(blk_cell BK243.out 4).trans rfl;have hcz62_5:w60.cell? ⟨gb243,5,none⟩=some (.int .i64 0):=(blk_cell BK243.out 5).trans rfl;have hfz62_0:=blk_frozen BK243.out 0;have hfz62_1:=blk_frozen BK243.out 1;have hfz62_2:=blk_frozen BK243.out 2;have hfz62_3:=blk_frozen BK243.out 3;have hfz62_4:=blk_frozen BK243.out 4;have hfz62_5:=blk_frozen BK243.out 5))
        go_ret
        exact ⟨by first|rfl|(simp [errW_none,errW_some] <;> rfl)|(simp [*,errW_none,errW_some] <;> rfl),by repeat (first|(with_reducible first|exact HB.out|apply zlA|apply zlN|apply zlD|refine zlS ?_ GE233.out|refine zlS ?_ GE243.out)|exact HB.out)⟩
       ·rw [if_neg c52] at H
        have c52b0:decide (a1 < (wrap64 (t241 + 4)))=false:=decide_eq_false c52
        clear c52
        by_cases c63:a1 < t242
        ·rw [if_pos c63] at H
         have c63b0:decide (a1 < t242)=true:=decide_eq_true c63
         clear c63
         obtain rfl:=Option.some.inj H
         go_enter Try.func26,Try.ntmps26
         go_wp2_with (first|((with_reducible refine gate_dst (N:=2) rfl ?_);refine box_event ?hg (N:=2) ?hd (cs:=#[.int .i64 a0_0,.int .i64 a0_1]) (t:=24) ?hr ?_;(case hd=>rfl);(case hg=>rfl);(case hr=>first|(go_simp;done)|(go_simp;rfl));intro gb233 hg w64 hbox hb;have n0_:=zm (below_step (by repeat (first|(with_reducible first|exact HB.out|apply zlA|apply zlN|apply zlD)|exact HB.out)) hb);have n1_:=zm (hbox);have n2_:=zm ((by rw [hg];exact (below_size (by repeat (first|(with_reducible first|exact HB.out|apply zlA|apply zlN|apply zlD)|exact HB.out))):w.heap.size≤gb233));have n3_:=zm ((by rw [hg];exact (below_size (by repeat (first|(with_reducible first|exact HB.out|apply zlA|apply zlN|apply zlD)|exact HB.out))):w.heap.size≤gb233));clear HB;have HB:=n0_;have BK233:=n1_;have GW233:=n2_;have GE233:=n3_;clear n0_ n1_ n2_ n3_;clear hb hbox hg;have hcz65_0:w64.cell? ⟨gb233,0,none⟩=some (.int .i64 a0_0):=(blk_cell BK233.out 0).trans rfl;have hcz65_1:w64.cell? ⟨gb233,1,none⟩=some (.int .i64 a0_1):=(blk_cell BK233.out 1).trans rfl;have hfz65_0:=blk_frozen BK233.out 0;have hfz65_1:=blk_frozen BK233.out 1)|((with_reducible refine gate_callee (f:=15) rfl ?_);refine goesL_ (some 9) rfl rfl Try.func15 (by kernel_rfl) rfl #[.agg #[.int .i64 a0_0,.int .i64 a0_1]] rfl (by (try simp only [List.map_toArray,List.map_cons,List.map_nil]);first|done|rfl|(simp only [List.length_drop,List.length_take];rfl)) ?_;(with_reducible refine (layout_Check.calls k a0_0 a0_1 t234 _ A3.out).mono ?_);rintro e w66 ⟨rfl,hb⟩;refine ⟨_,rfl,?_⟩;have n0_:=zm (zbB (g:=gb233) (o:=.cells #[.int .i64 a0_0,.int .i64 a0_1] 24 (0,0)) (by (with_reducible repeat (first|refine zbN ?_ _|refine zbD ?_|refine zbA ?_ _));exact BK233.out) hb);have n1_:=zm (below_step (by repeat (first|(with_reducible first|exact HB.out|apply zlA|apply zlN|apply zlD|refine zlS ?_ GE233.out)|exact HB.out)) hb);clear BK233 HB;have BK233:=n0_;have HB:=n1_;clear n0_ n1_;(try clear hb);(try clear hb2);(try clear hk);(try clear hi);have hcz67_0:w66.cell? ⟨gb233,0,none⟩=some (.int .i64 a0_0):=(blk_cell BK233.out 0).trans rfl;have hcz67_1:w66.cell? ⟨gb233,1,none⟩=some (.int .i64 a0_1):=(blk_cell BK233.out 1).trans rfl;have hfz67_0:=blk_frozen BK233.out 0;have hfz67_1:=blk_frozen BK233.out 1)|((with_reducible refine gate_callee (f:=35) rfl ?_);refine goesL_ (some 14) rfl rfl Try.func35 (by kernel_rfl) rfl #[.agg #[.int .i64 a0_0,.int .i64 a0_1],.int .i64 a1] rfl (by (try simp only [List.map_toArray,List.map_cons,List.map_nil]);first|done|rfl|(simp only [List.length_drop,List.length_take];rfl)) ?_;(with_reducible refine (layout_GroupOf.calls k a0_0 a0_1 a1 t235 true _ A5.out).mono ?_);rintro e w68 ⟨rfl,hb⟩;refine ⟨_,rfl,?_⟩;have n0_:=zm (zbB (g:=gb233) (o:=.cells #[.int .i64 a0_0,.int .i64 a0_1] 24 (0,0)) (by (with_reducible repeat (first|refine zbN ?_ _|refine zbD ?_|refine zbA ?_ _));exact BK233.out) hb);have n1_:=zm (below_step (by repeat (first|(with_reducible first|exact HB.out|apply zlA|apply zlN|apply zlD|refine zlS ?_ GE233.out)|exact HB.out)) hb);clear BK233 HB;have BK233:=n0_;have HB:=n1_;clear n0_ n1_;(try clear hb);(try clear hb2);(try clear hk);(try clear hi);have hcz69_0:w68.cell? ⟨gb233,0,none⟩=some (.int .i64 a0_0):=(blk_cell BK233.out 0).trans rfl;have hcz69_1:w68.cell? ⟨gb233,1,none⟩=some (.int .i64 a0_1):=(blk_cell BK233.out 1).trans rfl;have hfz69_0:=blk_frozen BK233.out 0;have hfz69_1:=blk_frozen BK233.out 1)|((with_reducible refine gate_callee (f:=44) rfl ?_);refine goesL_ (some 21) rfl rfl Try.func44 (by kernel_rfl) rfl #[.agg #[.int .i64 a0_0,.int .i64 a0_1],.int .i64 t235] rfl (by (try simp only [List.map_toArray,List.map_cons,List.map_nil]);first|done|rfl|(simp only [List.length_drop,List.length_take];rfl)) ?_;(with_reducible refine (layout_group.calls k a0_0 a0_1 t235 t237 t238 t239 t240 t241 t242 _ A7.out).mono ?_);rintro e w70 ⟨rfl,hb⟩;refine ⟨_,rfl,?_⟩;have n0_:=zm (zbB (g:=gb233) (o:=.cells #[.int .i64 a0_0,.int .i64 a0_1] 24 (0,0)) (by (with_reducible repeat (first|refine zbN ?_ _|refine zbD ?_|refine zbA ?_ _));exact BK233.out) hb);have n1_:=zm (below_step (by repeat (first|(with_reducible first|exact HB.out|apply zlA|apply zlN|apply zlD|refine zlS ?_ GE233.out)|exact HB.out)) hb);clear BK233 HB;have BK233:=n0_;have HB:=n1_;clear n0_ n1_;(try clear hb);(try clear hb2);(try clear hk);(try clear hi))|((with_reducible refine gate_dst (N:=7) rfl ?_);refine box_event ?hg (N:=7) ?hd (cs:=#[.int .i64 0,.int .i64 0,.int .i64 0,.int .i64 0,.int .i64 0,.int .i64 0]) (t:=30) ?hr ?_;(case hd=>rfl);(case hg=>rfl);(case hr=>first|(go_simp;done)|(go_simp;rfl));intro gb243 hg w71 hbox hb;have n0_:=zm (zbB (g:=gb233) (o:=.cells #[.int .i64 a0_0,.int .i64 a0_1] 24 (0,0)) (by (with_reducible repeat (first|refine zbN ?_ _|refine zbD ?_|refine zbA ?_ _));exact BK233.out) hb);have n1_:=zm (below_step (by repeat (first|(with_reducible first|exact HB.out|apply zlA|apply zlN|apply zlD|refine zlS ?_ GE233.out)|exact HB.out)) hb);have n2_:=zm (hbox);have n3_:=zm ((by rw [hg];exact (below_size (by repeat (first|(with_reducible first|exact HB.out|apply zlA|apply zlN|apply zlD|refine zlS ?_ GE233.out)|exact HB.out))):w.heap.size≤gb243));have n4_:=zm ((by rw [hg];exact (below_size (by repeat (first|(with_reducible first|exact HB.out|apply zlA|apply zlN|apply zlD|refine zlS ?_ GE233.out)|exact HB.out))):w.heap.size≤gb243));have n5_:=zm ((by rw [hg];exact Nat.ne_of_lt (blk_lt (g:=gb233) (o:=.cells #[.int .i64 a0_0,.int .i64 a0_1] 24 (0,0)) (by (with_reducible repeat (first|refine zbN ?_ _|refine zbD ?_|refine zbA ?_ _));exact BK233.out)):gb233≠gb243));have n6_:=zm ((by rw [hg];exact Nat.ne_of_gt (blk_lt (g:=gb233) (o:=.cells #[.int .i64 a0_0,.int .i64 a0_1] 24 (0,0)) (by (with_reducible repeat (first|refine zbN ?_ _|refine zbD ?_|refine zbA ?_ _));exact BK233.out)):gb243≠gb233));clear BK233 HB;have BK233:=n0_;have HB:=n1_;have BK243:=n2_;have GW243:=n3_;have GE243:=n4_;have NB233_243:=n5_;have NB243_233:=n6_;clear n0_ n1_ n2_ n3_ n4_ n5_ n6_;clear hb hbox hg;have hnb72:=NB243_233.out;have hnc72:=NB233_243.out;have hcz73_0:w71.cell? ⟨gb243,0,none⟩=some (.int .i64 0):=(blk_cell BK243.out 0).trans rfl;have hcz73_1:w71.cell? ⟨gb243,1,none⟩=some (.int .i64 0):=(blk_cell BK243.out 1).trans rfl;have hcz73_2:w71.cell? ⟨gb243,2,none⟩=some (.int .i64 0):=(blk_cell BK243.out 2).trans rfl;have hcz73_3:w71.cell? ⟨gb243,3,none⟩=some (.int .i64 0):=(blk_cell BK243.out 3).trans rfl;have hcz73_4:w71.cell? ⟨gb243,4,none⟩=some (.int .i64 0):=(blk_cell BK243.out 4).trans rfl;have hcz73_5:w71.cell? ⟨gb243,5,none⟩=some (.int .i64 0):=(blk_cell BK243.out 5).trans rfl;have hfz73_0:=blk_frozen BK243.out 0;have hfz73_1:=blk_frozen BK243.out 1;have hfz73_2:=blk_frozen BK243.out 2;have hfz73_3:=blk_frozen BK243.out 3;have hfz73_4:=blk_frozen BK243.out 4;have hfz73_5:=blk_frozen BK243.out 5))
         go_ret
         exact ⟨by first|rfl|(simp [errW_none,errW_some] <;> rfl)|(simp [*,errW_none,errW_some] <;> rfl),by repeat (first|(with_reducible first|exact HB.out|apply zlA|apply zlN|apply zlD|refine zlS ?_ GE233.out|refine zlS ?_ GE243.out)|exact HB.out)⟩
        ·rw [if_neg c63] at H
         have c63b0:decide (a1 < t242)=false:=decide_eq_false c63
         clear c63
         obtain rfl:=Option.some.inj H
         go_enter Try.func26,Try.ntmps26
         go_wp2_with (first|((with_reducible refine gate_dst (N:=2) rfl ?_);refine box_event ?hg (N:=2) ?hd (cs:=#[.int .i64 a0_0,.int .i64 a0_1]) (t:=24) ?hr ?_;(case hd=>rfl);(case hg=>rfl);(case hr=>first|(go_simp;done)|(go_simp;rfl));intro gb233 hg w74 hbox hb;have n0_:=zm (below_step (by repeat (first|(with_reducible first|exact HB.out|apply zlA|apply zlN|apply zlD)|exact HB.out)) hb);have n1_:=zm (hbox);have n2_:=zm ((by rw [hg];exact (below_size (by repeat (first|(with_reducible first|exact HB.out|apply zlA|apply zlN|apply zlD)|exact HB.out))):w.heap.size≤gb233));have n3_:=zm ((by rw [hg];exact (below_size (by repeat (first|(with_reducible first|exact HB.out|apply zlA|apply zlN|apply zlD)|exact HB.out))):w.heap.size≤gb233));clear HB;have HB:=n0_;have BK233:=n1_;have GW233:=n2_;have GE233:=n3_;clear n0_ n1_ n2_ n3_;clear hb hbox hg;have hcz75_0:w74.cell? ⟨gb233,0,none⟩=some (.int .i64 a0_0):=(blk_cell BK233.out 0).trans rfl;have hcz75_1:w74.cell? ⟨gb233,1,none⟩=some (.int .i64 a0_1):=(blk_cell BK233.out 1).trans rfl;have hfz75_0:=blk_frozen BK233.out 0;have hfz75_1:=blk_frozen BK233.out 1)|((with_reducible refine gate_callee (f:=15) rfl ?_);refine goesL_ (some 9) rfl rfl Try.func15 (by kernel_rfl) rfl #[.agg #[.int .i64 a0_0,.int .i64 a0_1]] rfl (by (try simp only [List.map_toArray,List.map_cons,List.map_nil]);first|done|rfl|(simp only [List.length_drop,List.length_take];rfl)) ?_;(with_reducible refine (layout_Check.calls k a0_0 a0_1 t234 _ A3.out).mono ?_);rintro e w76 ⟨rfl,hb⟩;refine ⟨_,rfl,?_⟩;have n0_:=zm (zbB (g:=gb233) (o:=.cells #[.int .i64 a0_0,.int .i64 a0_1] 24 (0,0)) (by (with_reducible repeat (first|refine zbN ?_ _|refine zbD ?_|refine zbA ?_ _));exact BK233.out) hb);have n1_:=zm (below_step (by repeat (first|(with_reducible first|exact HB.out|apply zlA|apply zlN|apply zlD|refine zlS ?_ GE233.out)|exact HB.out)) hb);clear BK233 HB;have BK233:=n0_;have HB:=n1_;clear n0_ n1_;(try clear hb);(try clear hb2);(try clear hk);(try clear hi);have hcz77_0:w76.cell? ⟨gb233,0,none⟩=some (.int .i64 a0_0):=(blk_cell BK233.out 0).trans rfl;have hcz77_1:w76.cell? ⟨gb233,1,none⟩=some (.int .i64 a0_1):=(blk_cell BK233.out 1).trans rfl;have hfz77_0:=blk_frozen BK233.out 0;have hfz77_1:=blk_frozen BK233.out 1)|((with_reducible refine gate_callee (f:=35) rfl ?_);refine goesL_ (some 14) rfl rfl Try.func35 (by kernel_rfl) rfl #[.agg #[.int .i64 a0_0,.int .i64 a0_1],.int .i64 a1] rfl (by (try simp only [List.map_toArray,List.map_cons,List.map_nil]);first|done|rfl|(simp only [List.length_drop,List.length_take];rfl)) ?_;(with_reducible refine (layout_GroupOf.calls k a0_0 a0_1 a1 t235 true _ A5.out).mono ?_);rintro e w78 ⟨rfl,hb⟩;refine ⟨_,rfl,?_⟩;have n0_:=zm (zbB (g:=gb233) (o:=.cells #[.int .i64 a0_0,.int .i64 a0_1] 24 (0,0)) (by (with_reducible repeat (first|refine zbN ?_ _|refine zbD ?_|refine zbA ?_ _));exact BK233.out) hb);have n1_:=zm (below_step (by repeat (first|(with_reducible first|exact HB.out|apply zlA|apply zlN|apply zlD|refine zlS ?_ GE233.out)|exact HB.out)) hb);clear BK233 HB;have BK233:=n0_;have HB:=n1_;clear n0_ n1_;(try clear hb);(try clear hb2);(try clear hk);(try clear hi);have hcz79_0:w78.cell? ⟨gb233,0,none⟩=some (.int .i64 a0_0):=(blk_cell BK233.out 0).trans rfl;have hcz79_1:w78.cell? ⟨gb233,1,none⟩=some (.int .i64 a0_1):=(blk_cell BK233.out 1).trans rfl;have hfz79_0:=blk_frozen BK233.out 0;have hfz79_1:=blk_frozen BK233.out 1)|((with_reducible refine gate_callee (f:=44) rfl ?_);refine goesL_ (some 21) rfl rfl Try.func44 (by kernel_rfl) rfl #[.agg #[.int .i64 a0_0,.int .i64 a0_1],.int .i64 t235] rfl (by (try simp only [List.map_toArray,List.map_cons,List.map_nil]);first|done|rfl|(simp only [List.length_drop,List.length_take];rfl)) ?_;(with_reducible refine (layout_group.calls k a0_0 a0_1 t235 t237 t238 t239 t240 t241 t242 _ A7.out).mono ?_);rintro e w80 ⟨rfl,hb⟩;refine ⟨_,rfl,?_⟩;have n0_:=zm (zbB (g:=gb233) (o:=.cells #[.int .i64 a0_0,.int .i64 a0_1] 24 (0,0)) (by (with_reducible repeat (first|refine zbN ?_ _|refine zbD ?_|refine zbA ?_ _));exact BK233.out) hb);have n1_:=zm (below_step (by repeat (first|(with_reducible first|exact HB.out|apply zlA|apply zlN|apply zlD|refine zlS ?_ GE233.out)|exact HB.out)) hb);clear BK233 HB;have BK233:=n0_;have HB:=n1_;clear n0_ n1_;(try clear hb);(try clear hb2);(try clear hk);(try clear hi))|((with_reducible refine gate_dst (N:=7) rfl ?_);refine box_event ?hg (N:=7) ?hd (cs:=#[.int .i64 0,.int .i64 0,.int .i64 0,.int .i64 0,.int .i64 0,.int .i64 0]) (t:=30) ?hr ?_;(case hd=>rfl);(case hg=>rfl);(case hr=>first|(go_simp;done)|(go_simp;rfl));intro gb243 hg w81 hbox hb;have n0_:=zm (zbB (g:=gb233) (o:=.cells #[.int .i64 a0_0,.int .i64 a0_1] 24 (0,0)) (by (with_reducible repeat (first|refine zbN ?_ _|refine zbD ?_|refine zbA ?_ _));exact BK233.out) hb);have n1_:=zm (below_step (by repeat (first|(with_reducible first|exact HB.out|apply zlA|apply zlN|apply zlD|refine zlS ?_ GE233.out)|exact HB.out)) hb);have n2_:=zm (hbox);have n3_:=zm ((by rw [hg];exact (below_size (by repeat (first|(with_reducible first|exact HB.out|apply zlA|apply zlN|apply zlD|refine zlS ?_ GE233.out)|exact HB.out))):w.heap.size≤gb243));have n4_:=zm ((by rw [hg];exact (below_size (by repeat (first|(with_reducible first|exact HB.out|apply zlA|apply zlN|apply zlD|refine zlS ?_ GE233.out)|exact HB.out))):w.heap.size≤gb243));have n5_:=zm ((by rw [hg];exact Nat.ne_of_lt (blk_lt (g:=gb233) (o:=.cells #[.int .i64 a0_0,.int .i64 a0_1] 24 (0,0)) (by (with_reducible repeat (first|refine zbN ?_ _|refine zbD ?_|refine zbA ?_ _));exact BK233.out)):gb233≠gb243));have n6_:=zm ((by rw [hg];exact Nat.ne_of_gt (blk_lt (g:=gb233) (o:=.cells #[.int .i64 a0_0,.int .i64 a0_1] 24 (0,0)) (by (with_reducible repeat (first|refine zbN ?_ _|refine zbD ?_|refine zbA ?_ _));exact BK233.out)):gb243≠gb233));clear BK233 HB;have BK233:=n0_;have HB:=n1_;have BK243:=n2_;have GW243:=n3_;have GE243:=n4_;have NB233_243:=n5_;have NB243_233:=n6_;clear n0_ n1_ n2_ n3_ n4_ n5_ n6_;clear hb hbox hg;have hnb82:=NB243_233.out;have hnc82:=NB233_243.out;have hcz83_0:w81.cell? ⟨gb243,0,none⟩=some (.int .i64 0):=(blk_cell BK243.out 0).trans rfl;have hcz83_1:w81.cell? ⟨gb243,1,none⟩=some (.int .i64 0):=(blk_cell BK243.out 1).trans rfl;have hcz83_2:w81.cell? ⟨gb243,2,none⟩=some (.int .i64 0):=(blk_cell BK243.out 2).trans rfl;have hcz83_3:w81.cell? ⟨gb243,3,none⟩=some (.int .i64 0):=(blk_cell BK243.out 3).trans rfl;have hcz83_4:w81.cell? ⟨gb243,4,none⟩=some (.int .i64 0):=(blk_cell BK243.out 4).trans rfl;have hcz83_5:w81.cell? ⟨gb243,5,none⟩=some (.int .i64 0):=(blk_cell BK243.out 5).trans rfl;have hfz83_0:=blk_frozen BK243.out 0;have hfz83_1:=blk_frozen BK243.out 1;have hfz83_2:=blk_frozen BK243.out 2;have hfz83_3:=blk_frozen BK243.out 3;have hfz83_4:=blk_frozen BK243.out 4;have hfz83_5:=blk_frozen BK243.out 5))
         go_ret
         exact ⟨by first|rfl|(simp [errW_none,errW_some] <;> rfl)|(simp [*,errW_none,errW_some] <;> rfl),by repeat (first|(with_reducible first|exact HB.out|apply zlA|apply zlN|apply zlD|refine zlS ?_ GE233.out|refine zlS ?_ GE243.out)|exact HB.out)⟩
  ·replace c6:=Bool.eq_false_iff.mpr c6
   subst c6
   have H1:(some 8)=some r:=by rw [if_neg (show ¬ (false=true) by decide)] at H;exact H
   clear H
   have H:=H1
   clear H1
   obtain rfl:=Option.some.inj H
   go_enter Try.func26,Try.ntmps26
   go_wp2_with (first|((with_reducible refine gate_dst (N:=2) rfl ?_);refine box_event ?hg (N:=2) ?hd (cs:=#[.int .i64 a0_0,.int .i64 a0_1]) (t:=24) ?hr ?_;(case hd=>rfl);(case hg=>rfl);(case hr=>first|(go_simp;done)|(go_simp;rfl));intro gb233 hg w84 hbox hb;have n0_:=zm (below_step (by repeat (first|(with_reducible first|exact HB.out|apply zlA|apply zlN|apply zlD)|exact HB.out)) hb);have n1_:=zm (hbox);have n2_:=zm ((by rw [hg];exact (below_size (by repeat (first|(with_reducible first|exact HB.out|apply zlA|apply zlN|apply zlD)|exact HB.out))):w.heap.size≤gb233));have n3_:=zm ((by rw [hg];exact (below_size (by repeat (first|(with_reducible first|exact HB.out|apply zlA|apply zlN|apply zlD)|exact HB.out))):w.heap.size≤gb233));clear HB;have HB:=n0_;have BK233:=n1_;have GW233:=n2_;have GE233:=n3_;clear n0_ n1_ n2_ n3_;clear hb hbox hg;have hcz85_0:w84.cell? ⟨gb233,0,none⟩=some (.int .i64 a0_0):=(blk_cell BK233.out 0).trans rfl;have hcz85_1:w84.cell? ⟨gb233,1,none⟩=some (.int .i64 a0_1):=(blk_cell BK233.out 1).trans rfl;have hfz85_0:=blk_frozen BK233.out 0;have hfz85_1:=blk_frozen BK233.out 1)|((with_reducible refine gate_callee (f:=15) rfl ?_);refine goesL_ (some 9) rfl rfl Try.func15 (by kernel_rfl) rfl #[.agg #[.int .i64 a0_0,.int .i64 a0_1]] rfl (by (try simp only [List.map_toArray,List.map_cons,List.map_nil]);first|done|rfl|(simp only [List.length_drop,List.length_take];rfl)) ?_;(with_reducible refine (layout_Check.calls k a0_0 a0_1 t234 _ A3.out).mono ?_);rintro e w86 ⟨rfl,hb⟩;refine ⟨_,rfl,?_⟩;have n0_:=zm (zbB (g:=gb233) (o:=.cells #[.int .i64 a0_0,.int .i64 a0_1] 24 (0,0)) (by (with_reducible repeat (first|refine zbN ?_ _|refine zbD ?_|refine zbA ?_ _));exact BK233.out) hb);have n1_:=zm (below_step (by repeat (first|(with_reducible first|exact HB.out|apply zlA|apply zlN|apply zlD|refine zlS ?_ GE233.out)|exact HB.out)) hb);clear BK233 HB;have BK233:=n0_;have HB:=n1_;clear n0_ n1_;(try clear hb);(try clear hb2);(try clear hk);(try clear hi);have hcz87_0:w86.cell? ⟨gb233,0,none⟩=some (.int .i64 a0_0):=(blk_cell BK233.out 0).trans rfl;have hcz87_1:w86.cell? ⟨gb233,1,none⟩=some (.int .i64 a0_1):=(blk_cell BK233.out 1).trans rfl;have hfz87_0:=blk_frozen BK233.out 0;have hfz87_1:=blk_frozen BK233.out 1)|((with_reducible refine gate_callee (f:=35) rfl ?_);refine goesL_ (some 14) rfl rfl Try.func35 (by kernel_rfl) rfl #[.agg #[.int .i64 a0_0,.int .i64 a0_1],.int .i64 a1] rfl (by (try simp only [List.map_toArray,List.map_cons,List.map_nil]);first|done|rfl|(simp only [List.length_drop,List.length_take];rfl)) ?_;(with_reducible refine (layout_GroupOf.calls k a0_0 a0_1 a1 t235 false _ A5.out).mono ?_);rintro e w88 ⟨rfl,hb⟩;refine ⟨_,rfl,?_⟩;have n0_:=zm (zbB (g:=gb233) (o:=.cells #[.int .i64 a0_0,.int .i64 a0_1] 24 (0,0)) (by (with_reducible repeat (first|refine zbN ?_ _|refine zbD ?_|refine zbA ?_ _));exact BK233.out) hb);have n1_:=zm (below_step (by repeat (first|(with_reducible first|exact HB.out|apply zlA|apply zlN|apply zlD|refine zlS ?_ GE233.out)|exact HB.out)) hb);clear BK233 HB;have BK233:=n0_;have HB:=n1_;clear n0_ n1_;(try clear hb);(try clear hb2);(try clear hk);(try clear hi)))
   go_ret
   exact ⟨by first|rfl|(simp [errW_none,errW_some] <;> rfl)|(simp [*,errW_none,errW_some] <;> rfl),by repeat (first|(with_reducible first|exact HB.out|apply zlA|apply zlN|apply zlD|refine zlS ?_ GE233.out)|exact HB.out)⟩
 ·rw [if_neg c4] at H
  have c4b0:(t234 == 0)=false:=beq_eq_false_iff_ne.mpr c4
  have c4b1:(t234 != 0)=true:=bne_iff_ne.mpr c4
  obtain rfl:=Option.some.inj H
  go_enter Try.func26,Try.ntmps26
  go_wp2_with (first|((with_reducible refine gate_dst (N:=2) rfl ?_);refine box_event ?hg (N:=2) ?hd (cs:=#[.int .i64 a0_0,.int .i64 a0_1]) (t:=24) ?hr ?_;(case hd=>rfl);(case hg=>rfl);(case hr=>first|(go_simp;done)|(go_simp;rfl));intro gb233 hg w89 hbox hb;have n0_:=zm (below_step (by repeat (first|(with_reducible first|exact HB.out|apply zlA|apply zlN|apply zlD)|exact HB.out)) hb);have n1_:=zm (hbox);have n2_:=zm ((by rw [hg];exact (below_size (by repeat (first|(with_reducible first|exact HB.out|apply zlA|apply zlN|apply zlD)|exact HB.out))):w.heap.size≤gb233));have n3_:=zm ((by rw [hg];exact (below_size (by repeat (first|(with_reducible first|exact HB.out|apply zlA|apply zlN|apply zlD)|exact HB.out))):w.heap.size≤gb233));clear HB;have HB:=n0_;have BK233:=n1_;have GW233:=n2_;have GE233:=n3_;clear n0_ n1_ n2_ n3_;clear hb hbox hg;have hcz90_0:w89.cell? ⟨gb233,0,none⟩=some (.int .i64 a0_0):=(blk_cell BK233.out 0).trans rfl;have hcz90_1:w89.cell? ⟨gb233,1,none⟩=some (.int .i64 a0_1):=(blk_cell BK233.out 1).trans rfl;have hfz90_0:=blk_frozen BK233.out 0;have hfz90_1:=blk_frozen BK233.out 1)|((with_reducible refine gate_callee (f:=15) rfl ?_);refine goesL_ (some 9) rfl rfl Try.func15 (by kernel_rfl) rfl #[.agg #[.int .i64 a0_0,.int .i64 a0_1]] rfl (by (try simp only [List.map_toArray,List.map_cons,List.map_nil]);first|done|rfl|(simp only [List.length_drop,List.length_take];rfl)) ?_;(with_reducible refine (layout_Check.calls k a0_0 a0_1 t234 _ A3.out).mono ?_);rintro e w91 ⟨rfl,hb⟩;refine ⟨_,rfl,?_⟩;have n0_:=zm (zbB (g:=gb233) (o:=.cells #[.int .i64 a0_0,.int .i64 a0_1] 24 (0,0)) (by (with_reducible repeat (first|refine zbN ?_ _|refine zbD ?_|refine zbA ?_ _));exact BK233.out) hb);have n1_:=zm (below_step (by repeat (first|(with_reducible first|exact HB.out|apply zlA|apply zlN|apply zlD|refine zlS ?_ GE233.out)|exact HB.out)) hb);clear BK233 HB;have BK233:=n0_;have HB:=n1_;clear n0_ n1_;(try clear hb);(try clear hb2);(try clear hk);(try clear hi)))
  go_ret
  exact ⟨by first|rfl|(simp [errW_none,errW_some] <;> rfl)|(simp [*,errW_none,errW_some] <;> rfl),by repeat (first|(with_reducible first|exact HB.out|apply zlA|apply zlN|apply zlD|refine zlS ?_ GE233.out)|exact HB.out)⟩
end Go.Proofs.Ytbdnmdmfnopihaa.Print
end
section
namespace Go.Proofs.Ytbdnmdmfnopihaa.Print
open Go.RowKit Go.Proofs.YtbdnmdmfnopihaaW.PrintWords Go.Proofs.YtbdnmdmfnopihaaW.PrintLast Go.Proofs.YtbdnmdmfnopihaaW.PrintMore
attribute [local go_sem] max2_int min2_int max_two min_two max_three min_three max_four min_four   -- for this text's walks alone
attribute [local go_sem ↓] Go.Proofs.Ytbdnmdmfnopihaa.Sem.isSome_setCell
attribute [local go_sem] Go.Instr.field Go.asAgg
set_option linter.unusedVariables false
set_option linter.unusedSimpArgs false
-- RANGEFUNC
section
open Go.Shelf
attribute [local go_sem] Oper.semAt_some
namespace Cap
abbrev T6:=Int × Int × Int × Int × Int × Int
def upto {α:Type} (f:Nat → α) (k:Nat):List α:=(List.range k).map f
theorem upto_succ {α:Type} (f:Nat → α) (k:Nat):upto f (k + 1)=upto f k ++ [f k]:=by simp [upto,List.range_succ]
theorem upto_length {α:Type} (f:Nat → α) (k:Nat):(upto f k).length=k:=by simp [upto]
abbrev val6 (x:T6):Value:=.agg #[.int .i64 x.1,.int .i64 x.2.1,.int .i64 x.2.2.1,.int .i64 x.2.2.2.1,.int .i64 x.2.2.2.2.1,.int .i64 x.2.2.2.2.2]
abbrev encs (p:Nat × T6):Array Value:=#[.int .i64 (p.1:Int),val6 p.2]
def KpB (Bs:Nat) (b j:Int) (A B:World):Prop:=A.heap[Bs]?=some (.cells #[.int .i64 b,.int .i64 j] 24 (0,0)) → B.heap[Bs]?=some (.cells #[.int .i64 b,.int .i64 j] 24 (0,0))
theorem below_grown {A B:World} (h:Below A.heap.size A B):A.grownBy B none:=⟨h.os,h.tape,h.output,h.size,fun k hk _=>h.block k hk⟩
set_option maxRecDepth 100000 in
set_option maxHeartbeats 4000000 in
theorem all_stops (k:Nat) (b j:Int) (N:Nat) (hN:N≤64) (gs:Nat → T6) (hG:layout_Groups.f k b j=some (N:Int)) (hg:∀ i,i < N → layout_group.f k b j (i:Int)=some (gs i))
  (n:Nat) (hn:1≤n) (Bs:Nat) (w:World) (hBs:w.heap[Bs]?=some (.cells #[.int .i64 b,.int .i64 j] 24 (0,0))) :
  SeqStopsK Fence.wide n Try.prog 48 #[.pointer (some ⟨Bs,0,none⟩)] encs (KpB Bs b j) (fun xs=>xs=upto (fun i=>(i,gs i)) N) (fun _=>True) N w:=fun l J Jx W hW hJ hJx hY h0=>by
 have hlt:Bs < w.heap.size:=(Array.getElem?_eq_some_iff.1 hBs).1
 have hbx:W.heap[Bs]?=some (.cells #[.int .i64 b,.int .i64 j] 24 (0,0)):=(hW.block Bs hlt).trans hBs
 have hc0:W.cell? ⟨Bs,0,none⟩=some (.int .i64 b):=(blk_cell hbx 0).trans rfl
 have hc1:W.cell? ⟨Bs,1,none⟩=some (.int .i64 j):=(blk_cell hbx 1).trans rfl
 have hu24:=Try.underlying24
 refine callsIn_of_wp Try.func48 rfl (by trivial) ?_ rfl
 simp only [Try.ntmps48,List.size_toArray,List.length_cons,List.length_nil,Nat.reduceAdd,Nat.reduceSub,Array.replicate_succ,Array.replicate_zero,List.push_toArray,List.append_toArray,List.nil_append,List.cons_append]
 gi_wp2
 refine ⟨trivial,(callsIn_wide.mpr (layout_Groups.calls k b j (N:Int) _ hG)).mono ?_⟩
 rintro e w1 ⟨rfl,hb1⟩
 simp only []
 gi_wp2
 have hJ1:=hJ [] W w1 none h0 (below_grown hb1) (fun r e=>by cases e)
 have hbx1:w1.heap[Bs]?=some (.cells #[.int .i64 b,.int .i64 j] 24 (0,0)):=(hb1.block Bs ((Array.getElem?_eq_some_iff.1 hbx).1)).trans hbx
 clear hc0 hc1
 gi_loopw [6] (fun i wr=>∃ q:Nat,q≤N∧i=.int .i64 q∧J (upto (fun i=>(i,gs i)) q) wr∧wr.heap[Bs]?=some (.cells #[.int .i64 b,.int .i64 j] 24 (0,0)))
  (fun i _=>N - (intOf i).toNat)
 case atStart=>exact ⟨0,Nat.zero_le _,rfl,hJ1,hbx1⟩
 case round =>
  obtain ⟨q,hq,rfl,hJs,hbr⟩:=hrel
  have hc0:wr.cell? ⟨Bs,0,none⟩=some (.int .i64 b):=(blk_cell hbr 0).trans rfl
  have hc1:wr.cell? ⟨Bs,1,none⟩=some (.int .i64 j):=(blk_cell hbr 1).trans rfl
  by_cases hlt:q < N
  ·gi_wp2
   refine ⟨trivial,(callsIn_wide.mpr (layout_group.calls k b j (q:Int) (gs q).1 (gs q).2.1 (gs q).2.2.1 (gs q).2.2.2.1 (gs q).2.2.2.2.1 (gs q).2.2.2.2.2 _ (hg q hlt))).mono ?_⟩
   rintro e w2 ⟨rfl,hb2⟩
   simp only []
   have hJ2:=hJ _ wr w2 none hJs (below_grown hb2) (fun r e=>by cases e)
   have hbx2:w2.heap[Bs]?=some (.cells #[.int .i64 b,.int .i64 j] 24 (0,0)):=(hb2.block Bs ((Array.getElem?_eq_some_iff.1 hbr).1)).trans hbr
   obtain ⟨fn,tmps,assign,body,hy,hR⟩:=hY _ (q,gs q) w2 hJ2 (by rw [upto_length];exact hlt)
   dsimp only [encs,val6] at hy
   gi_wp2
   refine hR.mono ?_
   rintro e w3 (⟨rfl,hJ3,hk3⟩|⟨rfl,hx3⟩)
   ·gi_wp2
    go_roundw
    case rel=>exact ⟨q + 1,by omega,by simp,by rw [upto_succ];exact hJ3,hk3 hbx2⟩
    case measure=>simp [intOf];omega
   ·gi_wp2
    refine bodyPost_ret (results_none rfl _ _ _) rfl ?_
    exact ⟨⟨_,rfl⟩,.inr ⟨_,trivial,hx3⟩⟩
  ·obtain rfl:q=N:=by omega
   gi_wp2
   go_end0
   exact ⟨⟨_,rfl⟩,.inl ⟨_,rfl,hJs⟩⟩
set_option maxHeartbeats 1000000 in
theorem all_in (n:Nat) (b j:Int) (w:World) :
  CallsIn Fence.wide n Try.prog 27 #[.agg #[.int .i64 b,.int .i64 j]] w fun e w'=>e=.returned (.func (.func 48) #[] #[.pointer (some ⟨w.heap.size,0,none⟩)])∧w'=w.alloc (.cells #[.int .i64 b,.int .i64 j] 24 (0,0)):=by
 have hu24:=Try.underlying24
 refine callsIn_of_wp Try.func27 rfl (by trivial) ?_ rfl
 simp only [Try.ntmps27,List.size_toArray,List.length_cons,List.length_nil,Nat.reduceAdd,Nat.reduceSub,Array.replicate_succ,Array.replicate_zero,List.push_toArray,List.append_toArray,List.nil_append,List.cons_append]
 gi_wp2
 go_ret
 exact ⟨rfl,rfl⟩
def cp:List (Nat × T6) → Int:=List.foldl (fun s x=>wrap64 (s + wrap64 (wrap64 (x.2.1 + x.2.2.1) - x.2.2.2.2.2.2))) 0
theorem cp_snoc (pre:List (Nat × T6)) (x:Nat × T6):cp (pre ++ [x])=wrap64 (cp pre + wrap64 (wrap64 (x.2.1 + x.2.2.1) - x.2.2.2.2.2.2)):=by simp [cp]
set_option maxRecDepth 100000 in
set_option maxHeartbeats 4000000 in
theorem capacity_in (k:Nat) (b j:Int) (N:Nat) (hN:N≤64) (gs:Nat → T6) (hG:layout_Groups.f k b j=some (N:Int)) (hg:∀ i,i < N → layout_group.f k b j (i:Int)=some (gs i)) (w:World) :
  CallsIn Fence.wide 3 Try.prog 28 #[.agg #[.int .i64 b,.int .i64 j]] w fun e w'=>e=.returned (.int .i64 (cp (upto (fun i=>(i,gs i)) N)))∧Below w.heap.size w w':=by
 have hu24:=Try.underlying24
 have hu30:=Try.underlying30
 refine callsIn_of_wp_marks Try.func28 rfl (by trivial) ?_ rfl
 simp only [Try.ntmps28,List.size_toArray,List.length_cons,List.length_nil,Nat.reduceAdd,Nat.reduceSub,Array.replicate_succ,Array.replicate_zero,List.push_toArray,List.append_toArray,List.nil_append,List.cons_append]
 gi_wp2
 refine ⟨trivial,(all_in _ b j _).mono ?_⟩
 rintro e w2 ⟨rfl,rfl⟩
 simp only []
 gi_wp2
 have hsz:((w.alloc (.cells #[.int .i64 b,.int .i64 j] 24 (0,0))).alloc (.cells #[.int .i64 0] 3 (0,0))).heap.size=w.heap.size + 2:=by simp [World.size_alloc]
 rw [hsz]
 have hS0:(((w.alloc (.cells #[.int .i64 b,.int .i64 j] 24 (0,0))).alloc (.cells #[.int .i64 0] 3 (0,0))).alloc (.cells #[.int .i64 b,.int .i64 j] 24 (0,0))).heap.size=w.heap.size + 3:=by simp [World.size_alloc]
 have hN0:(((w.alloc (.cells #[.int .i64 b,.int .i64 j] 24 (0,0))).alloc (.cells #[.int .i64 0] 3 (0,0))).alloc (.cells #[.int .i64 b,.int .i64 j] 24 (0,0))).heap[w.heap.size + 1]?=some (.cells #[.int .i64 0] 3 (0,0)):=by
  have h1:=World.alloc_heap_new (w.alloc (.cells #[.int .i64 b,.int .i64 j] 24 (0,0))) (.cells #[.int .i64 0] 3 (0,0))
  rw [World.size_alloc] at h1
  exact zbA h1 _
 have hB0:(((w.alloc (.cells #[.int .i64 b,.int .i64 j] 24 (0,0))).alloc (.cells #[.int .i64 0] 3 (0,0))).alloc (.cells #[.int .i64 b,.int .i64 j] 24 (0,0))).heap[w.heap.size + 2]?=some (.cells #[.int .i64 b,.int .i64 j] 24 (0,0)):=by
  have h1:=World.alloc_heap_new ((w.alloc (.cells #[.int .i64 b,.int .i64 j] 24 (0,0))).alloc (.cells #[.int .i64 0] 3 (0,0))) (.cells #[.int .i64 b,.int .i64 j] 24 (0,0))
  rwa [hsz] at h1
 have hW0:Below w.heap.size w (((w.alloc (.cells #[.int .i64 b,.int .i64 j] 24 (0,0))).alloc (.cells #[.int .i64 0] 3 (0,0))).alloc (.cells #[.int .i64 b,.int .i64 j] 24 (0,0))) :=
  zlA (zlA (zlA (Below.refl _ _) _) _) _
 generalize (((w.alloc (.cells #[.int .i64 b,.int .i64 j] 24 (0,0))).alloc (.cells #[.int .i64 0] 3 (0,0))).alloc (.cells #[.int .i64 b,.int .i64 j] 24 (0,0)))=W0 at hS0 hN0 hB0 hW0 ⊢
 clear hsz
 refine wpIn_rangeFunc_ownH (F:=Fence.wide) rfl (by decide) (gf:=48) (lb:=#[.pointer (some ⟨w.heap.size + 2,0,none⟩)]) rfl (by trivial) (enters_of Try.func48 (by kernel_rfl) rfl) (all_stops k b j N hN gs hG hg 2 (by decide) (w.heap.size + 2) W0 hB0)
  (fun h1 h2 h=>h2 (h1 h)) (fun W l o o' hl ho hc _ h=>by rw [World.putObj_heap_other (by omega)];exact h) (Below.refl _ _) (fun _=>rfl)
  (fun pre W=>W.heap[w.heap.size + 1]?=some (.cells #[.int .i64 (cp pre)] 3 (0,0))∧Below w.heap.size w W∧W0.heap.size≤W.heap.size)
  (fun _ _ _=>False)
  (fun s A B row hs hg' hr=>⟨(hg'.block _ (Array.getElem?_eq_some_iff.1 hs.1).1 (fun e=>by have:=(hr _ e.symm).1;omega)).trans hs.1,hs.2.1.grown hg' hs.2.1.size (fun q e=>by have:=(hr q e).1;omega),Nat.le_trans hs.2.2 hg'.size⟩)
  (fun _ _ _ _ _ hs _ _=>hs)
  ⟨by simpa [cp] using hN0,hW0,Nat.le_refl _⟩
  (fun x a' W=>∃ g5:Nat,W.heap[g5]?=some (.cells #[.int .i64 x.2.1,.int .i64 x.2.2.1,.int .i64 x.2.2.2.1,.int .i64 x.2.2.2.2.1,.int .i64 x.2.2.2.2.2.1,.int .i64 x.2.2.2.2.2.2] 30 (0,0))∧W0.heap.size≤g5∧a'={ tmps:=#[.agg #[.int .i64 b,.int .i64 j],.pointer (some ⟨w.heap.size,0,none⟩),.int .i64 0,.pointer (some ⟨w.heap.size + 1,0,none⟩),undef,.pointer (some ⟨g5,0,none⟩),.agg #[.int .i64 b,.int .i64 j],.func (.func 48) #[] #[.pointer (some ⟨w.heap.size + 2,0,none⟩)],.int .i64 (x.1:Int),val6 x.2,undef,undef,undef,undef,undef,undef,undef,undef,undef,undef,undef],defers:=[] })
  (fun x a' s A B row hs hg' hr=>by
   obtain ⟨g5,h5,hge,ha⟩:=hs
   refine ⟨g5,(hg'.block _ (Array.getElem?_eq_some_iff.1 h5).1 (fun e=>?_)).trans h5,hge,ha⟩
   obtain ⟨_,o,ho,hc⟩:=hr _ e.symm
   rw [h5] at ho
   cases ho
   cases hc)
  ?assign ?body ?done ?stop
 case assign =>
  intro l pre x W K hI hK
  gi_wp2
  exact hK _ _ ((KeepsOthers.alloc W _).from _) (fun h=>zbA h _) ⟨zbA hI.1 _,zlA hI.2.1 _,by rw [World.size_alloc];have:=hI.2.2;omega⟩ ⟨W.heap.size,World.alloc_heap_new W _,hI.2.2,rfl⟩
 case body =>
  rintro l pre x a' W hl hlr ⟨hNb,hBl,hsz⟩ ⟨g5,h5,hge,rfl⟩ _
  have hc5_0:W.cell? ⟨g5,0,none⟩=some (.int .i64 x.2.1):=(blk_cell h5 0).trans rfl
  have hc5_1:W.cell? ⟨g5,1,none⟩=some (.int .i64 x.2.2.1):=(blk_cell h5 1).trans rfl
  have hc5_5:W.cell? ⟨g5,5,none⟩=some (.int .i64 x.2.2.2.2.2.2):=(blk_cell h5 5).trans rfl
  have hcn:W.cell? ⟨w.heap.size + 1,0,none⟩=some (.int .i64 (cp pre)):=(blk_cell hNb 0).trans rfl
  have hfn:=blk_frozen hNb 0
  gi_wp2
  exact ⟨(KeepsOthers.setCell _ _ _).from _,fun h=>blk_far h (show w.heap.size + 2≠w.heap.size + 1 by omega) _,by rw [cp_snoc];exact blk_put hNb 0 _ rfl,zlS hBl (by omega),Nat.le_trans hsz (KeepsOthers.setCell W _ _).size⟩
 case done =>
  rintro D xs W hD rfl ⟨hNb,hBl,hsz⟩ hK
  have hcn:W.cell? ⟨w.heap.size + 1,0,none⟩=some (.int .i64 (cp (upto (fun i=>(i,gs i)) N))):=(blk_cell hNb 0).trans rfl
  gi_wp2
  refine ⟨by simp,.inl ⟨_,_,rfl,run_takeDeferred hK,?_⟩⟩
  exact ⟨_,results_tmp rfl _ _ _,rfl,hBl.grown (grownBy_putObj' W D _) hBl.size (fun q e=>by cases e;omega)⟩
 case stop =>
  rintro D c pre W _ _ h _
  exact h.elim
end Cap
end
open Cap in
def layout_Capacity.lst (k:Nat) (b j:Int):Nat → Option (List (Nat × T6))
 | 0=>some []
 | m + 1=>(layout_Capacity.lst k b j m).bind fun l=>(layout_group.f k b j (m:Int)).bind fun x=>some (l ++ [(m,x)])
def layout_Capacity.f (k:Nat) (a0_0:Int) (a0_1:Int):Option (Int):=(layout_Groups.f k a0_0 a0_1).bind fun n=>if 0≤n∧n≤64 then (layout_Capacity.lst k a0_0 a0_1 n.toNat).bind fun l=>some (Cap.cp l) else none
open Cap in
theorem layout_Capacity.lst_spec (k:Nat) (b j:Int):∀ (m:Nat) (l:List (Nat × T6)),layout_Capacity.lst k b j m=some l → ∃ gs:Nat → T6,(∀ i,i < m → layout_group.f k b j (i:Int)=some (gs i))∧l=upto (fun i=>(i,gs i)) m
 | 0,l,h=>by
  unfold layout_Capacity.lst at h
  cases h
  exact ⟨fun _=>(0,0,0,0,0,0),fun i hi=>by omega,rfl⟩
 | m + 1,l,h=>by
  unfold layout_Capacity.lst at h
  obtain ⟨l0,h0,h⟩:=Option.bind_eq_some_iff.mp h
  obtain ⟨x,hx,h⟩:=Option.bind_eq_some_iff.mp h
  cases h
  obtain ⟨gs,hgs,rfl⟩:=layout_Capacity.lst_spec k b j m l0 h0
  refine ⟨fun i=>if i=m then x else gs i,fun i hi=>?_,?_⟩
  ·by_cases e:i=m
   ·subst e
    show layout_group.f k b j (i:Int)=some (if i=i then x else gs i)
    rw [if_pos rfl]
    exact hx
   ·show layout_group.f k b j (i:Int)=some (if i=m then x else gs i)
    rw [if_neg e]
    exact hgs i (by omega)
  ·rw [upto_succ]
   congr 1
   ·unfold upto
    apply List.map_congr_left
    intro i hi
    have:i < m:=List.mem_range.1 hi
    simp only []
    rw [if_neg (by omega)]
   ·simp
theorem layout_Capacity.calls (k:Nat) (a0_0:Int) (a0_1:Int) (r:Int) (w:World) (h:layout_Capacity.f k a0_0 a0_1=some r) :
  Calls Try.prog 28 #[.agg #[.int .i64 a0_0,.int .i64 a0_1]] w fun e w'=>e=.returned (.int .i64 r)∧Below w.heap.size w w':=by
 unfold layout_Capacity.f at h
 obtain ⟨n,hG,h⟩:=Option.bind_eq_some_iff.mp h
 by_cases c:0≤n∧n≤64
 ·rw [if_pos c] at h
  obtain ⟨l,hl,h⟩:=Option.bind_eq_some_iff.mp h
  obtain ⟨m,rfl⟩:=Int.eq_ofNat_of_zero_le c.1
  rw [Int.toNat_natCast] at hl
  obtain ⟨gs,hgs,rfl⟩:=layout_Capacity.lst_spec k a0_0 a0_1 m l hl
  cases h
  exact callsIn_wide.mp (Cap.capacity_in k a0_0 a0_1 m (by omega) gs hG hgs w)
 ·rw [if_neg c] at h
  cases h
end Go.Proofs.Ytbdnmdmfnopihaa.Print
end
