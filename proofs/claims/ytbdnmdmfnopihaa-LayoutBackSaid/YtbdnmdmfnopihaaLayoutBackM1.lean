/- Texts of the proof of LayoutBack, part 1. -/
import Derived.Test.YtbdnmdmfnopihaaProg
import Derived.Below
import Derived.Deep.Draws
import Derived.Deep.AppendLies
import Derived.Maps.AppendAt
import Derived.OwnWalk
import Derived.Laws.BytesArg
import Derived.Laws.MakeOwn
import Derived.Laws.OwnMore
import Derived.Deep.OwnRows
import Derived.Tactics
import Derived.Lib.ConvBytes
import Derived.Laws.Slices
import Derived.WalkKit
import Derived.KernelRfl
import Derived.RowKit3
import Derived.Deep.LoopGhost
import Derived.Deep.QuietTactic
import Derived.BigQuiet
import Derived.WideLaws
import Derived.Deep.DeepCutAuto
import Derived.Deep.CutBlock
import Derived.Deep.RegionHeld3
import Derived.Laws.Rows
import Derived.Lib.AppendStr
import Derived.ArgAppend
import Derived.Laws.IdiomCopy
import Derived.OrdersHeld
import Derived.Laws.BitsLemmas
import Derived.RowKit
import Derived.Lib.SliceRun
import Derived.Test.YtbdnmdmfnopihaaLayoutBackM0
import Derived.Test.YtbdnmdmfnopihaaWWords
import Derived.Test.YtbdnmdmfnopihaaWLast
import Derived.Test.YtbdnmdmfnopihaaWTab
import Derived.Test.YtbdnmdmfnopihaaWQPut
import Derived.Test.YtbdnmdmfnopihaaWApart
import Derived.Test.YtbdnmdmfnopihaaWArr
import Derived.Test.YtbdnmdmfnopihaaWZeros
import Derived.Test.YtbdnmdmfnopihaaWFoot
import Derived.Test.YtbdnmdmfnopihaaWKept
import Derived.Test.YtbdnmdmfnopihaaWShare
import Derived.Test.YtbdnmdmfnopihaaWN
import Derived.Test.YtbdnmdmfnopihaaWEqStruct
import Derived.Test.YtbdnmdmfnopihaaWRepsOne
import Derived.Test.YtbdnmdmfnopihaaWInv
import Derived.Test.YtbdnmdmfnopihaaWGuard
import Derived.Test.YtbdnmdmfnopihaaWNEv
import Derived.Test.YtbdnmdmfnopihaaWMore
section
namespace Go.Proofs.Ytbdnmdmfnopihaa.Print
open Go.RowKit Go.Proofs.YtbdnmdmfnopihaaW.PrintWords Go.Proofs.YtbdnmdmfnopihaaW.PrintLast Go.Proofs.YtbdnmdmfnopihaaW.PrintMore
attribute [local go_sem] max2_int min2_int max_two min_two max_three min_three max_four min_four   -- for this text's walks alone
attribute [local go_sem ↓] Go.Proofs.Ytbdnmdmfnopihaa.Sem.isSome_setCell
attribute [local go_sem] Go.Instr.field Go.asAgg
set_option linter.unusedVariables false
set_option linter.unusedSimpArgs false
def errW:Option Int → Value
 | none=>.nilIface
 | some c=>.iface 0 (.int .i64 c)
theorem errW_none:errW none=.nilIface:=rfl
theorem errW_some (c:Int):errW (some c)=.iface 0 (.int .i64 c):=rfl
theorem info5:(Try.prog.info? 5).map (fun i=>(i.zero,i.size,i.bytes))=some (some (.int .u8 0),1,1):=by kernel_rfl
theorem info57:(Try.prog.info? 57).map (fun i=>(i.zero,i.size,i.bytes))=some (some (.agg #[(.int .i64 0),(.int .i64 0),(.int .i64 0)]),3,24):=by kernel_rfl
theorem info76:(Try.prog.info? 76).map (fun i=>(i.zero,i.size,i.bytes))=some (some (.int .u64 0),1,8):=by kernel_rfl
-- the values' own types
structure S57 where
 f0:Int
 f1:Int
 f2:Int
def z57:S57:=⟨(0:Int),(0:Int),(0:Int)⟩
def k57:Kd S57:=Kd.iso (Kd.pair (Kd.int .i64) (Kd.pair (Kd.int .i64) (Kd.int .i64))) (fun x:S57=>(x.f0,x.f1,x.f2))
theorem k57_open {w:World} {x:S57} {cs:List Value} (h:k57.K w x cs):cs=[.int .i64 x.f0,.int .i64 x.f1,.int .i64 x.f2]:=by
 obtain ⟨_,_,rfl,rfl,⟨_,_,rfl,rfl,rfl⟩⟩:=h
 exact rfl
theorem k57_mkM (w:World) (base:Nat) (ok:Nat → Prop) (x:S57) :k57.M w base ok x [.int .i64 x.f0,.int .i64 x.f1,.int .i64 x.f2]:=⟨[.int .i64 x.f0],[.int .i64 x.f1,.int .i64 x.f2],rfl,rfl,⟨[.int .i64 x.f1],[.int .i64 x.f2],rfl,rfl,rfl⟩⟩
def rd_T57 (xs:List S57) (i:Int):S57:=xs.getD i.toNat z57
theorem at_T57 {w:World} {A:Option Addr} {n:Nat} {xs:List S57} (h:Kd.C k57 w A n xs) (i:Int) (h0:0≤i) (h1:i < n):∃ ad ,A=some ad∧w.cell? (ad.add (i.toNat * 3))=some (.int .i64 (rd_T57 xs i).f0)∧w.cell? ⟨(ad.add (i.toNat * 3)).block,(ad.add (i.toNat * 3)).off + 1,none⟩=some (.int .i64 (rd_T57 xs i).f1)∧w.cell? ⟨(ad.add (i.toNat * 3)).block,(ad.add (i.toNat * 3)).off + 2,none⟩=some (.int .i64 (rd_T57 xs i).f2):=by
 obtain ⟨ad,c,e,_,hK,hc0⟩:=Kd.C_get h z57 i h0 h1
 have hc:∀ j u,c[j]?=some u → w.cell? (ad.add (i.toNat * 3 + j))=some u:=hc0
 obtain rfl:=k57_open hK
 exact ⟨ad,e,hc 0 _ rfl,by rw [← add_field _ _ 1 (by omega)];exact hc 1 _ rfl,by rw [← add_field _ _ 2 (by omega)];exact hc 2 _ rfl⟩
def rd_L5 (xs:List (List Int)) (i:Int):(List Int):=xs.getD i.toNat ([]:List Int)
theorem at_L5 {w:World} {A:Option Addr} {n:Nat} {xs:List (List Int)} (h:Kd.C (Kd.slice 5 (Kd.int .u8)) w A n xs) (i:Int) (h0:0≤i) (h1:i < n):∃ ad A0 c0,A=some ad∧w.cell? (ad.add i.toNat)=some (.slice A0 (rd_L5 xs i).length c0)∧(rd_L5 xs i).length≤c0∧(Kd.int .u8).C w A0 (rd_L5 xs i).length (rd_L5 xs i):=by
 obtain ⟨ad,c,e,_,hK,hc0⟩:=Kd.C_get h ([]:List Int) i h0 h1
 have hc:∀ j u,c[j]?=some u → w.cell? (ad.add (i.toNat * 1 + j))=some u:=hc0
 obtain ⟨A0,c0,rfl,l0,g0⟩:=hK
 exact ⟨ad,A0,c0,e,by have hq:=hc 0 _ rfl;rwa [Nat.mul_one,Nat.add_zero] at hq,l0,g0⟩
end Go.Proofs.Ytbdnmdmfnopihaa.Print
end
section
namespace Go.Proofs.Ytbdnmdmfnopihaa.Print
open Go.RowKit Go.Proofs.YtbdnmdmfnopihaaW.PrintWords Go.Proofs.YtbdnmdmfnopihaaW.PrintLast Go.Proofs.YtbdnmdmfnopihaaW.PrintMore
attribute [local go_sem] max2_int min2_int max_two min_two max_three min_three max_four min_four   -- for this text's walks alone
attribute [local go_sem ↓] Go.Proofs.Ytbdnmdmfnopihaa.Sem.isSome_setCell
attribute [local go_sem] Go.Instr.field Go.asAgg
set_option linter.unusedVariables false
set_option linter.unusedSimpArgs false
theorem eqA24 (d:Nat) (w:World) (x0 y0:Int) (x1 y1:Int) :
  (Op.equalIn (d + 2) 24 (.agg #[.int .i64 x0,.int .i64 x1]) (.agg #[.int .i64 y0,.int .i64 y1])).run Try.prog w=.ok (x0 == y0 && (x1 == y1)) w:=by
 refine eqA_of Try.underlying24 (by kernel_rfl) ?_
 refine eqf_cons (by rfl) (by go_simp;rfl) (by go_simp;rfl) (by go_simp) ?_
 exact eqf_last (by rfl) (by go_simp;rfl) (by go_simp;rfl) (by go_simp)
end Go.Proofs.Ytbdnmdmfnopihaa.Print
end
section
namespace Go.Proofs.Ytbdnmdmfnopihaa.Print
open Go.RowKit Go.Proofs.YtbdnmdmfnopihaaW.PrintWords Go.Proofs.YtbdnmdmfnopihaaW.PrintLast Go.Proofs.YtbdnmdmfnopihaaW.PrintMore
attribute [local go_sem] max2_int min2_int max_two min_two max_three min_three max_four min_four   -- for this text's walks alone
attribute [local go_sem ↓] Go.Proofs.Ytbdnmdmfnopihaa.Sem.isSome_setCell
attribute [local go_sem] Go.Instr.field Go.asAgg
set_option linter.unusedVariables false
set_option linter.unusedSimpArgs false
theorem eqA63 (d:Nat) (w:World) (x0 y0:Int) (x1 y1:Int) (x2 y2:Int) (x3 y3:Bool) (x4 y4:Int) :
  (Op.equalIn (d + 3) 63 (.agg #[.int .i64 x0,.int .i64 x1,.int .i64 x2,.bool x3,.int .i64 x4]) (.agg #[.int .i64 y0,.int .i64 y1,.int .i64 y2,.bool y3,.int .i64 y4])).run Try.prog w=.ok ((x0 == y0 && (x1 == y1)) && (x2 == y2 && (x3 == y3 && (x4 == y4)))) w:=by
 refine eqA_of Try.underlying63 (by kernel_rfl) ?_
 refine eqf_cons (by rfl) (by go_simp) (by go_simp) (eqA24 (d + 0) w _ _ _ _) ?_
 refine eqf_cons (by rfl) (by go_simp;rfl) (by go_simp;rfl) (by go_simp) ?_
 refine eqf_cons (by rfl) (by go_simp;rfl) (by go_simp;rfl) (by go_simp) ?_
 exact eqf_last (by rfl) (by go_simp;rfl) (by go_simp;rfl) (by go_simp)
end Go.Proofs.Ytbdnmdmfnopihaa.Print
end
section
namespace Go.Proofs.Ytbdnmdmfnopihaa.Print
open Go.RowKit Go.Proofs.YtbdnmdmfnopihaaW.PrintWords Go.Proofs.YtbdnmdmfnopihaaW.PrintLast Go.Proofs.YtbdnmdmfnopihaaW.PrintMore
attribute [local go_sem] max2_int min2_int max_two min_two max_three min_three max_four min_four   -- for this text's walks alone
attribute [local go_sem ↓] Go.Proofs.Ytbdnmdmfnopihaa.Sem.isSome_setCell
attribute [local go_sem] Go.Instr.field Go.asAgg
set_option linter.unusedVariables false
set_option linter.unusedSimpArgs false
theorem eqA30 (d:Nat) (w:World) (x0 y0:Int) (x1 y1:Int) (x2 y2:Int) (x3 y3:Int) (x4 y4:Int) (x5 y5:Int) :
  (Op.equalIn (d + 2) 30 (.agg #[.int .i64 x0,.int .i64 x1,.int .i64 x2,.int .i64 x3,.int .i64 x4,.int .i64 x5]) (.agg #[.int .i64 y0,.int .i64 y1,.int .i64 y2,.int .i64 y3,.int .i64 y4,.int .i64 y5])).run Try.prog w=.ok (x0 == y0 && (x1 == y1 && (x2 == y2 && (x3 == y3 && (x4 == y4 && (x5 == y5)))))) w:=by
 refine eqA_of Try.underlying30 (by kernel_rfl) ?_
 refine eqf_cons (by rfl) (by go_simp;rfl) (by go_simp;rfl) (by go_simp) ?_
 refine eqf_cons (by rfl) (by go_simp;rfl) (by go_simp;rfl) (by go_simp) ?_
 refine eqf_cons (by rfl) (by go_simp;rfl) (by go_simp;rfl) (by go_simp) ?_
 refine eqf_cons (by rfl) (by go_simp;rfl) (by go_simp;rfl) (by go_simp) ?_
 refine eqf_cons (by rfl) (by go_simp;rfl) (by go_simp;rfl) (by go_simp) ?_
 exact eqf_last (by rfl) (by go_simp;rfl) (by go_simp;rfl) (by go_simp)
end Go.Proofs.Ytbdnmdmfnopihaa.Print
end
section
namespace Go.Proofs.Ytbdnmdmfnopihaa.Print
open Go.RowKit Go.Proofs.YtbdnmdmfnopihaaW.PrintWords Go.Proofs.YtbdnmdmfnopihaaW.PrintLast Go.Proofs.YtbdnmdmfnopihaaW.PrintMore
attribute [local go_sem] max2_int min2_int max_two min_two max_three min_three max_four min_four   -- for this text's walks alone
attribute [local go_sem ↓] Go.Proofs.Ytbdnmdmfnopihaa.Sem.isSome_setCell
attribute [local go_sem] Go.Instr.field Go.asAgg
set_option linter.unusedVariables false
set_option linter.unusedSimpArgs false
def layout_ceil.f (a0:Int) (a1:Int):Option (Int):=if a1=0 then (none) else (some (wrap64 (Int.tdiv (wrap64 ((wrap64 (a0 + a1)) - 1)) a1)))
set_option maxHeartbeats 8000000 in
set_option maxRecDepth 100000 in
theorem layout_ceil.calls (a0:Int) (a1:Int) (r:Int) (w:World) (h:layout_ceil.f a0 a1=some r) :
  Calls Try.prog 45 #[.int .i64 a0,.int .i64 a1] w fun e w'=>e=.returned (.int .i64 r)∧Drawn0 w w':=by
 have H:(if a1=0 then (none) else (some (wrap64 (Int.tdiv (wrap64 ((wrap64 (a0 + a1)) - 1)) a1))))=some r:=h
 clear h
 by_cases c3:a1=0
 ·rw [if_pos c3] at H
  exact absurd H (by simp)
 ·rw [if_neg c3] at H
  have c3b0:(a1 == 0)=false:=beq_eq_false_iff_ne.mpr c3
  have c3b1:(a1 != 0)=true:=bne_iff_ne.mpr c3
  obtain rfl:=Option.some.inj H
  go_enter Try.func45,Try.ntmps45
  go_wp2
  go_ret
  exact ⟨by first|rfl|(simp;done)|(simp [*];done),by repeat (first|exact Drawn0.refl _|apply Drawn0.step)⟩
def layout_Check.j0:Nat → Bool → Int → Int → Option (Int)
 | 0,_,_,_=>none
 | k + 1,x23,x102000,x102001=>if x23=true then (some 110) else ((layout_ceil.f x102000 128).bind fun t102=>(if (wrap64 (x102000 - (wrap64 ((wrap64 (t102 - 1)) * 128)))) < 16 then (some 110) else ((layout_ceil.f (wrap64 (t102 * 16)) 256).bind fun t103=>(if (wrap64 ((wrap64 ((wrap64 ((wrap64 (1 + t103)) + 2)) + 4)) + x102001)) ≥ (mn x102000 128) then (some 110) else (some 0)))))
def layout_Check.f (k:Nat) (a0_0:Int) (a0_1:Int):Option (Int):=if a0_0 < 1 then (layout_Check.j0 k true a0_0 a0_1) else (if a0_0 > 8192 then (layout_Check.j0 k true a0_0 a0_1) else (if a0_1 < 16 then (layout_Check.j0 k true a0_0 a0_1) else (layout_Check.j0 k (decide (a0_1 > 64)) a0_0 a0_1)))
theorem layout_Check.mono_l:∀ k,(∀ y0 y1 y2,LeO (layout_Check.j0 k y0 y1 y2) (layout_Check.j0 (k + 1) y0 y1 y2))
 | 0=>fun _ _ _ r h=>by simp [layout_Check.j0] at h
 | k + 1=>by
  have ih0:=layout_Check.mono_l k
  ·intro y0 y1 y2
   unfold layout_Check.j0
   repeat' first
   | (with_reducible exact ih0 _ _ _)
   | (with_reducible exact LeO.refl _)
   | (with_reducible exact LeO.none _)
   | (with_reducible refine LeO.ite ?_ ?_)
   | (with_reducible refine LeO.bind ?_ (fun _=>?_))
   | exact ih0 _ _ _
   | exact LeO.none _
   | refine LeO.ite ?_ ?_
   | refine LeO.bind ?_ (fun _=>?_)
theorem layout_Check.mono:∀ a0 a1 k,LeO (layout_Check.f k a0 a1) (layout_Check.f (k + 1) a0 a1):=by
 intro a0 a1 k
 have ih0:=layout_Check.mono_l k
 unfold layout_Check.f
 repeat' first
   | (with_reducible exact ih0 _ _ _)
   | (with_reducible exact LeO.refl _)
   | (with_reducible exact LeO.none _)
   | (with_reducible refine LeO.ite ?_ ?_)
   | (with_reducible refine LeO.bind ?_ (fun _=>?_))
   | exact ih0 _ _ _
   | exact LeO.none _
   | refine LeO.ite ?_ ?_
   | refine LeO.bind ?_ (fun _=>?_)
set_option maxHeartbeats 8000000 in
set_option maxRecDepth 100000 in
theorem layout_Check.calls (k:Nat) (a0_0:Int) (a0_1:Int) (r:Int) (w:World) (h:layout_Check.f k a0_0 a0_1=some r) :
  Calls Try.prog 15 #[.agg #[.int .i64 a0_0,.int .i64 a0_1]] w fun e w'=>e=.returned (.int .i64 r)∧Below w.heap.size w w':=by
 have hu24:=Try.underlying24
 have HB:=Aside0.mk (Below.refl w.heap.size w)
 have H:(if a0_0 < 1 then (layout_Check.j0 k true a0_0 a0_1) else (if a0_0 > 8192 then (layout_Check.j0 k true a0_0 a0_1) else (if a0_1 < 16 then (layout_Check.j0 k true a0_0 a0_1) else (layout_Check.j0 k (decide (a0_1 > 64)) a0_0 a0_1))))=some r:=h
 clear h
 have HC2:=Aside0.mk H
 clear H
 go_enter Try.func15,Try.ntmps15
 go_upto_region 1 with (first|((with_reducible refine gate_dst (N:=1) rfl ?_);refine box_event ?hg (N:=1) ?hd (cs:=#[.int .i64 a0_0,.int .i64 a0_1]) (t:=24) ?hr ?_;(case hd=>rfl);(case hg=>rfl);(case hr=>first|(go_simp;done)|(go_simp;rfl));intro gb101 hg w3 hbox hb;have n0_:=Aside0.mk (below_step (by repeat (first|(with_reducible first|exact HB.out|apply below_alloc|apply pw_below_drewN|apply below_drew1)|exact HB.out)) hb);have n1_:=Aside0.mk (hbox);have n2_:=Aside0.mk ((by rw [hg];exact (below_size (by repeat (first|(with_reducible first|exact HB.out|apply below_alloc|apply pw_below_drewN|apply below_drew1)|exact HB.out))):w.heap.size≤gb101));have n3_:=Aside0.mk ((by rw [hg];exact (below_size (by repeat (first|(with_reducible first|exact HB.out|apply below_alloc|apply pw_below_drewN|apply below_drew1)|exact HB.out))):w.heap.size≤gb101));clear HB;have HB:=n0_;have BK101:=n1_;have GW101:=n2_;have GE101:=n3_;clear n0_ n1_ n2_ n3_;clear hb hbox hg))
 repeat (go_quiet (first|((with_reducible refine gate_dst (N:=1) rfl ?_);refine box_event ?hg (N:=1) ?hd (cs:=#[.int .i64 a0_0,.int .i64 a0_1]) (t:=24) ?hr ?_;(case hd=>rfl);(case hg=>rfl);(case hr=>first|(go_simp;done)|(go_simp;rfl));intro gb101 hg w3 hbox hb;have n0_:=Aside0.mk (below_step (by repeat (first|(with_reducible first|exact HB.out|apply below_alloc|apply pw_below_drewN|apply below_drew1)|exact HB.out)) hb);have n1_:=Aside0.mk (hbox);have n2_:=Aside0.mk ((by rw [hg];exact (below_size (by repeat (first|(with_reducible first|exact HB.out|apply below_alloc|apply pw_below_drewN|apply below_drew1)|exact HB.out))):w.heap.size≤gb101));have n3_:=Aside0.mk ((by rw [hg];exact (below_size (by repeat (first|(with_reducible first|exact HB.out|apply below_alloc|apply pw_below_drewN|apply below_drew1)|exact HB.out))):w.heap.size≤gb101));clear HB;have HB:=n0_;have BK101:=n1_;have GW101:=n2_;have GE101:=n3_;clear n0_ n1_ n2_ n3_;clear hb hbox hg));go_upto_region 1 with (first|((with_reducible refine gate_dst (N:=1) rfl ?_);refine box_event ?hg (N:=1) ?hd (cs:=#[.int .i64 a0_0,.int .i64 a0_1]) (t:=24) ?hr ?_;(case hd=>rfl);(case hg=>rfl);(case hr=>first|(go_simp;done)|(go_simp;rfl));intro gb101 hg w3 hbox hb;have n0_:=Aside0.mk (below_step (by repeat (first|(with_reducible first|exact HB.out|apply below_alloc|apply pw_below_drewN|apply below_drew1)|exact HB.out)) hb);have n1_:=Aside0.mk (hbox);have n2_:=Aside0.mk ((by rw [hg];exact (below_size (by repeat (first|(with_reducible first|exact HB.out|apply below_alloc|apply pw_below_drewN|apply below_drew1)|exact HB.out))):w.heap.size≤gb101));have n3_:=Aside0.mk ((by rw [hg];exact (below_size (by repeat (first|(with_reducible first|exact HB.out|apply below_alloc|apply pw_below_drewN|apply below_drew1)|exact HB.out))):w.heap.size≤gb101));clear HB;have HB:=n0_;have BK101:=n1_;have GW101:=n2_;have GE101:=n3_;clear n0_ n1_ n2_ n3_;clear hb hbox hg)))
 (try simp only [Act.put,List.setIfInBounds_toArray,List.set_cons_zero,List.set_cons_succ])
 go_cut [23] (fun v23 wc=>∃ (kq:Nat) (x23_1:Bool),v23=.bool x23_1∧Aside0 (layout_Check.j0 kq x23_1 a0_0 a0_1=some r)∧Aside0 (kq≤k)∧Aside0 (wc.heap[gb101]?=some (.cells #[.int .i64 a0_0,.int .i64 a0_1] 24 (0,0)))∧Aside0 (Below w.heap.size w wc))
 case first =>
  have H:=HC2.out
  clear HC2
  by_cases c4:a0_0 < 1
  ·rw [if_pos c4] at H
   have c4b0:decide (a0_0 < 1)=true:=decide_eq_true c4
   clear c4
   (first|rw [c4b0]|(simp only [i64_w,i32_w];rw [c4b0])|skip)
   have H':=Aside0.mk H
   clear H
   have hcz5_0:w3.cell? ⟨gb101,0,none⟩=some (.int .i64 a0_0):=(blk_cell BK101.out 0).trans rfl
   have hcz5_1:w3.cell? ⟨gb101,1,none⟩=some (.int .i64 a0_1):=(blk_cell BK101.out 1).trans rfl
   have hfz5_0:=blk_frozen BK101.out 0
   have hfz5_1:=blk_frozen BK101.out 1
   go_wp2
   repeat (go_quiet (fail);try go_wp2)
   go_meet
   case rel=>exact ⟨_,(true),(by first|rfl|(simp;done)|(simp [*];done)),H',⟨by first|omega|exact Nat.le_refl _⟩,⟨by (with_reducible repeat (first|refine blk_drewN ?_ _|refine blk_drew ?_|refine blk_alloc ?_ _));exact BK101.out⟩,⟨by repeat (first|(with_reducible first|exact HB.out|apply below_alloc|apply pw_below_drewN|apply below_drew1|refine below_set ?_ GE101.out)|exact HB.out)⟩⟩
  ·rw [if_neg c4] at H
   have c4b0:decide (a0_0 < 1)=false:=decide_eq_false c4
   clear c4
   (first|rw [c4b0]|(simp only [i64_w,i32_w];rw [c4b0])|skip)
   by_cases c6:a0_0 > 8192
   ·rw [if_pos c6] at H
    have c6b0:decide (8192 < a0_0)=true:=decide_eq_true c6
    clear c6
    have H':=Aside0.mk H
    clear H
    have hcz7_0:w3.cell? ⟨gb101,0,none⟩=some (.int .i64 a0_0):=(blk_cell BK101.out 0).trans rfl
    have hcz7_1:w3.cell? ⟨gb101,1,none⟩=some (.int .i64 a0_1):=(blk_cell BK101.out 1).trans rfl
    have hfz7_0:=blk_frozen BK101.out 0
    have hfz7_1:=blk_frozen BK101.out 1
    go_wp2
    repeat (go_quiet (fail);try go_wp2)
    go_meet
    case rel=>exact ⟨_,(true),(by first|rfl|(simp;done)|(simp [*];done)),H',⟨by first|omega|exact Nat.le_refl _⟩,⟨by (with_reducible repeat (first|refine blk_drewN ?_ _|refine blk_drew ?_|refine blk_alloc ?_ _));exact BK101.out⟩,⟨by repeat (first|(with_reducible first|exact HB.out|apply below_alloc|apply pw_below_drewN|apply below_drew1|refine below_set ?_ GE101.out)|exact HB.out)⟩⟩
   ·rw [if_neg c6] at H
    have c6b0:decide (8192 < a0_0)=false:=decide_eq_false c6
    clear c6
    by_cases c8:a0_1 < 16
    ·rw [if_pos c8] at H
     have c8b0:decide (a0_1 < 16)=true:=decide_eq_true c8
     clear c8
     have H':=Aside0.mk H
     clear H
     have hcz9_0:w3.cell? ⟨gb101,0,none⟩=some (.int .i64 a0_0):=(blk_cell BK101.out 0).trans rfl
     have hcz9_1:w3.cell? ⟨gb101,1,none⟩=some (.int .i64 a0_1):=(blk_cell BK101.out 1).trans rfl
     have hfz9_0:=blk_frozen BK101.out 0
     have hfz9_1:=blk_frozen BK101.out 1
     go_wp2
     repeat (go_quiet (fail);try go_wp2)
     go_meet
     case rel=>exact ⟨_,(true),(by first|rfl|(simp;done)|(simp [*];done)),H',⟨by first|omega|exact Nat.le_refl _⟩,⟨by (with_reducible repeat (first|refine blk_drewN ?_ _|refine blk_drew ?_|refine blk_alloc ?_ _));exact BK101.out⟩,⟨by repeat (first|(with_reducible first|exact HB.out|apply below_alloc|apply pw_below_drewN|apply below_drew1|refine below_set ?_ GE101.out)|exact HB.out)⟩⟩
    ·rw [if_neg c8] at H
     have c8b0:decide (a0_1 < 16)=false:=decide_eq_false c8
     clear c8
     have H':=Aside0.mk H
     clear H
     have hcz10_0:w3.cell? ⟨gb101,0,none⟩=some (.int .i64 a0_0):=(blk_cell BK101.out 0).trans rfl
     have hcz10_1:w3.cell? ⟨gb101,1,none⟩=some (.int .i64 a0_1):=(blk_cell BK101.out 1).trans rfl
     have hfz10_0:=blk_frozen BK101.out 0
     have hfz10_1:=blk_frozen BK101.out 1
     go_wp2
     repeat (go_quiet (fail);try go_wp2)
     go_meet
     case rel=>exact ⟨_,(decide (a0_1 > 64)),(by first|rfl|(simp;done)|(simp [*];done)),H',⟨by first|omega|exact Nat.le_refl _⟩,⟨by (with_reducible repeat (first|refine blk_drewN ?_ _|refine blk_drew ?_|refine blk_alloc ?_ _));exact BK101.out⟩,⟨by repeat (first|(with_reducible first|exact HB.out|apply below_alloc|apply pw_below_drewN|apply below_drew1|refine below_set ?_ GE101.out)|exact HB.out)⟩⟩
 case rest =>
  clear HC2
  try clear c1
  try clear p2
  try clear c4
  try clear c4b0
  try clear c6
  try clear c6b0
  try clear c8
  try clear c8b0
  try clear hcz10_0
  try clear hcz10_1
  try clear hcz5_0
  try clear hcz5_1
  try clear hcz7_0
  try clear hcz7_1
  try clear hcz9_0
  try clear hcz9_1
  try clear hfz10_0
  try clear hfz10_1
  try clear hfz5_0
  try clear hfz5_1
  try clear hfz7_0
  try clear hfz7_1
  try clear hfz9_0
  try clear hfz9_1
  obtain ⟨kq,x23_1,rfl,HA,HJ1,BK101,HB⟩:=hcut
  cases kq with
  | zero=>exact absurd HA.out (by simp [layout_Check.j0])
  | succ kj1 =>
   have H:=HA.out
   clear HA
   simp only [layout_Check.j0] at H
   by_cases c11:x23_1=true
   ·subst c11
    have H1:(some 110)=some r:=by rw [if_pos rfl] at H;exact H
    clear H
    have H:=H1
    clear H1
    obtain rfl:=Option.some.inj H
    go_wp2
    repeat (go_quiet (fail);try go_wp2)
    go_ret
    exact ⟨by first|rfl|(simp [errW_none,errW_some] <;> rfl)|(simp [*,errW_none,errW_some] <;> rfl),by repeat (first|(with_reducible first|exact HB.out|apply below_alloc|apply pw_below_drewN|apply below_drew1|refine below_set ?_ GE101.out)|exact HB.out)⟩
   ·replace c11:=Bool.eq_false_iff.mpr c11
    subst c11
    have H1:((layout_ceil.f a0_0 128).bind fun t102=>(if (wrap64 (a0_0 - (wrap64 ((wrap64 (t102 - 1)) * 128)))) < 16 then (some 110) else ((layout_ceil.f (wrap64 (t102 * 16)) 256).bind fun t103=>(if (wrap64 ((wrap64 ((wrap64 ((wrap64 (1 + t103)) + 2)) + 4)) + a0_1)) ≥ (mn a0_0 128) then (some 110) else (some 0)))))=some r:=by rw [if_neg (show ¬ (false=true) by decide)] at H;exact H
    clear H
    have H:=H1
    clear H1
    replace H:=Option.bind_eq_some_iff.mp H
    obtain ⟨t102,A120,H⟩:=H
    replace H:(if (wrap64 (a0_0 - (wrap64 ((wrap64 (t102 - 1)) * 128)))) < 16 then (some 110) else ((layout_ceil.f (wrap64 (t102 * 16)) 256).bind fun t103=>(if (wrap64 ((wrap64 ((wrap64 ((wrap64 (1 + t103)) + 2)) + 4)) + a0_1)) ≥ (mn a0_0 128) then (some 110) else (some 0))))=some r:=H
    have A12:=Aside0.mk A120
    clear A120
    by_cases c13:(wrap64 (a0_0 - (wrap64 ((wrap64 (t102 - 1)) * 128)))) < 16
    ·rw [if_pos c13] at H
     have c13b0:decide ((wrap64 (a0_0 - (wrap64 ((wrap64 (t102 - 1)) * 128)))) < 16)=true:=decide_eq_true c13
     clear c13
     obtain rfl:=Option.some.inj H
     have hcz14_0:wc.cell? ⟨gb101,0,none⟩=some (.int .i64 a0_0):=(blk_cell BK101.out 0).trans rfl
     have hcz14_1:wc.cell? ⟨gb101,1,none⟩=some (.int .i64 a0_1):=(blk_cell BK101.out 1).trans rfl
     have hfz14_0:=blk_frozen BK101.out 0
     have hfz14_1:=blk_frozen BK101.out 1
     go_wp2_with (first|(go_at_call 45;(with_reducible refine (layout_ceil.calls a0_0 128 t102 _ A12.out).mono ?_);rintro e w' ⟨rfl,⟨nd,rfl⟩⟩;(try first|exact ⟨rfl,_,World.drewN_drewN _ _ _⟩|exact ⟨rfl,_,Eq.trans (World.drewN_drewN _ _ _) (congrArg (World.drewN _) (Nat.add_assoc _ _ _))⟩)))
     repeat (go_quiet (first|(go_at_call 45;(with_reducible refine (layout_ceil.calls a0_0 128 t102 _ A12.out).mono ?_);rintro e w' ⟨rfl,⟨nd,rfl⟩⟩;(try first|exact ⟨rfl,_,World.drewN_drewN _ _ _⟩|exact ⟨rfl,_,Eq.trans (World.drewN_drewN _ _ _) (congrArg (World.drewN _) (Nat.add_assoc _ _ _))⟩)));try go_wp2_with (first|(go_at_call 45;(with_reducible refine (layout_ceil.calls a0_0 128 t102 _ A12.out).mono ?_);rintro e w' ⟨rfl,⟨nd,rfl⟩⟩;(try first|exact ⟨rfl,_,World.drewN_drewN _ _ _⟩|exact ⟨rfl,_,Eq.trans (World.drewN_drewN _ _ _) (congrArg (World.drewN _) (Nat.add_assoc _ _ _))⟩))))
     go_ret
     exact ⟨by first|rfl|(simp [errW_none,errW_some] <;> rfl)|(simp [*,errW_none,errW_some] <;> rfl),by repeat (first|(with_reducible first|exact HB.out|apply below_alloc|apply pw_below_drewN|apply below_drew1|refine below_set ?_ GE101.out)|exact HB.out)⟩
    ·rw [if_neg c13] at H
     have c13b0:decide ((wrap64 (a0_0 - (wrap64 ((wrap64 (t102 - 1)) * 128)))) < 16)=false:=decide_eq_false c13
     clear c13
     replace H:=Option.bind_eq_some_iff.mp H
     obtain ⟨t103,A150,H⟩:=H
     replace H:(if (wrap64 ((wrap64 ((wrap64 ((wrap64 (1 + t103)) + 2)) + 4)) + a0_1)) ≥ (mn a0_0 128) then (some 110) else (some 0))=some r:=H
     have A15:=Aside0.mk A150
     clear A150
     obtain ⟨ji16,hji16⟩:∃ j_:Int,(mn a0_0 128)=j_:=⟨_,rfl⟩
     replace H:(if (wrap64 ((wrap64 ((wrap64 ((wrap64 (1 + t103)) + 2)) + 4)) + a0_1)) ≥ (ji16) then (some 110) else (some 0))=some r:=by first|(rw [hji16] at H;exact H)|(simp only [hji16] at H ⊢;exact H)
     (try rw [hji16] at A12)
     (try rw [hji16] at A15)
     have hji16_:(if 128 < a0_0 then 128 else a0_0)=ji16:=hji16
     by_cases c17:(wrap64 ((wrap64 ((wrap64 ((wrap64 (1 + t103)) + 2)) + 4)) + a0_1)) ≥ (ji16)
     ·rw [if_pos c17] at H
      have c17b0:decide ((ji16)≤(wrap64 ((wrap64 ((wrap64 ((wrap64 (1 + t103)) + 2)) + 4)) + a0_1)))=true:=decide_eq_true c17
      clear c17
      obtain rfl:=Option.some.inj H
      have hcz18_0:wc.cell? ⟨gb101,0,none⟩=some (.int .i64 a0_0):=(blk_cell BK101.out 0).trans rfl
      have hcz18_1:wc.cell? ⟨gb101,1,none⟩=some (.int .i64 a0_1):=(blk_cell BK101.out 1).trans rfl
      have hfz18_0:=blk_frozen BK101.out 0
      have hfz18_1:=blk_frozen BK101.out 1
      go_wp2_with (first|(go_at_call 45;(with_reducible refine (layout_ceil.calls a0_0 128 t102 _ A12.out).mono ?_);rintro e w' ⟨rfl,⟨nd,rfl⟩⟩;(try first|exact ⟨rfl,_,World.drewN_drewN _ _ _⟩|exact ⟨rfl,_,Eq.trans (World.drewN_drewN _ _ _) (congrArg (World.drewN _) (Nat.add_assoc _ _ _))⟩))|(go_at_call 45;(with_reducible refine (layout_ceil.calls (wrap64 (t102 * 16)) 256 t103 _ A15.out).mono ?_);rintro e w' ⟨rfl,⟨nd,rfl⟩⟩;(try first|exact ⟨rfl,_,World.drewN_drewN _ _ _⟩|exact ⟨rfl,_,Eq.trans (World.drewN_drewN _ _ _) (congrArg (World.drewN _) (Nat.add_assoc _ _ _))⟩)))
      repeat (go_quiet (first|(go_at_call 45;(with_reducible refine (layout_ceil.calls a0_0 128 t102 _ A12.out).mono ?_);rintro e w' ⟨rfl,⟨nd,rfl⟩⟩;(try first|exact ⟨rfl,_,World.drewN_drewN _ _ _⟩|exact ⟨rfl,_,Eq.trans (World.drewN_drewN _ _ _) (congrArg (World.drewN _) (Nat.add_assoc _ _ _))⟩))|(go_at_call 45;(with_reducible refine (layout_ceil.calls (wrap64 (t102 * 16)) 256 t103 _ A15.out).mono ?_);rintro e w' ⟨rfl,⟨nd,rfl⟩⟩;(try first|exact ⟨rfl,_,World.drewN_drewN _ _ _⟩|exact ⟨rfl,_,Eq.trans (World.drewN_drewN _ _ _) (congrArg (World.drewN _) (Nat.add_assoc _ _ _))⟩)));try go_wp2_with (first|(go_at_call 45;(with_reducible refine (layout_ceil.calls a0_0 128 t102 _ A12.out).mono ?_);rintro e w' ⟨rfl,⟨nd,rfl⟩⟩;(try first|exact ⟨rfl,_,World.drewN_drewN _ _ _⟩|exact ⟨rfl,_,Eq.trans (World.drewN_drewN _ _ _) (congrArg (World.drewN _) (Nat.add_assoc _ _ _))⟩))|(go_at_call 45;(with_reducible refine (layout_ceil.calls (wrap64 (t102 * 16)) 256 t103 _ A15.out).mono ?_);rintro e w' ⟨rfl,⟨nd,rfl⟩⟩;(try first|exact ⟨rfl,_,World.drewN_drewN _ _ _⟩|exact ⟨rfl,_,Eq.trans (World.drewN_drewN _ _ _) (congrArg (World.drewN _) (Nat.add_assoc _ _ _))⟩))))
      go_ret
      exact ⟨by first|rfl|(simp [errW_none,errW_some] <;> rfl)|(simp only [← hji16];first|rfl|(simp [errW_none,errW_some] <;> rfl))|(simp [*,errW_none,errW_some] <;> rfl),by repeat (first|(with_reducible first|exact HB.out|apply below_alloc|apply pw_below_drewN|apply below_drew1|refine below_set ?_ GE101.out)|exact HB.out)⟩
     ·rw [if_neg c17] at H
      have c17b0:decide ((ji16)≤(wrap64 ((wrap64 ((wrap64 ((wrap64 (1 + t103)) + 2)) + 4)) + a0_1)))=false:=decide_eq_false c17
      clear c17
      obtain rfl:=Option.some.inj H
      have hcz19_0:wc.cell? ⟨gb101,0,none⟩=some (.int .i64 a0_0):=(blk_cell BK101.out 0).trans rfl
      have hcz19_1:wc.cell? ⟨gb101,1,none⟩=some (.int .i64 a0_1):=(blk_cell BK101.out 1).trans rfl
      have hfz19_0:=blk_frozen BK101.out 0
      have hfz19_1:=blk_frozen BK101.out 1
      go_wp2_with (first|(go_at_call 45;(with_reducible refine (layout_ceil.calls a0_0 128 t102 _ A12.out).mono ?_);rintro e w' ⟨rfl,⟨nd,rfl⟩⟩;(try first|exact ⟨rfl,_,World.drewN_drewN _ _ _⟩|exact ⟨rfl,_,Eq.trans (World.drewN_drewN _ _ _) (congrArg (World.drewN _) (Nat.add_assoc _ _ _))⟩))|(go_at_call 45;(with_reducible refine (layout_ceil.calls (wrap64 (t102 * 16)) 256 t103 _ A15.out).mono ?_);rintro e w' ⟨rfl,⟨nd,rfl⟩⟩;(try first|exact ⟨rfl,_,World.drewN_drewN _ _ _⟩|exact ⟨rfl,_,Eq.trans (World.drewN_drewN _ _ _) (congrArg (World.drewN _) (Nat.add_assoc _ _ _))⟩)))
      repeat (go_quiet (first|(go_at_call 45;(with_reducible refine (layout_ceil.calls a0_0 128 t102 _ A12.out).mono ?_);rintro e w' ⟨rfl,⟨nd,rfl⟩⟩;(try first|exact ⟨rfl,_,World.drewN_drewN _ _ _⟩|exact ⟨rfl,_,Eq.trans (World.drewN_drewN _ _ _) (congrArg (World.drewN _) (Nat.add_assoc _ _ _))⟩))|(go_at_call 45;(with_reducible refine (layout_ceil.calls (wrap64 (t102 * 16)) 256 t103 _ A15.out).mono ?_);rintro e w' ⟨rfl,⟨nd,rfl⟩⟩;(try first|exact ⟨rfl,_,World.drewN_drewN _ _ _⟩|exact ⟨rfl,_,Eq.trans (World.drewN_drewN _ _ _) (congrArg (World.drewN _) (Nat.add_assoc _ _ _))⟩)));try go_wp2_with (first|(go_at_call 45;(with_reducible refine (layout_ceil.calls a0_0 128 t102 _ A12.out).mono ?_);rintro e w' ⟨rfl,⟨nd,rfl⟩⟩;(try first|exact ⟨rfl,_,World.drewN_drewN _ _ _⟩|exact ⟨rfl,_,Eq.trans (World.drewN_drewN _ _ _) (congrArg (World.drewN _) (Nat.add_assoc _ _ _))⟩))|(go_at_call 45;(with_reducible refine (layout_ceil.calls (wrap64 (t102 * 16)) 256 t103 _ A15.out).mono ?_);rintro e w' ⟨rfl,⟨nd,rfl⟩⟩;(try first|exact ⟨rfl,_,World.drewN_drewN _ _ _⟩|exact ⟨rfl,_,Eq.trans (World.drewN_drewN _ _ _) (congrArg (World.drewN _) (Nat.add_assoc _ _ _))⟩))))
      go_ret
      exact ⟨by first|rfl|(simp [errW_none,errW_some] <;> rfl)|(simp only [← hji16];first|rfl|(simp [errW_none,errW_some] <;> rfl))|(simp [*,errW_none,errW_some] <;> rfl),by repeat (first|(with_reducible first|exact HB.out|apply below_alloc|apply pw_below_drewN|apply below_drew1|refine below_set ?_ GE101.out)|exact HB.out)⟩
end Go.Proofs.Ytbdnmdmfnopihaa.Print
end
section
namespace Go.Proofs.Ytbdnmdmfnopihaa.Print
open Go.RowKit Go.Proofs.YtbdnmdmfnopihaaW.PrintWords Go.Proofs.YtbdnmdmfnopihaaW.PrintLast Go.Proofs.YtbdnmdmfnopihaaW.PrintMore
attribute [local go_sem] max2_int min2_int max_two min_two max_three min_three max_four min_four   -- for this text's walks alone
attribute [local go_sem ↓] Go.Proofs.Ytbdnmdmfnopihaa.Sem.isSome_setCell
attribute [local go_sem] Go.Instr.field Go.asAgg
set_option linter.unusedVariables false
set_option linter.unusedSimpArgs false
def layout_Plan.j0:Nat → Int → Int → Bool → Option (Int × Int × Int)
 | 0,_,_,_=>none
 | k + 1,x0,x1,x22=>if x22=true then (some (0,0,1)) else (if (Int.tmod x0 128) < 16 then ((layout_Check.f k (wrap64 (x0 - (Int.tmod x0 128))) x1).bind fun t106=>(if t106=0 then (some (wrap64 (x0 - (Int.tmod x0 128)),x1,0)) else (some (0,0,t106)))) else ((layout_Check.f k x0 x1).bind fun t107=>(if t107=0 then (some (x0,x1,0)) else (some (0,0,t107)))))
def layout_Plan.f (k:Nat) (a0:Int) (a1:Int):Option (Int × Int × Int):=if a0 < 1 then (layout_Plan.j0 k a0 a1 true) else (if a0 > 8192 then (layout_Plan.j0 k a0 a1 true) else (if a1 < 16 then (layout_Plan.j0 k a0 a1 true) else (layout_Plan.j0 k a0 a1 (decide (a1 > 64)))))
theorem layout_Plan.mono_l:∀ k,(∀ y0 y1 y2,LeO (layout_Plan.j0 k y0 y1 y2) (layout_Plan.j0 (k + 1) y0 y1 y2))
 | 0=>fun _ _ _ r h=>by simp [layout_Plan.j0] at h
 | k + 1=>by
  have ih0:=layout_Plan.mono_l k
  ·intro y0 y1 y2
   unfold layout_Plan.j0
   repeat' first
   | (with_reducible exact ih0 _ _ _)
   | (with_reducible exact layout_Check.mono _ _ _)
   | (with_reducible exact LeO.refl _)
   | (with_reducible exact LeO.none _)
   | (with_reducible refine LeO.ite ?_ ?_)
   | (with_reducible refine LeO.bind ?_ (fun _=>?_))
   | exact ih0 _ _ _
   | exact layout_Check.mono _ _ _
   | exact LeO.none _
   | refine LeO.ite ?_ ?_
   | refine LeO.bind ?_ (fun _=>?_)
theorem layout_Plan.mono:∀ a0 a1 k,LeO (layout_Plan.f k a0 a1) (layout_Plan.f (k + 1) a0 a1):=by
 intro a0 a1 k
 have ih0:=layout_Plan.mono_l k
 unfold layout_Plan.f
 repeat' first
   | (with_reducible exact ih0 _ _ _)
   | (with_reducible exact layout_Check.mono _ _ _)
   | (with_reducible exact LeO.refl _)
   | (with_reducible exact LeO.none _)
   | (with_reducible refine LeO.ite ?_ ?_)
   | (with_reducible refine LeO.bind ?_ (fun _=>?_))
   | exact ih0 _ _ _
   | exact layout_Check.mono _ _ _
   | exact LeO.none _
   | refine LeO.ite ?_ ?_
   | refine LeO.bind ?_ (fun _=>?_)
set_option maxHeartbeats 8000000 in
set_option maxRecDepth 100000 in
theorem layout_Plan.calls (k:Nat) (a0:Int) (a1:Int) (r1:Int) (r2:Int) (r3:Int) (w:World) (h:layout_Plan.f k a0 a1=some (r1,r2,r3)) :
  Calls Try.prog 11 #[.int .i64 a0,.int .i64 a1] w fun e w'=>e=.returned (.tuple #[.agg #[.int .i64 r1,.int .i64 r2],.int .i64 r3])∧Below w.heap.size w w':=by
 have hu24:=Try.underlying24
 have HB:=Aside0.mk (Below.refl w.heap.size w)
 have H:(if a0 < 1 then (layout_Plan.j0 k a0 a1 true) else (if a0 > 8192 then (layout_Plan.j0 k a0 a1 true) else (if a1 < 16 then (layout_Plan.j0 k a0 a1 true) else (layout_Plan.j0 k a0 a1 (decide (a1 > 64))))))=some (r1,r2,r3):=h
 clear h
 have HC3:=Aside0.mk H
 clear H
 go_enter Try.func11,Try.ntmps11
 go_upto_region 1 with (first|((with_reducible refine gate_dst (N:=4) rfl ?_);refine box_event ?hg (N:=4) ?hd (cs:=#[.int .i64 0,.int .i64 0]) (t:=24) ?hr ?_;(case hd=>rfl);(case hg=>rfl);(case hr=>first|(go_simp;done)|(go_simp;rfl));intro gb104 hg w4 hbox hb;have n0_:=Aside0.mk (below_step (by repeat (first|(with_reducible first|exact HB.out|apply below_alloc|apply pw_below_drewN|apply below_drew1)|exact HB.out)) hb);have n1_:=Aside0.mk (hbox);have n2_:=Aside0.mk ((by rw [hg];exact (below_size (by repeat (first|(with_reducible first|exact HB.out|apply below_alloc|apply pw_below_drewN|apply below_drew1)|exact HB.out))):w.heap.size≤gb104));have n3_:=Aside0.mk ((by rw [hg];exact (below_size (by repeat (first|(with_reducible first|exact HB.out|apply below_alloc|apply pw_below_drewN|apply below_drew1)|exact HB.out))):w.heap.size≤gb104));clear HB;have HB:=n0_;have BK104:=n1_;have GW104:=n2_;have GE104:=n3_;clear n0_ n1_ n2_ n3_;clear hb hbox hg))
 (try simp only [Act.put,List.setIfInBounds_toArray,List.set_cons_zero,List.set_cons_succ])
 go_cut [22] (fun v22 wc=>∃ (kq:Nat) (x22_2:Bool),v22=.bool x22_2∧Aside0 (layout_Plan.j0 kq a0 a1 x22_2=some (r1,r2,r3))∧Aside0 (kq≤k)∧Aside0 (wc.heap[gb104]?=some (.cells #[.int .i64 0,.int .i64 0] 24 (0,0)))∧Aside0 (Below w.heap.size w wc))
 case first =>
  have H:=HC3.out
  clear HC3
  by_cases c5:a0 < 1
  ·rw [if_pos c5] at H
   have c5b0:decide (a0 < 1)=true:=decide_eq_true c5
   clear c5
   (first|rw [c5b0]|(simp only [i64_w,i32_w];rw [c5b0])|skip)
   have H':=Aside0.mk H
   clear H
   go_wp2
   go_meet
   case rel=>exact ⟨_,(true),(by first|rfl|(simp;done)|(simp [*];done)),H',⟨by first|omega|exact Nat.le_refl _⟩,⟨by (with_reducible repeat (first|refine blk_drewN ?_ _|refine blk_drew ?_|refine blk_alloc ?_ _));exact BK104.out⟩,⟨by repeat (first|(with_reducible first|exact HB.out|apply below_alloc|apply pw_below_drewN|apply below_drew1|refine below_set ?_ GE104.out)|exact HB.out)⟩⟩
  ·rw [if_neg c5] at H
   have c5b0:decide (a0 < 1)=false:=decide_eq_false c5
   clear c5
   (first|rw [c5b0]|(simp only [i64_w,i32_w];rw [c5b0])|skip)
   by_cases c6:a0 > 8192
   ·rw [if_pos c6] at H
    have c6b0:decide (8192 < a0)=true:=decide_eq_true c6
    clear c6
    have H':=Aside0.mk H
    clear H
    go_wp2
    go_meet
    case rel=>exact ⟨_,(true),(by first|rfl|(simp;done)|(simp [*];done)),H',⟨by first|omega|exact Nat.le_refl _⟩,⟨by (with_reducible repeat (first|refine blk_drewN ?_ _|refine blk_drew ?_|refine blk_alloc ?_ _));exact BK104.out⟩,⟨by repeat (first|(with_reducible first|exact HB.out|apply below_alloc|apply pw_below_drewN|apply below_drew1|refine below_set ?_ GE104.out)|exact HB.out)⟩⟩
   ·rw [if_neg c6] at H
    have c6b0:decide (8192 < a0)=false:=decide_eq_false c6
    clear c6
    by_cases c7:a1 < 16
    ·rw [if_pos c7] at H
     have c7b0:decide (a1 < 16)=true:=decide_eq_true c7
     clear c7
     have H':=Aside0.mk H
     clear H
     go_wp2
     go_meet
     case rel=>exact ⟨_,(true),(by first|rfl|(simp;done)|(simp [*];done)),H',⟨by first|omega|exact Nat.le_refl _⟩,⟨by (with_reducible repeat (first|refine blk_drewN ?_ _|refine blk_drew ?_|refine blk_alloc ?_ _));exact BK104.out⟩,⟨by repeat (first|(with_reducible first|exact HB.out|apply below_alloc|apply pw_below_drewN|apply below_drew1|refine below_set ?_ GE104.out)|exact HB.out)⟩⟩
    ·rw [if_neg c7] at H
     have c7b0:decide (a1 < 16)=false:=decide_eq_false c7
     clear c7
     have H':=Aside0.mk H
     clear H
     go_wp2
     go_meet
     case rel=>exact ⟨_,(decide (a1 > 64)),(by first|rfl|(simp;done)|(simp [*];done)),H',⟨by first|omega|exact Nat.le_refl _⟩,⟨by (with_reducible repeat (first|refine blk_drewN ?_ _|refine blk_drew ?_|refine blk_alloc ?_ _));exact BK104.out⟩,⟨by repeat (first|(with_reducible first|exact HB.out|apply below_alloc|apply pw_below_drewN|apply below_drew1|refine below_set ?_ GE104.out)|exact HB.out)⟩⟩
 case rest =>
  clear HC3
  try clear c1
  try clear p2
  try clear c5
  try clear c5b0
  try clear c6
  try clear c6b0
  try clear c7
  try clear c7b0
  obtain ⟨kq,x22_2,rfl,HA,HJ2,BK104,HB⟩:=hcut
  cases kq with
  | zero=>exact absurd HA.out (by simp [layout_Plan.j0])
  | succ kj2 =>
   have H:=HA.out
   clear HA
   simp only [layout_Plan.j0] at H
   by_cases c8:x22_2=true
   ·subst c8
    have H1:(some (0,0,1))=some (r1,r2,r3):=by rw [if_pos rfl] at H;exact H
    clear H
    have H:=H1
    clear H1
    simp only [Option.some.injEq,Prod.mk.injEq] at H
    obtain ⟨rfl,rfl,rfl⟩:=H
    have hcz9_0:wc.cell? ⟨gb104,0,none⟩=some (.int .i64 0):=(blk_cell BK104.out 0).trans rfl
    have hcz9_1:wc.cell? ⟨gb104,1,none⟩=some (.int .i64 0):=(blk_cell BK104.out 1).trans rfl
    have hfz9_0:=blk_frozen BK104.out 0
    have hfz9_1:=blk_frozen BK104.out 1
    go_wp2
    refine bodyPost_ret (results_ct rfl _ _ gb104 24 #[.int .i64 0,.int .i64 0] (0,0) _ rfl (by (with_reducible repeat (first|refine blk_drewN ?_ _|refine blk_drew ?_|refine blk_alloc ?_ _));refine blk_put (cs:=#[.int .i64 0,.int .i64 0]) ?_ 1 _ rfl;(with_reducible repeat (first|refine blk_drewN ?_ _|refine blk_drew ?_|refine blk_alloc ?_ _));refine blk_put (cs:=#[.int .i64 0,.int .i64 0]) ?_ 0 _ rfl;(with_reducible repeat (first|refine blk_drewN ?_ _|refine blk_drew ?_|refine blk_alloc ?_ _));exact BK104.out) Try.underlying24 rfl (by kernel_rfl)) rfl ?_
    exact ⟨by first|rfl|(simp [errW_none,errW_some] <;> rfl)|(simp [*,errW_none,errW_some] <;> rfl),by repeat (first|(with_reducible first|exact HB.out|apply below_alloc|apply pw_below_drewN|apply below_drew1|refine below_set ?_ GE104.out)|exact HB.out)⟩
   ·replace c8:=Bool.eq_false_iff.mpr c8
    subst c8
    have H1:(if (Int.tmod a0 128) < 16 then ((layout_Check.f kj2 (wrap64 (a0 - (Int.tmod a0 128))) a1).bind fun t106=>(if t106=0 then (some (wrap64 (a0 - (Int.tmod a0 128)),a1,0)) else (some (0,0,t106)))) else ((layout_Check.f kj2 a0 a1).bind fun t107=>(if t107=0 then (some (a0,a1,0)) else (some (0,0,t107)))))=some (r1,r2,r3):=by rw [if_neg (show ¬ (false=true) by decide)] at H;exact H
    clear H
    have H:=H1
    clear H1
    by_cases c10:(Int.tmod a0 128) < 16
    ·rw [if_pos c10] at H
     have c10b0:decide ((Int.tmod a0 128) < 16)=true:=decide_eq_true c10
     clear c10
     replace H:=Option.bind_eq_some_iff.mp H
     obtain ⟨t106,A110,H⟩:=H
     replace H:(if t106=0 then (some (wrap64 (a0 - (Int.tmod a0 128)),a1,0)) else (some (0,0,t106)))=some (r1,r2,r3):=H
     have A11:=Aside0.mk A110
     clear A110
     by_cases c12:t106=0
     ·rw [if_pos c12] at H
      have c12b0:(t106 == 0)=true:=beq_iff_eq.mpr c12
      have c12b1:(t106 != 0)=false:=bne_eq_false_iff_eq.mpr c12
      clear c12
      simp only [Option.some.injEq,Prod.mk.injEq] at H
      obtain ⟨rfl,rfl,rfl⟩:=H
      go_wp2_with (first|((with_reducible refine gate_dst (N:=6) rfl ?_);refine box_event ?hg (N:=6) ?hd (cs:=#[.int .i64 0,.int .i64 0]) (t:=24) ?hr ?_;(case hd=>rfl);(case hg=>rfl);(case hr=>first|(go_simp;done)|(go_simp;rfl));intro gb105 hg w13 hbox hb;have n0_:=Aside0.mk (blk_below (g:=gb104) (o:=.cells #[.int .i64 0,.int .i64 0] 24 (0,0)) (by (with_reducible repeat (first|refine blk_drewN ?_ _|refine blk_drew ?_|refine blk_alloc ?_ _));exact BK104.out) hb);have n1_:=Aside0.mk (below_step (by repeat (first|(with_reducible first|exact HB.out|apply below_alloc|apply pw_below_drewN|apply below_drew1|refine below_set ?_ GE104.out)|exact HB.out)) hb);have n2_:=Aside0.mk (hbox);have n3_:=Aside0.mk ((by rw [hg];exact (below_size (by repeat (first|(with_reducible first|exact HB.out|apply below_alloc|apply pw_below_drewN|apply below_drew1|refine below_set ?_ GE104.out)|exact HB.out))):w.heap.size≤gb105));have n4_:=Aside0.mk ((by rw [hg];exact (below_size (by repeat (first|(with_reducible first|exact HB.out|apply below_alloc|apply pw_below_drewN|apply below_drew1|refine below_set ?_ GE104.out)|exact HB.out))):w.heap.size≤gb105));have n5_:=Aside0.mk ((by rw [hg];exact Nat.ne_of_lt (blk_lt (g:=gb104) (o:=.cells #[.int .i64 0,.int .i64 0] 24 (0,0)) (by (with_reducible repeat (first|refine blk_drewN ?_ _|refine blk_drew ?_|refine blk_alloc ?_ _));exact BK104.out)):gb104≠gb105));have n6_:=Aside0.mk ((by rw [hg];exact Nat.ne_of_gt (blk_lt (g:=gb104) (o:=.cells #[.int .i64 0,.int .i64 0] 24 (0,0)) (by (with_reducible repeat (first|refine blk_drewN ?_ _|refine blk_drew ?_|refine blk_alloc ?_ _));exact BK104.out)):gb105≠gb104));clear BK104 HB;have BK104:=n0_;have HB:=n1_;have BK105:=n2_;have GW105:=n3_;have GE105:=n4_;have NB104_105:=n5_;have NB105_104:=n6_;clear n0_ n1_ n2_ n3_ n4_ n5_ n6_;clear hb hbox hg;have hnb14:=NB105_104.out;have hnc14:=NB104_105.out;have hcz15_0:w13.cell? ⟨gb105,0,none⟩=some (.int .i64 0):=(blk_cell BK105.out 0).trans rfl;have hcz15_1:w13.cell? ⟨gb105,1,none⟩=some (.int .i64 0):=(blk_cell BK105.out 1).trans rfl;have hfz15_0:=blk_frozen BK105.out 0;have hfz15_1:=blk_frozen BK105.out 1)|((with_reducible refine gate_callee (f:=15) rfl ?_);refine goesL_ (some 37) rfl rfl Try.func15 (by kernel_rfl) rfl #[.agg #[.int .i64 (wrap64 (a0 - (Int.tmod a0 128))),.int .i64 a1]] rfl (by (try simp only [List.map_toArray,List.map_cons,List.map_nil]);first|done|rfl|(simp only [List.length_drop,List.length_take];rfl)) ?_;(with_reducible refine (layout_Check.calls kj2 (wrap64 (a0 - (Int.tmod a0 128))) a1 t106 _ A11.out).mono ?_);rintro e w16 ⟨rfl,hb⟩;refine ⟨_,rfl,?_⟩;have n0_:=Aside0.mk (blk_below (g:=gb104) (o:=.cells #[.int .i64 0,.int .i64 0] 24 (0,0)) (by (with_reducible repeat (first|refine blk_drewN ?_ _|refine blk_drew ?_|refine blk_alloc ?_ _));refine blk_far ?_ NB104_105.out _;(with_reducible repeat (first|refine blk_drewN ?_ _|refine blk_drew ?_|refine blk_alloc ?_ _));refine blk_far ?_ NB104_105.out _;(with_reducible repeat (first|refine blk_drewN ?_ _|refine blk_drew ?_|refine blk_alloc ?_ _));refine blk_far ?_ NB104_105.out _;(with_reducible repeat (first|refine blk_drewN ?_ _|refine blk_drew ?_|refine blk_alloc ?_ _));exact BK104.out) hb);have n1_:=Aside0.mk (blk_below (g:=gb105) (o:=.cells #[.int .i64 (wrap64 (a0 - (Int.tmod a0 128))),.int .i64 a1] 24 (0,0)) (by (with_reducible repeat (first|refine blk_drewN ?_ _|refine blk_drew ?_|refine blk_alloc ?_ _));refine blk_put (cs:=#[.int .i64 a0,.int .i64 a1]) ?_ 0 _ rfl;(with_reducible repeat (first|refine blk_drewN ?_ _|refine blk_drew ?_|refine blk_alloc ?_ _));refine blk_put (cs:=#[.int .i64 a0,.int .i64 0]) ?_ 1 _ rfl;(with_reducible repeat (first|refine blk_drewN ?_ _|refine blk_drew ?_|refine blk_alloc ?_ _));refine blk_put (cs:=#[.int .i64 0,.int .i64 0]) ?_ 0 _ rfl;(with_reducible repeat (first|refine blk_drewN ?_ _|refine blk_drew ?_|refine blk_alloc ?_ _));exact BK105.out) hb);have n2_:=Aside0.mk (below_step (by repeat (first|(with_reducible first|exact HB.out|apply below_alloc|apply pw_below_drewN|apply below_drew1|refine below_set ?_ GE104.out|refine below_set ?_ GE105.out)|exact HB.out)) hb);clear BK104 BK105 HB;have BK104:=n0_;have BK105:=n1_;have HB:=n2_;clear n0_ n1_ n2_;(try clear hb);(try clear hb2);(try clear hk);(try clear hi);have hcz17_0:w16.cell? ⟨gb105,0,none⟩=some (.int .i64 (wrap64 (a0 - (Int.tmod a0 128)))):=(blk_cell BK105.out 0).trans rfl;have hcz17_1:w16.cell? ⟨gb105,1,none⟩=some (.int .i64 a1):=(blk_cell BK105.out 1).trans rfl;have hfz17_0:=blk_frozen BK105.out 0;have hfz17_1:=blk_frozen BK105.out 1;have hcz18_0:w16.cell? ⟨gb104,0,none⟩=some (.int .i64 0):=(blk_cell BK104.out 0).trans rfl;have hcz18_1:w16.cell? ⟨gb104,1,none⟩=some (.int .i64 0):=(blk_cell BK104.out 1).trans rfl;have hfz18_0:=blk_frozen BK104.out 0;have hfz18_1:=blk_frozen BK104.out 1))
      refine bodyPost_ret (results_ct rfl _ _ gb104 24 #[.int .i64 (wrap64 (a0 - (Int.tmod a0 128))),.int .i64 a1] (0,0) _ rfl (by (with_reducible repeat (first|refine blk_drewN ?_ _|refine blk_drew ?_|refine blk_alloc ?_ _));refine blk_put (cs:=#[.int .i64 (wrap64 (a0 - (Int.tmod a0 128))),.int .i64 0]) ?_ 1 _ rfl;(with_reducible repeat (first|refine blk_drewN ?_ _|refine blk_drew ?_|refine blk_alloc ?_ _));refine blk_put (cs:=#[.int .i64 0,.int .i64 0]) ?_ 0 _ rfl;(with_reducible repeat (first|refine blk_drewN ?_ _|refine blk_drew ?_|refine blk_alloc ?_ _));exact BK104.out) Try.underlying24 rfl (by kernel_rfl)) rfl ?_
      exact ⟨by first|rfl|(simp [errW_none,errW_some] <;> rfl)|(simp [*,errW_none,errW_some] <;> rfl),by repeat (first|(with_reducible first|exact HB.out|apply below_alloc|apply pw_below_drewN|apply below_drew1|refine below_set ?_ GE104.out|refine below_set ?_ GE105.out)|exact HB.out)⟩
     ·rw [if_neg c12] at H
      have c12b0:(t106 == 0)=false:=beq_eq_false_iff_ne.mpr c12
      have c12b1:(t106 != 0)=true:=bne_iff_ne.mpr c12
      simp only [Option.some.injEq,Prod.mk.injEq] at H
      obtain ⟨rfl,rfl,rfl⟩:=H
      go_wp2_with (first|((with_reducible refine gate_dst (N:=6) rfl ?_);refine box_event ?hg (N:=6) ?hd (cs:=#[.int .i64 0,.int .i64 0]) (t:=24) ?hr ?_;(case hd=>rfl);(case hg=>rfl);(case hr=>first|(go_simp;done)|(go_simp;rfl));intro gb105 hg w19 hbox hb;have n0_:=Aside0.mk (blk_below (g:=gb104) (o:=.cells #[.int .i64 0,.int .i64 0] 24 (0,0)) (by (with_reducible repeat (first|refine blk_drewN ?_ _|refine blk_drew ?_|refine blk_alloc ?_ _));exact BK104.out) hb);have n1_:=Aside0.mk (below_step (by repeat (first|(with_reducible first|exact HB.out|apply below_alloc|apply pw_below_drewN|apply below_drew1|refine below_set ?_ GE104.out)|exact HB.out)) hb);have n2_:=Aside0.mk (hbox);have n3_:=Aside0.mk ((by rw [hg];exact (below_size (by repeat (first|(with_reducible first|exact HB.out|apply below_alloc|apply pw_below_drewN|apply below_drew1|refine below_set ?_ GE104.out)|exact HB.out))):w.heap.size≤gb105));have n4_:=Aside0.mk ((by rw [hg];exact (below_size (by repeat (first|(with_reducible first|exact HB.out|apply below_alloc|apply pw_below_drewN|apply below_drew1|refine below_set ?_ GE104.out)|exact HB.out))):w.heap.size≤gb105));have n5_:=Aside0.mk ((by rw [hg];exact Nat.ne_of_lt (blk_lt (g:=gb104) (o:=.cells #[.int .i64 0,.int .i64 0] 24 (0,0)) (by (with_reducible repeat (first|refine blk_drewN ?_ _|refine blk_drew ?_|refine blk_alloc ?_ _));exact BK104.out)):gb104≠gb105));have n6_:=Aside0.mk ((by rw [hg];exact Nat.ne_of_gt (blk_lt (g:=gb104) (o:=.cells #[.int .i64 0,.int .i64 0] 24 (0,0)) (by (with_reducible repeat (first|refine blk_drewN ?_ _|refine blk_drew ?_|refine blk_alloc ?_ _));exact BK104.out)):gb105≠gb104));clear BK104 HB;have BK104:=n0_;have HB:=n1_;have BK105:=n2_;have GW105:=n3_;have GE105:=n4_;have NB104_105:=n5_;have NB105_104:=n6_;clear n0_ n1_ n2_ n3_ n4_ n5_ n6_;clear hb hbox hg;have hnb20:=NB105_104.out;have hnc20:=NB104_105.out;have hcz21_0:w19.cell? ⟨gb105,0,none⟩=some (.int .i64 0):=(blk_cell BK105.out 0).trans rfl;have hcz21_1:w19.cell? ⟨gb105,1,none⟩=some (.int .i64 0):=(blk_cell BK105.out 1).trans rfl;have hfz21_0:=blk_frozen BK105.out 0;have hfz21_1:=blk_frozen BK105.out 1)|((with_reducible refine gate_callee (f:=15) rfl ?_);refine goesL_ (some 37) rfl rfl Try.func15 (by kernel_rfl) rfl #[.agg #[.int .i64 (wrap64 (a0 - (Int.tmod a0 128))),.int .i64 a1]] rfl (by (try simp only [List.map_toArray,List.map_cons,List.map_nil]);first|done|rfl|(simp only [List.length_drop,List.length_take];rfl)) ?_;(with_reducible refine (layout_Check.calls kj2 (wrap64 (a0 - (Int.tmod a0 128))) a1 t106 _ A11.out).mono ?_);rintro e w22 ⟨rfl,hb⟩;refine ⟨_,rfl,?_⟩;have n0_:=Aside0.mk (blk_below (g:=gb104) (o:=.cells #[.int .i64 0,.int .i64 0] 24 (0,0)) (by (with_reducible repeat (first|refine blk_drewN ?_ _|refine blk_drew ?_|refine blk_alloc ?_ _));refine blk_far ?_ NB104_105.out _;(with_reducible repeat (first|refine blk_drewN ?_ _|refine blk_drew ?_|refine blk_alloc ?_ _));refine blk_far ?_ NB104_105.out _;(with_reducible repeat (first|refine blk_drewN ?_ _|refine blk_drew ?_|refine blk_alloc ?_ _));refine blk_far ?_ NB104_105.out _;(with_reducible repeat (first|refine blk_drewN ?_ _|refine blk_drew ?_|refine blk_alloc ?_ _));exact BK104.out) hb);have n1_:=Aside0.mk (blk_below (g:=gb105) (o:=.cells #[.int .i64 (wrap64 (a0 - (Int.tmod a0 128))),.int .i64 a1] 24 (0,0)) (by (with_reducible repeat (first|refine blk_drewN ?_ _|refine blk_drew ?_|refine blk_alloc ?_ _));refine blk_put (cs:=#[.int .i64 a0,.int .i64 a1]) ?_ 0 _ rfl;(with_reducible repeat (first|refine blk_drewN ?_ _|refine blk_drew ?_|refine blk_alloc ?_ _));refine blk_put (cs:=#[.int .i64 a0,.int .i64 0]) ?_ 1 _ rfl;(with_reducible repeat (first|refine blk_drewN ?_ _|refine blk_drew ?_|refine blk_alloc ?_ _));refine blk_put (cs:=#[.int .i64 0,.int .i64 0]) ?_ 0 _ rfl;(with_reducible repeat (first|refine blk_drewN ?_ _|refine blk_drew ?_|refine blk_alloc ?_ _));exact BK105.out) hb);have n2_:=Aside0.mk (below_step (by repeat (first|(with_reducible first|exact HB.out|apply below_alloc|apply pw_below_drewN|apply below_drew1|refine below_set ?_ GE104.out|refine below_set ?_ GE105.out)|exact HB.out)) hb);clear BK104 BK105 HB;have BK104:=n0_;have BK105:=n1_;have HB:=n2_;clear n0_ n1_ n2_;(try clear hb);(try clear hb2);(try clear hk);(try clear hi);have hcz23_0:w22.cell? ⟨gb104,0,none⟩=some (.int .i64 0):=(blk_cell BK104.out 0).trans rfl;have hcz23_1:w22.cell? ⟨gb104,1,none⟩=some (.int .i64 0):=(blk_cell BK104.out 1).trans rfl;have hfz23_0:=blk_frozen BK104.out 0;have hfz23_1:=blk_frozen BK104.out 1))
      refine bodyPost_ret (results_ct rfl _ _ gb104 24 #[.int .i64 0,.int .i64 0] (0,0) _ rfl (by (with_reducible repeat (first|refine blk_drewN ?_ _|refine blk_drew ?_|refine blk_alloc ?_ _));refine blk_put (cs:=#[.int .i64 0,.int .i64 0]) ?_ 1 _ rfl;(with_reducible repeat (first|refine blk_drewN ?_ _|refine blk_drew ?_|refine blk_alloc ?_ _));refine blk_put (cs:=#[.int .i64 0,.int .i64 0]) ?_ 0 _ rfl;(with_reducible repeat (first|refine blk_drewN ?_ _|refine blk_drew ?_|refine blk_alloc ?_ _));exact BK104.out) Try.underlying24 rfl (by kernel_rfl)) rfl ?_
      exact ⟨by first|rfl|(simp [errW_none,errW_some] <;> rfl)|(simp [*,errW_none,errW_some] <;> rfl),by repeat (first|(with_reducible first|exact HB.out|apply below_alloc|apply pw_below_drewN|apply below_drew1|refine below_set ?_ GE104.out|refine below_set ?_ GE105.out)|exact HB.out)⟩
    ·rw [if_neg c10] at H
     have c10b0:decide ((Int.tmod a0 128) < 16)=false:=decide_eq_false c10
     clear c10
     replace H:=Option.bind_eq_some_iff.mp H
     obtain ⟨t107,A240,H⟩:=H
     replace H:(if t107=0 then (some (a0,a1,0)) else (some (0,0,t107)))=some (r1,r2,r3):=H
     have A24:=Aside0.mk A240
     clear A240
     by_cases c25:t107=0
     ·rw [if_pos c25] at H
      have c25b0:(t107 == 0)=true:=beq_iff_eq.mpr c25
      have c25b1:(t107 != 0)=false:=bne_eq_false_iff_eq.mpr c25
      clear c25
      simp only [Option.some.injEq,Prod.mk.injEq] at H
      obtain ⟨rfl,rfl,rfl⟩:=H
      go_wp2_with (first|((with_reducible refine gate_dst (N:=6) rfl ?_);refine box_event ?hg (N:=6) ?hd (cs:=#[.int .i64 0,.int .i64 0]) (t:=24) ?hr ?_;(case hd=>rfl);(case hg=>rfl);(case hr=>first|(go_simp;done)|(go_simp;rfl));intro gb105 hg w26 hbox hb;have n0_:=Aside0.mk (blk_below (g:=gb104) (o:=.cells #[.int .i64 0,.int .i64 0] 24 (0,0)) (by (with_reducible repeat (first|refine blk_drewN ?_ _|refine blk_drew ?_|refine blk_alloc ?_ _));exact BK104.out) hb);have n1_:=Aside0.mk (below_step (by repeat (first|(with_reducible first|exact HB.out|apply below_alloc|apply pw_below_drewN|apply below_drew1|refine below_set ?_ GE104.out)|exact HB.out)) hb);have n2_:=Aside0.mk (hbox);have n3_:=Aside0.mk ((by rw [hg];exact (below_size (by repeat (first|(with_reducible first|exact HB.out|apply below_alloc|apply pw_below_drewN|apply below_drew1|refine below_set ?_ GE104.out)|exact HB.out))):w.heap.size≤gb105));have n4_:=Aside0.mk ((by rw [hg];exact (below_size (by repeat (first|(with_reducible first|exact HB.out|apply below_alloc|apply pw_below_drewN|apply below_drew1|refine below_set ?_ GE104.out)|exact HB.out))):w.heap.size≤gb105));have n5_:=Aside0.mk ((by rw [hg];exact Nat.ne_of_lt (blk_lt (g:=gb104) (o:=.cells #[.int .i64 0,.int .i64 0] 24 (0,0)) (by (with_reducible repeat (first|refine blk_drewN ?_ _|refine blk_drew ?_|refine blk_alloc ?_ _));exact BK104.out)):gb104≠gb105));have n6_:=Aside0.mk ((by rw [hg];exact Nat.ne_of_gt (blk_lt (g:=gb104) (o:=.cells #[.int .i64 0,.int .i64 0] 24 (0,0)) (by (with_reducible repeat (first|refine blk_drewN ?_ _|refine blk_drew ?_|refine blk_alloc ?_ _));exact BK104.out)):gb105≠gb104));clear BK104 HB;have BK104:=n0_;have HB:=n1_;have BK105:=n2_;have GW105:=n3_;have GE105:=n4_;have NB104_105:=n5_;have NB105_104:=n6_;clear n0_ n1_ n2_ n3_ n4_ n5_ n6_;clear hb hbox hg;have hnb27:=NB105_104.out;have hnc27:=NB104_105.out;have hcz28_0:w26.cell? ⟨gb105,0,none⟩=some (.int .i64 0):=(blk_cell BK105.out 0).trans rfl;have hcz28_1:w26.cell? ⟨gb105,1,none⟩=some (.int .i64 0):=(blk_cell BK105.out 1).trans rfl;have hfz28_0:=blk_frozen BK105.out 0;have hfz28_1:=blk_frozen BK105.out 1)|((with_reducible refine gate_callee (f:=15) rfl ?_);refine goesL_ (some 37) rfl rfl Try.func15 (by kernel_rfl) rfl #[.agg #[.int .i64 a0,.int .i64 a1]] rfl (by (try simp only [List.map_toArray,List.map_cons,List.map_nil]);first|done|rfl|(simp only [List.length_drop,List.length_take];rfl)) ?_;(with_reducible refine (layout_Check.calls kj2 a0 a1 t107 _ A24.out).mono ?_);rintro e w29 ⟨rfl,hb⟩;refine ⟨_,rfl,?_⟩;have n0_:=Aside0.mk (blk_below (g:=gb104) (o:=.cells #[.int .i64 0,.int .i64 0] 24 (0,0)) (by (with_reducible repeat (first|refine blk_drewN ?_ _|refine blk_drew ?_|refine blk_alloc ?_ _));refine blk_far ?_ NB104_105.out _;(with_reducible repeat (first|refine blk_drewN ?_ _|refine blk_drew ?_|refine blk_alloc ?_ _));refine blk_far ?_ NB104_105.out _;(with_reducible repeat (first|refine blk_drewN ?_ _|refine blk_drew ?_|refine blk_alloc ?_ _));exact BK104.out) hb);have n1_:=Aside0.mk (blk_below (g:=gb105) (o:=.cells #[.int .i64 a0,.int .i64 a1] 24 (0,0)) (by (with_reducible repeat (first|refine blk_drewN ?_ _|refine blk_drew ?_|refine blk_alloc ?_ _));refine blk_put (cs:=#[.int .i64 a0,.int .i64 0]) ?_ 1 _ rfl;(with_reducible repeat (first|refine blk_drewN ?_ _|refine blk_drew ?_|refine blk_alloc ?_ _));refine blk_put (cs:=#[.int .i64 0,.int .i64 0]) ?_ 0 _ rfl;(with_reducible repeat (first|refine blk_drewN ?_ _|refine blk_drew ?_|refine blk_alloc ?_ _));exact BK105.out) hb);have n2_:=Aside0.mk (below_step (by repeat (first|(with_reducible first|exact HB.out|apply below_alloc|apply pw_below_drewN|apply below_drew1|refine below_set ?_ GE104.out|refine below_set ?_ GE105.out)|exact HB.out)) hb);clear BK104 BK105 HB;have BK104:=n0_;have BK105:=n1_;have HB:=n2_;clear n0_ n1_ n2_;(try clear hb);(try clear hb2);(try clear hk);(try clear hi);have hcz30_0:w29.cell? ⟨gb105,0,none⟩=some (.int .i64 a0):=(blk_cell BK105.out 0).trans rfl;have hcz30_1:w29.cell? ⟨gb105,1,none⟩=some (.int .i64 a1):=(blk_cell BK105.out 1).trans rfl;have hfz30_0:=blk_frozen BK105.out 0;have hfz30_1:=blk_frozen BK105.out 1;have hcz31_0:w29.cell? ⟨gb104,0,none⟩=some (.int .i64 0):=(blk_cell BK104.out 0).trans rfl;have hcz31_1:w29.cell? ⟨gb104,1,none⟩=some (.int .i64 0):=(blk_cell BK104.out 1).trans rfl;have hfz31_0:=blk_frozen BK104.out 0;have hfz31_1:=blk_frozen BK104.out 1))
      refine bodyPost_ret (results_ct rfl _ _ gb104 24 #[.int .i64 a0,.int .i64 a1] (0,0) _ rfl (by (with_reducible repeat (first|refine blk_drewN ?_ _|refine blk_drew ?_|refine blk_alloc ?_ _));refine blk_put (cs:=#[.int .i64 a0,.int .i64 0]) ?_ 1 _ rfl;(with_reducible repeat (first|refine blk_drewN ?_ _|refine blk_drew ?_|refine blk_alloc ?_ _));refine blk_put (cs:=#[.int .i64 0,.int .i64 0]) ?_ 0 _ rfl;(with_reducible repeat (first|refine blk_drewN ?_ _|refine blk_drew ?_|refine blk_alloc ?_ _));exact BK104.out) Try.underlying24 rfl (by kernel_rfl)) rfl ?_
      exact ⟨by first|rfl|(simp [errW_none,errW_some] <;> rfl)|(simp [*,errW_none,errW_some] <;> rfl),by repeat (first|(with_reducible first|exact HB.out|apply below_alloc|apply pw_below_drewN|apply below_drew1|refine below_set ?_ GE104.out|refine below_set ?_ GE105.out)|exact HB.out)⟩
     ·rw [if_neg c25] at H
      have c25b0:(t107 == 0)=false:=beq_eq_false_iff_ne.mpr c25
      have c25b1:(t107 != 0)=true:=bne_iff_ne.mpr c25
      simp only [Option.some.injEq,Prod.mk.injEq] at H
      obtain ⟨rfl,rfl,rfl⟩:=H
      go_wp2_with (first|((with_reducible refine gate_dst (N:=6) rfl ?_);refine box_event ?hg (N:=6) ?hd (cs:=#[.int .i64 0,.int .i64 0]) (t:=24) ?hr ?_;(case hd=>rfl);(case hg=>rfl);(case hr=>first|(go_simp;done)|(go_simp;rfl));intro gb105 hg w32 hbox hb;have n0_:=Aside0.mk (blk_below (g:=gb104) (o:=.cells #[.int .i64 0,.int .i64 0] 24 (0,0)) (by (with_reducible repeat (first|refine blk_drewN ?_ _|refine blk_drew ?_|refine blk_alloc ?_ _));exact BK104.out) hb);have n1_:=Aside0.mk (below_step (by repeat (first|(with_reducible first|exact HB.out|apply below_alloc|apply pw_below_drewN|apply below_drew1|refine below_set ?_ GE104.out)|exact HB.out)) hb);have n2_:=Aside0.mk (hbox);have n3_:=Aside0.mk ((by rw [hg];exact (below_size (by repeat (first|(with_reducible first|exact HB.out|apply below_alloc|apply pw_below_drewN|apply below_drew1|refine below_set ?_ GE104.out)|exact HB.out))):w.heap.size≤gb105));have n4_:=Aside0.mk ((by rw [hg];exact (below_size (by repeat (first|(with_reducible first|exact HB.out|apply below_alloc|apply pw_below_drewN|apply below_drew1|refine below_set ?_ GE104.out)|exact HB.out))):w.heap.size≤gb105));have n5_:=Aside0.mk ((by rw [hg];exact Nat.ne_of_lt (blk_lt (g:=gb104) (o:=.cells #[.int .i64 0,.int .i64 0] 24 (0,0)) (by (with_reducible repeat (first|refine blk_drewN ?_ _|refine blk_drew ?_|refine blk_alloc ?_ _));exact BK104.out)):gb104≠gb105));have n6_:=Aside0.mk ((by rw [hg];exact Nat.ne_of_gt (blk_lt (g:=gb104) (o:=.cells #[.int .i64 0,.int .i64 0] 24 (0,0)) (by (with_reducible repeat (first|refine blk_drewN ?_ _|refine blk_drew ?_|refine blk_alloc ?_ _));exact BK104.out)):gb105≠gb104));clear BK104 HB;have BK104:=n0_;have HB:=n1_;have BK105:=n2_;have GW105:=n3_;have GE105:=n4_;have NB104_105:=n5_;have NB105_104:=n6_;clear n0_ n1_ n2_ n3_ n4_ n5_ n6_;clear hb hbox hg;have hnb33:=NB105_104.out;have hnc33:=NB104_105.out;have hcz34_0:w32.cell? ⟨gb105,0,none⟩=some (.int .i64 0):=(blk_cell BK105.out 0).trans rfl;have hcz34_1:w32.cell? ⟨gb105,1,none⟩=some (.int .i64 0):=(blk_cell BK105.out 1).trans rfl;have hfz34_0:=blk_frozen BK105.out 0;have hfz34_1:=blk_frozen BK105.out 1)|((with_reducible refine gate_callee (f:=15) rfl ?_);refine goesL_ (some 37) rfl rfl Try.func15 (by kernel_rfl) rfl #[.agg #[.int .i64 a0,.int .i64 a1]] rfl (by (try simp only [List.map_toArray,List.map_cons,List.map_nil]);first|done|rfl|(simp only [List.length_drop,List.length_take];rfl)) ?_;(with_reducible refine (layout_Check.calls kj2 a0 a1 t107 _ A24.out).mono ?_);rintro e w35 ⟨rfl,hb⟩;refine ⟨_,rfl,?_⟩;have n0_:=Aside0.mk (blk_below (g:=gb104) (o:=.cells #[.int .i64 0,.int .i64 0] 24 (0,0)) (by (with_reducible repeat (first|refine blk_drewN ?_ _|refine blk_drew ?_|refine blk_alloc ?_ _));refine blk_far ?_ NB104_105.out _;(with_reducible repeat (first|refine blk_drewN ?_ _|refine blk_drew ?_|refine blk_alloc ?_ _));refine blk_far ?_ NB104_105.out _;(with_reducible repeat (first|refine blk_drewN ?_ _|refine blk_drew ?_|refine blk_alloc ?_ _));exact BK104.out) hb);have n1_:=Aside0.mk (blk_below (g:=gb105) (o:=.cells #[.int .i64 a0,.int .i64 a1] 24 (0,0)) (by (with_reducible repeat (first|refine blk_drewN ?_ _|refine blk_drew ?_|refine blk_alloc ?_ _));refine blk_put (cs:=#[.int .i64 a0,.int .i64 0]) ?_ 1 _ rfl;(with_reducible repeat (first|refine blk_drewN ?_ _|refine blk_drew ?_|refine blk_alloc ?_ _));refine blk_put (cs:=#[.int .i64 0,.int .i64 0]) ?_ 0 _ rfl;(with_reducible repeat (first|refine blk_drewN ?_ _|refine blk_drew ?_|refine blk_alloc ?_ _));exact BK105.out) hb);have n2_:=Aside0.mk (below_step (by repeat (first|(with_reducible first|exact HB.out|apply below_alloc|apply pw_below_drewN|apply below_drew1|refine below_set ?_ GE104.out|refine below_set ?_ GE105.out)|exact HB.out)) hb);clear BK104 BK105 HB;have BK104:=n0_;have BK105:=n1_;have HB:=n2_;clear n0_ n1_ n2_;(try clear hb);(try clear hb2);(try clear hk);(try clear hi);have hcz36_0:w35.cell? ⟨gb104,0,none⟩=some (.int .i64 0):=(blk_cell BK104.out 0).trans rfl;have hcz36_1:w35.cell? ⟨gb104,1,none⟩=some (.int .i64 0):=(blk_cell BK104.out 1).trans rfl;have hfz36_0:=blk_frozen BK104.out 0;have hfz36_1:=blk_frozen BK104.out 1))
      refine bodyPost_ret (results_ct rfl _ _ gb104 24 #[.int .i64 0,.int .i64 0] (0,0) _ rfl (by (with_reducible repeat (first|refine blk_drewN ?_ _|refine blk_drew ?_|refine blk_alloc ?_ _));refine blk_put (cs:=#[.int .i64 0,.int .i64 0]) ?_ 1 _ rfl;(with_reducible repeat (first|refine blk_drewN ?_ _|refine blk_drew ?_|refine blk_alloc ?_ _));refine blk_put (cs:=#[.int .i64 0,.int .i64 0]) ?_ 0 _ rfl;(with_reducible repeat (first|refine blk_drewN ?_ _|refine blk_drew ?_|refine blk_alloc ?_ _));exact BK104.out) Try.underlying24 rfl (by kernel_rfl)) rfl ?_
      exact ⟨by first|rfl|(simp [errW_none,errW_some] <;> rfl)|(simp [*,errW_none,errW_some] <;> rfl),by repeat (first|(with_reducible first|exact HB.out|apply below_alloc|apply pw_below_drewN|apply below_drew1|refine below_set ?_ GE104.out|refine below_set ?_ GE105.out)|exact HB.out)⟩
def layout_Groups.f (k:Nat) (a0_0:Int) (a0_1:Int):Option (Int):=(layout_Check.f k a0_0 a0_1).bind fun t109=>(if t109=0 then ((layout_ceil.f a0_0 128).bind fun t110=>(some t110)) else (some 0))
theorem layout_Groups.mono:∀ a0 a1 k,LeO (layout_Groups.f k a0 a1) (layout_Groups.f (k + 1) a0 a1):=by
 intro a0 a1 k
 unfold layout_Groups.f
 repeat' first
   | (with_reducible exact layout_Check.mono _ _ _)
   | (with_reducible exact LeO.refl _)
   | (with_reducible exact LeO.none _)
   | (with_reducible refine LeO.ite ?_ ?_)
   | (with_reducible refine LeO.bind ?_ (fun _=>?_))
   | exact layout_Check.mono _ _ _
   | exact LeO.none _
   | refine LeO.ite ?_ ?_
   | refine LeO.bind ?_ (fun _=>?_)
set_option maxHeartbeats 8000000 in
set_option maxRecDepth 100000 in
theorem layout_Groups.calls (k:Nat) (a0_0:Int) (a0_1:Int) (r:Int) (w:World) (h:layout_Groups.f k a0_0 a0_1=some r) :
  Calls Try.prog 17 #[.agg #[.int .i64 a0_0,.int .i64 a0_1]] w fun e w'=>e=.returned (.int .i64 r)∧Below w.heap.size w w':=by
 have hu24:=Try.underlying24
 have HB:=Aside0.mk (Below.refl w.heap.size w)
 have H:((layout_Check.f k a0_0 a0_1).bind fun t109=>(if t109=0 then ((layout_ceil.f a0_0 128).bind fun t110=>(some t110)) else (some 0)))=some r:=h
 clear h
 replace H:=Option.bind_eq_some_iff.mp H
 obtain ⟨t109,A20,H⟩:=H
 replace H:(if t109=0 then ((layout_ceil.f a0_0 128).bind fun t110=>(some t110)) else (some 0))=some r:=H
 have A2:=Aside0.mk A20
 clear A20
 by_cases c3:t109=0
 ·rw [if_pos c3] at H
  have c3b0:(t109 == 0)=true:=beq_iff_eq.mpr c3
  have c3b1:(t109 != 0)=false:=bne_eq_false_iff_eq.mpr c3
  clear c3
  replace H:=Option.bind_eq_some_iff.mp H
  obtain ⟨t110,A40,H⟩:=H
  replace H:(some t110)=some r:=H
  have A4:=Aside0.mk A40
  clear A40
  obtain rfl:=Option.some.inj H
  go_enter Try.func17,Try.ntmps17
  go_wp2_with (first|((with_reducible refine gate_dst (N:=1) rfl ?_);refine box_event ?hg (N:=1) ?hd (cs:=#[.int .i64 a0_0,.int .i64 a0_1]) (t:=24) ?hr ?_;(case hd=>rfl);(case hg=>rfl);(case hr=>first|(go_simp;done)|(go_simp;rfl));intro gb108 hg w5 hbox hb;have n0_:=Aside0.mk (below_step (by repeat (first|(with_reducible first|exact HB.out|apply below_alloc|apply pw_below_drewN|apply below_drew1)|exact HB.out)) hb);have n1_:=Aside0.mk (hbox);have n2_:=Aside0.mk ((by rw [hg];exact (below_size (by repeat (first|(with_reducible first|exact HB.out|apply below_alloc|apply pw_below_drewN|apply below_drew1)|exact HB.out))):w.heap.size≤gb108));have n3_:=Aside0.mk ((by rw [hg];exact (below_size (by repeat (first|(with_reducible first|exact HB.out|apply below_alloc|apply pw_below_drewN|apply below_drew1)|exact HB.out))):w.heap.size≤gb108));clear HB;have HB:=n0_;have BK108:=n1_;have GW108:=n2_;have GE108:=n3_;clear n0_ n1_ n2_ n3_;clear hb hbox hg;have hcz6_0:w5.cell? ⟨gb108,0,none⟩=some (.int .i64 a0_0):=(blk_cell BK108.out 0).trans rfl;have hcz6_1:w5.cell? ⟨gb108,1,none⟩=some (.int .i64 a0_1):=(blk_cell BK108.out 1).trans rfl;have hfz6_0:=blk_frozen BK108.out 0;have hfz6_1:=blk_frozen BK108.out 1)|((with_reducible refine gate_callee (f:=15) rfl ?_);refine goesL_ (some 4) rfl rfl Try.func15 (by kernel_rfl) rfl #[.agg #[.int .i64 a0_0,.int .i64 a0_1]] rfl (by (try simp only [List.map_toArray,List.map_cons,List.map_nil]);first|done|rfl|(simp only [List.length_drop,List.length_take];rfl)) ?_;(with_reducible refine (layout_Check.calls k a0_0 a0_1 t109 _ A2.out).mono ?_);rintro e w7 ⟨rfl,hb⟩;refine ⟨_,rfl,?_⟩;have n0_:=Aside0.mk (blk_below (g:=gb108) (o:=.cells #[.int .i64 a0_0,.int .i64 a0_1] 24 (0,0)) (by (with_reducible repeat (first|refine blk_drewN ?_ _|refine blk_drew ?_|refine blk_alloc ?_ _));exact BK108.out) hb);have n1_:=Aside0.mk (below_step (by repeat (first|(with_reducible first|exact HB.out|apply below_alloc|apply pw_below_drewN|apply below_drew1|refine below_set ?_ GE108.out)|exact HB.out)) hb);clear BK108 HB;have BK108:=n0_;have HB:=n1_;clear n0_ n1_;(try clear hb);(try clear hb2);(try clear hk);(try clear hi);have hcz8_0:w7.cell? ⟨gb108,0,none⟩=some (.int .i64 a0_0):=(blk_cell BK108.out 0).trans rfl;have hcz8_1:w7.cell? ⟨gb108,1,none⟩=some (.int .i64 a0_1):=(blk_cell BK108.out 1).trans rfl;have hfz8_0:=blk_frozen BK108.out 0;have hfz8_1:=blk_frozen BK108.out 1)|((with_reducible refine gate_callee (f:=45) rfl ?_);refine goesL_ (some 8) rfl rfl Try.func45 (by kernel_rfl) rfl #[.int .i64 a0_0,.int .i64 128] rfl (by (try simp only [List.map_toArray,List.map_cons,List.map_nil]);first|done|rfl|(simp only [List.length_drop,List.length_take];rfl)) ?_;(with_reducible refine (layout_ceil.calls a0_0 128 t110 _ A4.out).mono ?_);rintro e w' ⟨rfl,⟨nd,rfl⟩⟩;refine ⟨_,rfl,?_⟩))
  go_ret
  exact ⟨by first|rfl|(simp [errW_none,errW_some] <;> rfl)|(simp [*,errW_none,errW_some] <;> rfl),by repeat (first|(with_reducible first|exact HB.out|apply below_alloc|apply pw_below_drewN|apply below_drew1|refine below_set ?_ GE108.out)|exact HB.out)⟩
 ·rw [if_neg c3] at H
  have c3b0:(t109 == 0)=false:=beq_eq_false_iff_ne.mpr c3
  have c3b1:(t109 != 0)=true:=bne_iff_ne.mpr c3
  obtain rfl:=Option.some.inj H
  go_enter Try.func17,Try.ntmps17
  go_wp2_with (first|((with_reducible refine gate_dst (N:=1) rfl ?_);refine box_event ?hg (N:=1) ?hd (cs:=#[.int .i64 a0_0,.int .i64 a0_1]) (t:=24) ?hr ?_;(case hd=>rfl);(case hg=>rfl);(case hr=>first|(go_simp;done)|(go_simp;rfl));intro gb108 hg w9 hbox hb;have n0_:=Aside0.mk (below_step (by repeat (first|(with_reducible first|exact HB.out|apply below_alloc|apply pw_below_drewN|apply below_drew1)|exact HB.out)) hb);have n1_:=Aside0.mk (hbox);have n2_:=Aside0.mk ((by rw [hg];exact (below_size (by repeat (first|(with_reducible first|exact HB.out|apply below_alloc|apply pw_below_drewN|apply below_drew1)|exact HB.out))):w.heap.size≤gb108));have n3_:=Aside0.mk ((by rw [hg];exact (below_size (by repeat (first|(with_reducible first|exact HB.out|apply below_alloc|apply pw_below_drewN|apply below_drew1)|exact HB.out))):w.heap.size≤gb108));clear HB;have HB:=n0_;have BK108:=n1_;have GW108:=n2_;have GE108:=n3_;clear n0_ n1_ n2_ n3_;clear hb hbox hg;have hcz10_0:w9.cell? ⟨gb108,0,none⟩=some (.int .i64 a0_0):=(blk_cell BK108.out 0).trans rfl;have hcz10_1:w9.cell? ⟨gb108,1,none⟩=some (.int .i64 a0_1):=(blk_cell BK108.out 1).trans rfl;have hfz10_0:=blk_frozen BK108.out 0;have hfz10_1:=blk_frozen BK108.out 1)|((with_reducible refine gate_callee (f:=15) rfl ?_);refine goesL_ (some 4) rfl rfl Try.func15 (by kernel_rfl) rfl #[.agg #[.int .i64 a0_0,.int .i64 a0_1]] rfl (by (try simp only [List.map_toArray,List.map_cons,List.map_nil]);first|done|rfl|(simp only [List.length_drop,List.length_take];rfl)) ?_;(with_reducible refine (layout_Check.calls k a0_0 a0_1 t109 _ A2.out).mono ?_);rintro e w11 ⟨rfl,hb⟩;refine ⟨_,rfl,?_⟩;have n0_:=Aside0.mk (blk_below (g:=gb108) (o:=.cells #[.int .i64 a0_0,.int .i64 a0_1] 24 (0,0)) (by (with_reducible repeat (first|refine blk_drewN ?_ _|refine blk_drew ?_|refine blk_alloc ?_ _));exact BK108.out) hb);have n1_:=Aside0.mk (below_step (by repeat (first|(with_reducible first|exact HB.out|apply below_alloc|apply pw_below_drewN|apply below_drew1|refine below_set ?_ GE108.out)|exact HB.out)) hb);clear BK108 HB;have BK108:=n0_;have HB:=n1_;clear n0_ n1_;(try clear hb);(try clear hb2);(try clear hk);(try clear hi)))
  go_ret
  exact ⟨by first|rfl|(simp [errW_none,errW_some] <;> rfl)|(simp [*,errW_none,errW_some] <;> rfl),by repeat (first|(with_reducible first|exact HB.out|apply below_alloc|apply pw_below_drewN|apply below_drew1|refine below_set ?_ GE108.out)|exact HB.out)⟩
def layout_Descs.f (k:Nat) (a0_0:Int) (a0_1:Int):Option (Int):=(layout_Groups.f k a0_0 a0_1).bind fun t112=>((layout_ceil.f (wrap64 (t112 * 16)) 256).bind fun t113=>(some t113))
theorem layout_Descs.mono:∀ a0 a1 k,LeO (layout_Descs.f k a0 a1) (layout_Descs.f (k + 1) a0 a1):=by
 intro a0 a1 k
 unfold layout_Descs.f
 repeat' first
   | (with_reducible exact layout_Groups.mono _ _ _)
   | (with_reducible exact LeO.refl _)
   | (with_reducible exact LeO.none _)
   | (with_reducible refine LeO.ite ?_ ?_)
   | (with_reducible refine LeO.bind ?_ (fun _=>?_))
   | exact layout_Groups.mono _ _ _
   | exact LeO.none _
   | refine LeO.ite ?_ ?_
   | refine LeO.bind ?_ (fun _=>?_)
set_option maxHeartbeats 8000000 in
set_option maxRecDepth 100000 in
theorem layout_Descs.calls (k:Nat) (a0_0:Int) (a0_1:Int) (r:Int) (w:World) (h:layout_Descs.f k a0_0 a0_1=some r) :
  Calls Try.prog 19 #[.agg #[.int .i64 a0_0,.int .i64 a0_1]] w fun e w'=>e=.returned (.int .i64 r)∧Below w.heap.size w w':=by
 have hu24:=Try.underlying24
 have HB:=Aside0.mk (Below.refl w.heap.size w)
 have H:((layout_Groups.f k a0_0 a0_1).bind fun t112=>((layout_ceil.f (wrap64 (t112 * 16)) 256).bind fun t113=>(some t113)))=some r:=h
 clear h
 replace H:=Option.bind_eq_some_iff.mp H
 obtain ⟨t112,A20,H⟩:=H
 replace H:((layout_ceil.f (wrap64 (t112 * 16)) 256).bind fun t113=>(some t113))=some r:=H
 have A2:=Aside0.mk A20
 clear A20
 replace H:=Option.bind_eq_some_iff.mp H
 obtain ⟨t113,A30,H⟩:=H
 replace H:(some t113)=some r:=H
 have A3:=Aside0.mk A30
 clear A30
 obtain rfl:=Option.some.inj H
 go_enter Try.func19,Try.ntmps19
 go_wp2_with (first|((with_reducible refine gate_dst (N:=1) rfl ?_);refine box_event ?hg (N:=1) ?hd (cs:=#[.int .i64 a0_0,.int .i64 a0_1]) (t:=24) ?hr ?_;(case hd=>rfl);(case hg=>rfl);(case hr=>first|(go_simp;done)|(go_simp;rfl));intro gb111 hg w4 hbox hb;have n0_:=Aside0.mk (below_step (by repeat (first|(with_reducible first|exact HB.out|apply below_alloc|apply pw_below_drewN|apply below_drew1)|exact HB.out)) hb);have n1_:=Aside0.mk (hbox);have n2_:=Aside0.mk ((by rw [hg];exact (below_size (by repeat (first|(with_reducible first|exact HB.out|apply below_alloc|apply pw_below_drewN|apply below_drew1)|exact HB.out))):w.heap.size≤gb111));have n3_:=Aside0.mk ((by rw [hg];exact (below_size (by repeat (first|(with_reducible first|exact HB.out|apply below_alloc|apply pw_below_drewN|apply below_drew1)|exact HB.out))):w.heap.size≤gb111));clear HB;have HB:=n0_;have BK111:=n1_;have GW111:=n2_;have GE111:=n3_;clear n0_ n1_ n2_ n3_;clear hb hbox hg;have hcz5_0:w4.cell? ⟨gb111,0,none⟩=some (.int .i64 a0_0):=(blk_cell BK111.out 0).trans rfl;have hcz5_1:w4.cell? ⟨gb111,1,none⟩=some (.int .i64 a0_1):=(blk_cell BK111.out 1).trans rfl;have hfz5_0:=blk_frozen BK111.out 0;have hfz5_1:=blk_frozen BK111.out 1)|((with_reducible refine gate_callee (f:=17) rfl ?_);refine goesL_ (some 4) rfl rfl Try.func17 (by kernel_rfl) rfl #[.agg #[.int .i64 a0_0,.int .i64 a0_1]] rfl (by (try simp only [List.map_toArray,List.map_cons,List.map_nil]);first|done|rfl|(simp only [List.length_drop,List.length_take];rfl)) ?_;(with_reducible refine (layout_Groups.calls k a0_0 a0_1 t112 _ A2.out).mono ?_);rintro e w6 ⟨rfl,hb⟩;refine ⟨_,rfl,?_⟩;have n0_:=Aside0.mk (blk_below (g:=gb111) (o:=.cells #[.int .i64 a0_0,.int .i64 a0_1] 24 (0,0)) (by (with_reducible repeat (first|refine blk_drewN ?_ _|refine blk_drew ?_|refine blk_alloc ?_ _));exact BK111.out) hb);have n1_:=Aside0.mk (below_step (by repeat (first|(with_reducible first|exact HB.out|apply below_alloc|apply pw_below_drewN|apply below_drew1|refine below_set ?_ GE111.out)|exact HB.out)) hb);clear BK111 HB;have BK111:=n0_;have HB:=n1_;clear n0_ n1_;(try clear hb);(try clear hb2);(try clear hk);(try clear hi))|((with_reducible refine gate_callee (f:=45) rfl ?_);refine goesL_ (some 6) rfl rfl Try.func45 (by kernel_rfl) rfl #[.int .i64 (wrap64 (t112 * 16)),.int .i64 256] rfl (by (try simp only [List.map_toArray,List.map_cons,List.map_nil]);first|done|rfl|(simp only [List.length_drop,List.length_take];rfl)) ?_;(with_reducible refine (layout_ceil.calls (wrap64 (t112 * 16)) 256 t113 _ A3.out).mono ?_);rintro e w' ⟨rfl,⟨nd,rfl⟩⟩;refine ⟨_,rfl,?_⟩))
 go_ret
 exact ⟨by first|rfl|(simp [errW_none,errW_some] <;> rfl)|(simp [*,errW_none,errW_some] <;> rfl),by repeat (first|(with_reducible first|exact HB.out|apply below_alloc|apply pw_below_drewN|apply below_drew1|refine below_set ?_ GE111.out)|exact HB.out)⟩
def layout_group.f (k:Nat) (a0_0:Int) (a0_1:Int) (a1:Int):Option (Int × Int × Int × Int × Int × Int):=if a1=0 then ((layout_Descs.f k a0_0 a0_1).bind fun t117=>(some (wrap64 (a1 * 128),mn 128 (wrap64 (a0_0 - (wrap64 (a1 * 128)))),wrap64 (1 + t117),wrap64 ((wrap64 (1 + t117)) + 1),wrap64 ((wrap64 ((wrap64 (1 + t117)) + 1)) + 1),wrap64 ((wrap64 ((wrap64 ((wrap64 ((wrap64 (1 + t117)) + 1)) + 1)) + 4)) + a0_1)))) else (some (wrap64 (a1 * 128),mn 128 (wrap64 (a0_0 - (wrap64 (a1 * 128)))),wrap64 (a1 * 128),wrap64 ((wrap64 (a1 * 128)) + 1),wrap64 ((wrap64 ((wrap64 (a1 * 128)) + 1)) + 1),wrap64 ((wrap64 ((wrap64 ((wrap64 (a1 * 128)) + 1)) + 1)) + 4)))
theorem layout_group.mono:∀ a0 a1 a2 k,LeO (layout_group.f k a0 a1 a2) (layout_group.f (k + 1) a0 a1 a2):=by
 intro a0 a1 a2 k
 unfold layout_group.f
 repeat' first
   | (with_reducible exact layout_Descs.mono _ _ _)
   | (with_reducible exact LeO.refl _)
   | (with_reducible exact LeO.none _)
   | (with_reducible refine LeO.ite ?_ ?_)
   | (with_reducible refine LeO.bind ?_ (fun _=>?_))
   | exact layout_Descs.mono _ _ _
   | exact LeO.none _
   | refine LeO.ite ?_ ?_
   | refine LeO.bind ?_ (fun _=>?_)
set_option maxHeartbeats 8000000 in
set_option maxRecDepth 100000 in
theorem layout_group.calls (k:Nat) (a0_0:Int) (a0_1:Int) (a1:Int) (r1:Int) (r2:Int) (r3:Int) (r4:Int) (r5:Int) (r6:Int) (w:World) (h:layout_group.f k a0_0 a0_1 a1=some (r1,r2,r3,r4,r5,r6)) :
  Calls Try.prog 44 #[.agg #[.int .i64 a0_0,.int .i64 a0_1],.int .i64 a1] w fun e w'=>e=.returned (.agg #[.int .i64 r1,.int .i64 r2,.int .i64 r3,.int .i64 r4,.int .i64 r5,.int .i64 r6])∧Below w.heap.size w w':=by
 have hu24:=Try.underlying24
 have hu30:=Try.underlying30
 have HB:=Aside0.mk (Below.refl w.heap.size w)
 have H:(if a1=0 then ((layout_Descs.f k a0_0 a0_1).bind fun t117=>(some (wrap64 (a1 * 128),mn 128 (wrap64 (a0_0 - (wrap64 (a1 * 128)))),wrap64 (1 + t117),wrap64 ((wrap64 (1 + t117)) + 1),wrap64 ((wrap64 ((wrap64 (1 + t117)) + 1)) + 1),wrap64 ((wrap64 ((wrap64 ((wrap64 ((wrap64 (1 + t117)) + 1)) + 1)) + 4)) + a0_1)))) else (some (wrap64 (a1 * 128),mn 128 (wrap64 (a0_0 - (wrap64 (a1 * 128)))),wrap64 (a1 * 128),wrap64 ((wrap64 (a1 * 128)) + 1),wrap64 ((wrap64 ((wrap64 (a1 * 128)) + 1)) + 1),wrap64 ((wrap64 ((wrap64 ((wrap64 (a1 * 128)) + 1)) + 1)) + 4))))=some (r1,r2,r3,r4,r5,r6):=h
 clear h
 obtain ⟨ji3,hji3⟩:∃ j_:Int,(mn 128 (wrap64 (a0_0 - (wrap64 (a1 * 128)))))=j_:=⟨_,rfl⟩
 replace H:(if a1=0 then ((layout_Descs.f k a0_0 a0_1).bind fun t117=>(some (wrap64 (a1 * 128),ji3,wrap64 (1 + t117),wrap64 ((wrap64 (1 + t117)) + 1),wrap64 ((wrap64 ((wrap64 (1 + t117)) + 1)) + 1),wrap64 ((wrap64 ((wrap64 ((wrap64 ((wrap64 (1 + t117)) + 1)) + 1)) + 4)) + a0_1)))) else (some (wrap64 (a1 * 128),ji3,wrap64 (a1 * 128),wrap64 ((wrap64 (a1 * 128)) + 1),wrap64 ((wrap64 ((wrap64 (a1 * 128)) + 1)) + 1),wrap64 ((wrap64 ((wrap64 ((wrap64 (a1 * 128)) + 1)) + 1)) + 4))))=some (r1,r2,r3,r4,r5,r6):=by first|(rw [hji3] at H;exact H)|(simp only [hji3] at H ⊢;exact H)
 (try (have hji3h:ji3≤128:=by (rw [← hji3];unfold mn;(repeat' split) <;> omega)))
 (try (have hji3g:ji3≤64:=by omega))
 have hji3_:(if (wrap64 (a0_0 - (wrap64 (a1 * 128)))) < 128 then (wrap64 (a0_0 - (wrap64 (a1 * 128)))) else 128)=ji3:=hji3
 by_cases c4:a1=0
 ·rw [if_pos c4] at H
  have c4b0:(a1 == 0)=true:=beq_iff_eq.mpr c4
  have c4b1:(a1 != 0)=false:=bne_eq_false_iff_eq.mpr c4
  clear c4
  replace H:=Option.bind_eq_some_iff.mp H
  obtain ⟨t117,A50,H⟩:=H
  replace H:(some (wrap64 (a1 * 128),ji3,wrap64 (1 + t117),wrap64 ((wrap64 (1 + t117)) + 1),wrap64 ((wrap64 ((wrap64 (1 + t117)) + 1)) + 1),wrap64 ((wrap64 ((wrap64 ((wrap64 ((wrap64 (1 + t117)) + 1)) + 1)) + 4)) + a0_1)))=some (r1,r2,r3,r4,r5,r6):=H
  have A5:=Aside0.mk A50
  clear A50
  simp only [Option.some.injEq,Prod.mk.injEq] at H
  obtain ⟨rfl,rfl,rfl,rfl,rfl,rfl⟩:=H
  go_enter Try.func44,Try.ntmps44
  go_wp2_with (first|((with_reducible refine gate_dst (N:=2) rfl ?_);refine box_event ?hg (N:=2) ?hd (cs:=#[.int .i64 a0_0,.int .i64 a0_1]) (t:=24) ?hr ?_;(case hd=>rfl);(case hg=>rfl);(case hr=>first|(go_simp;done)|(go_simp;rfl));intro gb114 hg w6 hbox hb;have n0_:=Aside0.mk (below_step (by repeat (first|(with_reducible first|exact HB.out|apply below_alloc|apply pw_below_drewN|apply below_drew1)|exact HB.out)) hb);have n1_:=Aside0.mk (hbox);have n2_:=Aside0.mk ((by rw [hg];exact (below_size (by repeat (first|(with_reducible first|exact HB.out|apply below_alloc|apply pw_below_drewN|apply below_drew1)|exact HB.out))):w.heap.size≤gb114));have n3_:=Aside0.mk ((by rw [hg];exact (below_size (by repeat (first|(with_reducible first|exact HB.out|apply below_alloc|apply pw_below_drewN|apply below_drew1)|exact HB.out))):w.heap.size≤gb114));clear HB;have HB:=n0_;have BK114:=n1_;have GW114:=n2_;have GE114:=n3_;clear n0_ n1_ n2_ n3_;clear hb hbox hg)|((with_reducible refine gate_dst (N:=4) rfl ?_);refine box_event ?hg (N:=4) ?hd (cs:=#[.int .i64 0,.int .i64 0,.int .i64 0,.int .i64 0,.int .i64 0,.int .i64 0]) (t:=30) ?hr ?_;(case hd=>rfl);(case hg=>rfl);(case hr=>first|(go_simp;done)|(go_simp;rfl));intro gb115 hg w7 hbox hb;have n0_:=Aside0.mk (blk_below (g:=gb114) (o:=.cells #[.int .i64 a0_0,.int .i64 a0_1] 24 (0,0)) (by (with_reducible repeat (first|refine blk_drewN ?_ _|refine blk_drew ?_|refine blk_alloc ?_ _));exact BK114.out) hb);have n1_:=Aside0.mk (below_step (by repeat (first|(with_reducible first|exact HB.out|apply below_alloc|apply pw_below_drewN|apply below_drew1|refine below_set ?_ GE114.out)|exact HB.out)) hb);have n2_:=Aside0.mk (hbox);have n3_:=Aside0.mk ((by rw [hg];exact (below_size (by repeat (first|(with_reducible first|exact HB.out|apply below_alloc|apply pw_below_drewN|apply below_drew1|refine below_set ?_ GE114.out)|exact HB.out))):w.heap.size≤gb115));have n4_:=Aside0.mk ((by rw [hg];exact (below_size (by repeat (first|(with_reducible first|exact HB.out|apply below_alloc|apply pw_below_drewN|apply below_drew1|refine below_set ?_ GE114.out)|exact HB.out))):w.heap.size≤gb115));have n5_:=Aside0.mk ((by rw [hg];exact Nat.ne_of_lt (blk_lt (g:=gb114) (o:=.cells #[.int .i64 a0_0,.int .i64 a0_1] 24 (0,0)) (by (with_reducible repeat (first|refine blk_drewN ?_ _|refine blk_drew ?_|refine blk_alloc ?_ _));exact BK114.out)):gb114≠gb115));have n6_:=Aside0.mk ((by rw [hg];exact Nat.ne_of_gt (blk_lt (g:=gb114) (o:=.cells #[.int .i64 a0_0,.int .i64 a0_1] 24 (0,0)) (by (with_reducible repeat (first|refine blk_drewN ?_ _|refine blk_drew ?_|refine blk_alloc ?_ _));exact BK114.out)):gb115≠gb114));clear BK114 HB;have BK114:=n0_;have HB:=n1_;have BK115:=n2_;have GW115:=n3_;have GE115:=n4_;have NB114_115:=n5_;have NB115_114:=n6_;clear n0_ n1_ n2_ n3_ n4_ n5_ n6_;clear hb hbox hg)|((with_reducible refine gate_dst (N:=5) rfl ?_);refine box_event ?hg (N:=5) ?hd (cs:=#[.int .i64 0,.int .i64 0,.int .i64 0,.int .i64 0,.int .i64 0,.int .i64 0]) (t:=30) ?hr ?_;(case hd=>rfl);(case hg=>rfl);(case hr=>first|(go_simp;done)|(go_simp;rfl));intro gb116 hg w8 hbox hb;have n0_:=Aside0.mk (blk_below (g:=gb114) (o:=.cells #[.int .i64 a0_0,.int .i64 a0_1] 24 (0,0)) (by (with_reducible repeat (first|refine blk_drewN ?_ _|refine blk_drew ?_|refine blk_alloc ?_ _));exact BK114.out) hb);have n1_:=Aside0.mk (blk_below (g:=gb115) (o:=.cells #[.int .i64 0,.int .i64 0,.int .i64 0,.int .i64 0,.int .i64 0,.int .i64 0] 30 (0,0)) (by (with_reducible repeat (first|refine blk_drewN ?_ _|refine blk_drew ?_|refine blk_alloc ?_ _));exact BK115.out) hb);have n2_:=Aside0.mk (below_step (by repeat (first|(with_reducible first|exact HB.out|apply below_alloc|apply pw_below_drewN|apply below_drew1|refine below_set ?_ GE114.out|refine below_set ?_ GE115.out)|exact HB.out)) hb);have n3_:=Aside0.mk (hbox);have n4_:=Aside0.mk ((by rw [hg];exact (below_size (by repeat (first|(with_reducible first|exact HB.out|apply below_alloc|apply pw_below_drewN|apply below_drew1|refine below_set ?_ GE114.out|refine below_set ?_ GE115.out)|exact HB.out))):w.heap.size≤gb116));have n5_:=Aside0.mk ((by rw [hg];exact (below_size (by repeat (first|(with_reducible first|exact HB.out|apply below_alloc|apply pw_below_drewN|apply below_drew1|refine below_set ?_ GE114.out|refine below_set ?_ GE115.out)|exact HB.out))):w.heap.size≤gb116));have n6_:=Aside0.mk ((by rw [hg];exact Nat.ne_of_lt (blk_lt (g:=gb114) (o:=.cells #[.int .i64 a0_0,.int .i64 a0_1] 24 (0,0)) (by (with_reducible repeat (first|refine blk_drewN ?_ _|refine blk_drew ?_|refine blk_alloc ?_ _));exact BK114.out)):gb114≠gb116));have n7_:=Aside0.mk ((by rw [hg];exact Nat.ne_of_gt (blk_lt (g:=gb114) (o:=.cells #[.int .i64 a0_0,.int .i64 a0_1] 24 (0,0)) (by (with_reducible repeat (first|refine blk_drewN ?_ _|refine blk_drew ?_|refine blk_alloc ?_ _));exact BK114.out)):gb116≠gb114));have n8_:=Aside0.mk ((by rw [hg];exact Nat.ne_of_lt (blk_lt (g:=gb115) (o:=.cells #[.int .i64 0,.int .i64 0,.int .i64 0,.int .i64 0,.int .i64 0,.int .i64 0] 30 (0,0)) (by (with_reducible repeat (first|refine blk_drewN ?_ _|refine blk_drew ?_|refine blk_alloc ?_ _));exact BK115.out)):gb115≠gb116));have n9_:=Aside0.mk ((by rw [hg];exact Nat.ne_of_gt (blk_lt (g:=gb115) (o:=.cells #[.int .i64 0,.int .i64 0,.int .i64 0,.int .i64 0,.int .i64 0,.int .i64 0] 30 (0,0)) (by (with_reducible repeat (first|refine blk_drewN ?_ _|refine blk_drew ?_|refine blk_alloc ?_ _));exact BK115.out)):gb116≠gb115));clear BK114 BK115 HB;have BK114:=n0_;have BK115:=n1_;have HB:=n2_;have BK116:=n3_;have GW116:=n4_;have GE116:=n5_;have NB114_116:=n6_;have NB116_114:=n7_;have NB115_116:=n8_;have NB116_115:=n9_;clear n0_ n1_ n2_ n3_ n4_ n5_ n6_ n7_ n8_ n9_;clear hb hbox hg;have hnb9:=NB116_114.out;have hnc9:=NB114_116.out;have hnb10:=NB116_115.out;have hnc10:=NB115_116.out;have hcz11_0:w8.cell? ⟨gb116,0,none⟩=some (.int .i64 0):=(blk_cell BK116.out 0).trans rfl;have hcz11_1:w8.cell? ⟨gb116,1,none⟩=some (.int .i64 0):=(blk_cell BK116.out 1).trans rfl;have hcz11_2:w8.cell? ⟨gb116,2,none⟩=some (.int .i64 0):=(blk_cell BK116.out 2).trans rfl;have hcz11_3:w8.cell? ⟨gb116,3,none⟩=some (.int .i64 0):=(blk_cell BK116.out 3).trans rfl;have hcz11_4:w8.cell? ⟨gb116,4,none⟩=some (.int .i64 0):=(blk_cell BK116.out 4).trans rfl;have hcz11_5:w8.cell? ⟨gb116,5,none⟩=some (.int .i64 0):=(blk_cell BK116.out 5).trans rfl;have hfz11_0:=blk_frozen BK116.out 0;have hfz11_1:=blk_frozen BK116.out 1;have hfz11_2:=blk_frozen BK116.out 2;have hfz11_3:=blk_frozen BK116.out 3;have hfz11_4:=blk_frozen BK116.out 4;have hfz11_5:=blk_frozen BK116.out 5;have hnb12:=NB114_115.out;have hnc12:=NB115_114.out;have hcz13_0:w8.cell? ⟨gb114,0,none⟩=some (.int .i64 a0_0):=(blk_cell BK114.out 0).trans rfl;have hcz13_1:w8.cell? ⟨gb114,1,none⟩=some (.int .i64 a0_1):=(blk_cell BK114.out 1).trans rfl;have hfz13_0:=blk_frozen BK114.out 0;have hfz13_1:=blk_frozen BK114.out 1)|((with_reducible refine gate_callee (f:=19) rfl ?_);refine goesL_ (some 22) rfl rfl Try.func19 (by kernel_rfl) rfl #[.agg #[.int .i64 a0_0,.int .i64 a0_1]] rfl (by (try simp only [List.map_toArray,List.map_cons,List.map_nil]);first|done|rfl|(simp only [List.length_drop,List.length_take];rfl)) ?_;(with_reducible refine (layout_Descs.calls k a0_0 a0_1 t117 _ A5.out).mono ?_);rintro e w14 ⟨rfl,hb⟩;refine ⟨_,rfl,?_⟩;have n0_:=Aside0.mk (blk_below (g:=gb114) (o:=.cells #[.int .i64 a0_0,.int .i64 a0_1] 24 (0,0)) (by (with_reducible repeat (first|refine blk_drewN ?_ _|refine blk_drew ?_|refine blk_alloc ?_ _));refine blk_far ?_ NB114_116.out _;(with_reducible repeat (first|refine blk_drewN ?_ _|refine blk_drew ?_|refine blk_alloc ?_ _));refine blk_far ?_ NB114_116.out _;(with_reducible repeat (first|refine blk_drewN ?_ _|refine blk_drew ?_|refine blk_alloc ?_ _));refine blk_far ?_ NB114_116.out _;(with_reducible repeat (first|refine blk_drewN ?_ _|refine blk_drew ?_|refine blk_alloc ?_ _));refine blk_far ?_ NB114_116.out _;(with_reducible repeat (first|refine blk_drewN ?_ _|refine blk_drew ?_|refine blk_alloc ?_ _));refine blk_far ?_ NB114_116.out _;(with_reducible repeat (first|refine blk_drewN ?_ _|refine blk_drew ?_|refine blk_alloc ?_ _));refine blk_far ?_ NB114_116.out _;(with_reducible repeat (first|refine blk_drewN ?_ _|refine blk_drew ?_|refine blk_alloc ?_ _));refine blk_far ?_ NB114_116.out _;(with_reducible repeat (first|refine blk_drewN ?_ _|refine blk_drew ?_|refine blk_alloc ?_ _));refine blk_far ?_ NB114_116.out _;(with_reducible repeat (first|refine blk_drewN ?_ _|refine blk_drew ?_|refine blk_alloc ?_ _));exact BK114.out) hb);have n1_:=Aside0.mk (blk_below (g:=gb115) (o:=.cells #[.int .i64 0,.int .i64 0,.int .i64 0,.int .i64 0,.int .i64 0,.int .i64 0] 30 (0,0)) (by (with_reducible repeat (first|refine blk_drewN ?_ _|refine blk_drew ?_|refine blk_alloc ?_ _));refine blk_far ?_ NB115_116.out _;(with_reducible repeat (first|refine blk_drewN ?_ _|refine blk_drew ?_|refine blk_alloc ?_ _));refine blk_far ?_ NB115_116.out _;(with_reducible repeat (first|refine blk_drewN ?_ _|refine blk_drew ?_|refine blk_alloc ?_ _));refine blk_far ?_ NB115_116.out _;(with_reducible repeat (first|refine blk_drewN ?_ _|refine blk_drew ?_|refine blk_alloc ?_ _));refine blk_far ?_ NB115_116.out _;(with_reducible repeat (first|refine blk_drewN ?_ _|refine blk_drew ?_|refine blk_alloc ?_ _));refine blk_far ?_ NB115_116.out _;(with_reducible repeat (first|refine blk_drewN ?_ _|refine blk_drew ?_|refine blk_alloc ?_ _));refine blk_far ?_ NB115_116.out _;(with_reducible repeat (first|refine blk_drewN ?_ _|refine blk_drew ?_|refine blk_alloc ?_ _));refine blk_far ?_ NB115_116.out _;(with_reducible repeat (first|refine blk_drewN ?_ _|refine blk_drew ?_|refine blk_alloc ?_ _));refine blk_far ?_ NB115_116.out _;(with_reducible repeat (first|refine blk_drewN ?_ _|refine blk_drew ?_|refine blk_alloc ?_ _));exact BK115.out) hb);have n2_:=Aside0.mk (blk_below (g:=gb116) (o:=.cells #[.int .i64 (wrap64 (a1 * 128)),.int .i64 ji3,.int .i64 (wrap64 (a1 * 128)),.int .i64 0,.int .i64 0,.int .i64 0] 30 (0,0)) (by (with_reducible repeat (first|refine blk_drewN ?_ _|refine blk_drew ?_|refine blk_alloc ?_ _));refine blk_put (cs:=#[.int .i64 (wrap64 (a1 * 128)),.int .i64 ji3,.int .i64 0,.int .i64 0,.int .i64 0,.int .i64 0]) ?_ 2 _ rfl;(with_reducible repeat (first|refine blk_drewN ?_ _|refine blk_drew ?_|refine blk_alloc ?_ _));refine blk_put (cs:=#[.int .i64 (wrap64 (a1 * 128)),.int .i64 0,.int .i64 0,.int .i64 0,.int .i64 0,.int .i64 0]) ?_ 1 _ rfl;(with_reducible repeat (first|refine blk_drewN ?_ _|refine blk_drew ?_|refine blk_alloc ?_ _));refine blk_put (cs:=#[.int .i64 (wrap64 (a1 * 128)),.int .i64 0,.int .i64 0,.int .i64 0,.int .i64 0,.int .i64 0]) ?_ 5 _ rfl;(with_reducible repeat (first|refine blk_drewN ?_ _|refine blk_drew ?_|refine blk_alloc ?_ _));refine blk_put (cs:=#[.int .i64 (wrap64 (a1 * 128)),.int .i64 0,.int .i64 0,.int .i64 0,.int .i64 0,.int .i64 0]) ?_ 4 _ rfl;(with_reducible repeat (first|refine blk_drewN ?_ _|refine blk_drew ?_|refine blk_alloc ?_ _));refine blk_put (cs:=#[.int .i64 (wrap64 (a1 * 128)),.int .i64 0,.int .i64 0,.int .i64 0,.int .i64 0,.int .i64 0]) ?_ 3 _ rfl;(with_reducible repeat (first|refine blk_drewN ?_ _|refine blk_drew ?_|refine blk_alloc ?_ _));refine blk_put (cs:=#[.int .i64 (wrap64 (a1 * 128)),.int .i64 0,.int .i64 0,.int .i64 0,.int .i64 0,.int .i64 0]) ?_ 2 _ rfl;(with_reducible repeat (first|refine blk_drewN ?_ _|refine blk_drew ?_|refine blk_alloc ?_ _));refine blk_put (cs:=#[.int .i64 (wrap64 (a1 * 128)),.int .i64 0,.int .i64 0,.int .i64 0,.int .i64 0,.int .i64 0]) ?_ 1 _ rfl;(with_reducible repeat (first|refine blk_drewN ?_ _|refine blk_drew ?_|refine blk_alloc ?_ _));refine blk_put (cs:=#[.int .i64 0,.int .i64 0,.int .i64 0,.int .i64 0,.int .i64 0,.int .i64 0]) ?_ 0 _ rfl;(with_reducible repeat (first|refine blk_drewN ?_ _|refine blk_drew ?_|refine blk_alloc ?_ _));exact BK116.out) hb);have n3_:=Aside0.mk (below_step (by repeat (first|(with_reducible first|exact HB.out|apply below_alloc|apply pw_below_drewN|apply below_drew1|refine below_set ?_ GE114.out|refine below_set ?_ GE115.out|refine below_set ?_ GE116.out)|exact HB.out)) hb);clear BK114 BK115 BK116 HB;have BK114:=n0_;have BK115:=n1_;have BK116:=n2_;have HB:=n3_;clear n0_ n1_ n2_ n3_;(try clear hb);(try clear hb2);(try clear hk);(try clear hi);have hcz15_0:w14.cell? ⟨gb116,0,none⟩=some (.int .i64 (wrap64 (a1 * 128))):=(blk_cell BK116.out 0).trans rfl;have hcz15_1:w14.cell? ⟨gb116,1,none⟩=some (.int .i64 ji3):=(blk_cell BK116.out 1).trans rfl;have hcz15_2:w14.cell? ⟨gb116,2,none⟩=some (.int .i64 (wrap64 (a1 * 128))):=(blk_cell BK116.out 2).trans rfl;have hcz15_3:w14.cell? ⟨gb116,3,none⟩=some (.int .i64 0):=(blk_cell BK116.out 3).trans rfl;have hcz15_4:w14.cell? ⟨gb116,4,none⟩=some (.int .i64 0):=(blk_cell BK116.out 4).trans rfl;have hcz15_5:w14.cell? ⟨gb116,5,none⟩=some (.int .i64 0):=(blk_cell BK116.out 5).trans rfl;have hfz15_0:=blk_frozen BK116.out 0;have hfz15_1:=blk_frozen BK116.out 1;have hfz15_2:=blk_frozen BK116.out 2;have hfz15_3:=blk_frozen BK116.out 3;have hfz15_4:=blk_frozen BK116.out 4;have hfz15_5:=blk_frozen BK116.out 5;have hcz16_0:w14.cell? ⟨gb114,0,none⟩=some (.int .i64 a0_0):=(blk_cell BK114.out 0).trans rfl;have hcz16_1:w14.cell? ⟨gb114,1,none⟩=some (.int .i64 a0_1):=(blk_cell BK114.out 1).trans rfl;have hfz16_0:=blk_frozen BK114.out 0;have hfz16_1:=blk_frozen BK114.out 1;have hcz17_0:w14.cell? ⟨gb115,0,none⟩=some (.int .i64 0):=(blk_cell BK115.out 0).trans rfl;have hcz17_1:w14.cell? ⟨gb115,1,none⟩=some (.int .i64 0):=(blk_cell BK115.out 1).trans rfl;have hcz17_2:w14.cell? ⟨gb115,2,none⟩=some (.int .i64 0):=(blk_cell BK115.out 2).trans rfl;have hcz17_3:w14.cell? ⟨gb115,3,none⟩=some (.int .i64 0):=(blk_cell BK115.out 3).trans rfl;have hcz17_4:w14.cell? ⟨gb115,4,none⟩=some (.int .i64 0):=(blk_cell BK115.out 4).trans rfl;have hcz17_5:w14.cell? ⟨gb115,5,none⟩=some (.int .i64 0):=(blk_cell BK115.out 5).trans rfl;have hfz17_0:=blk_frozen BK115.out 0;have hfz17_1:=blk_frozen BK115.out 1;have hfz17_2:=blk_frozen BK115.out 2;have hfz17_3:=blk_frozen BK115.out 3;have hfz17_4:=blk_frozen BK115.out 4;have hfz17_5:=blk_frozen BK115.out 5))
  refine bodyPost_ret (results_cell_row rfl _ _ gb115 30 #[.int .i64 (wrap64 (a1 * 128)),.int .i64 ji3,.int .i64 (wrap64 (1 + t117)),.int .i64 (wrap64 ((wrap64 (1 + t117)) + 1)),.int .i64 (wrap64 ((wrap64 ((wrap64 (1 + t117)) + 1)) + 1)),.int .i64 (wrap64 ((wrap64 ((wrap64 ((wrap64 ((wrap64 (1 + t117)) + 1)) + 1)) + 4)) + a0_1))] (0,0) _ rfl (by (with_reducible repeat (first|refine blk_drewN ?_ _|refine blk_drew ?_|refine blk_alloc ?_ _));refine blk_put (cs:=#[.int .i64 (wrap64 (a1 * 128)),.int .i64 ji3,.int .i64 (wrap64 (1 + t117)),.int .i64 (wrap64 ((wrap64 (1 + t117)) + 1)),.int .i64 (wrap64 ((wrap64 ((wrap64 (1 + t117)) + 1)) + 1)),.int .i64 0]) ?_ 5 _ rfl;(with_reducible repeat (first|refine blk_drewN ?_ _|refine blk_drew ?_|refine blk_alloc ?_ _));refine blk_put (cs:=#[.int .i64 (wrap64 (a1 * 128)),.int .i64 ji3,.int .i64 (wrap64 (1 + t117)),.int .i64 (wrap64 ((wrap64 (1 + t117)) + 1)),.int .i64 0,.int .i64 0]) ?_ 4 _ rfl;(with_reducible repeat (first|refine blk_drewN ?_ _|refine blk_drew ?_|refine blk_alloc ?_ _));refine blk_put (cs:=#[.int .i64 (wrap64 (a1 * 128)),.int .i64 ji3,.int .i64 (wrap64 (1 + t117)),.int .i64 0,.int .i64 0,.int .i64 0]) ?_ 3 _ rfl;(with_reducible repeat (first|refine blk_drewN ?_ _|refine blk_drew ?_|refine blk_alloc ?_ _));refine blk_put (cs:=#[.int .i64 (wrap64 (a1 * 128)),.int .i64 ji3,.int .i64 0,.int .i64 0,.int .i64 0,.int .i64 0]) ?_ 2 _ rfl;(with_reducible repeat (first|refine blk_drewN ?_ _|refine blk_drew ?_|refine blk_alloc ?_ _));refine blk_put (cs:=#[.int .i64 (wrap64 (a1 * 128)),.int .i64 0,.int .i64 0,.int .i64 0,.int .i64 0,.int .i64 0]) ?_ 1 _ rfl;(with_reducible repeat (first|refine blk_drewN ?_ _|refine blk_drew ?_|refine blk_alloc ?_ _));refine blk_put (cs:=#[.int .i64 0,.int .i64 0,.int .i64 0,.int .i64 0,.int .i64 0,.int .i64 0]) ?_ 0 _ rfl;(with_reducible repeat (first|refine blk_drewN ?_ _|refine blk_drew ?_|refine blk_alloc ?_ _));refine blk_far ?_ NB115_116.out _;(with_reducible repeat (first|refine blk_drewN ?_ _|refine blk_drew ?_|refine blk_alloc ?_ _));refine blk_far ?_ NB115_116.out _;(with_reducible repeat (first|refine blk_drewN ?_ _|refine blk_drew ?_|refine blk_alloc ?_ _));refine blk_far ?_ NB115_116.out _;(with_reducible repeat (first|refine blk_drewN ?_ _|refine blk_drew ?_|refine blk_alloc ?_ _));refine blk_far ?_ NB115_116.out _;(with_reducible repeat (first|refine blk_drewN ?_ _|refine blk_drew ?_|refine blk_alloc ?_ _));refine blk_far ?_ NB115_116.out _;(with_reducible repeat (first|refine blk_drewN ?_ _|refine blk_drew ?_|refine blk_alloc ?_ _));exact BK115.out) Try.underlying30 rfl (by kernel_rfl)) rfl ?_
  exact ⟨by first|rfl|(simp [errW_none,errW_some] <;> rfl)|(simp only [← hji3];first|rfl|(simp [errW_none,errW_some] <;> rfl))|(simp [*,errW_none,errW_some] <;> rfl),by repeat (first|(with_reducible first|exact HB.out|apply below_alloc|apply pw_below_drewN|apply below_drew1|refine below_set ?_ GE114.out|refine below_set ?_ GE115.out|refine below_set ?_ GE116.out)|exact HB.out)⟩
 ·rw [if_neg c4] at H
  have c4b0:(a1 == 0)=false:=beq_eq_false_iff_ne.mpr c4
  have c4b1:(a1 != 0)=true:=bne_iff_ne.mpr c4
  simp only [Option.some.injEq,Prod.mk.injEq] at H
  obtain ⟨rfl,rfl,rfl,rfl,rfl,rfl⟩:=H
  go_enter Try.func44,Try.ntmps44
  go_wp2_with (first|((with_reducible refine gate_dst (N:=2) rfl ?_);refine box_event ?hg (N:=2) ?hd (cs:=#[.int .i64 a0_0,.int .i64 a0_1]) (t:=24) ?hr ?_;(case hd=>rfl);(case hg=>rfl);(case hr=>first|(go_simp;done)|(go_simp;rfl));intro gb114 hg w18 hbox hb;have n0_:=Aside0.mk (below_step (by repeat (first|(with_reducible first|exact HB.out|apply below_alloc|apply pw_below_drewN|apply below_drew1)|exact HB.out)) hb);have n1_:=Aside0.mk (hbox);have n2_:=Aside0.mk ((by rw [hg];exact (below_size (by repeat (first|(with_reducible first|exact HB.out|apply below_alloc|apply pw_below_drewN|apply below_drew1)|exact HB.out))):w.heap.size≤gb114));have n3_:=Aside0.mk ((by rw [hg];exact (below_size (by repeat (first|(with_reducible first|exact HB.out|apply below_alloc|apply pw_below_drewN|apply below_drew1)|exact HB.out))):w.heap.size≤gb114));clear HB;have HB:=n0_;have BK114:=n1_;have GW114:=n2_;have GE114:=n3_;clear n0_ n1_ n2_ n3_;clear hb hbox hg)|((with_reducible refine gate_dst (N:=4) rfl ?_);refine box_event ?hg (N:=4) ?hd (cs:=#[.int .i64 0,.int .i64 0,.int .i64 0,.int .i64 0,.int .i64 0,.int .i64 0]) (t:=30) ?hr ?_;(case hd=>rfl);(case hg=>rfl);(case hr=>first|(go_simp;done)|(go_simp;rfl));intro gb115 hg w19 hbox hb;have n0_:=Aside0.mk (blk_below (g:=gb114) (o:=.cells #[.int .i64 a0_0,.int .i64 a0_1] 24 (0,0)) (by (with_reducible repeat (first|refine blk_drewN ?_ _|refine blk_drew ?_|refine blk_alloc ?_ _));exact BK114.out) hb);have n1_:=Aside0.mk (below_step (by repeat (first|(with_reducible first|exact HB.out|apply below_alloc|apply pw_below_drewN|apply below_drew1|refine below_set ?_ GE114.out)|exact HB.out)) hb);have n2_:=Aside0.mk (hbox);have n3_:=Aside0.mk ((by rw [hg];exact (below_size (by repeat (first|(with_reducible first|exact HB.out|apply below_alloc|apply pw_below_drewN|apply below_drew1|refine below_set ?_ GE114.out)|exact HB.out))):w.heap.size≤gb115));have n4_:=Aside0.mk ((by rw [hg];exact (below_size (by repeat (first|(with_reducible first|exact HB.out|apply below_alloc|apply pw_below_drewN|apply below_drew1|refine below_set ?_ GE114.out)|exact HB.out))):w.heap.size≤gb115));have n5_:=Aside0.mk ((by rw [hg];exact Nat.ne_of_lt (blk_lt (g:=gb114) (o:=.cells #[.int .i64 a0_0,.int .i64 a0_1] 24 (0,0)) (by (with_reducible repeat (first|refine blk_drewN ?_ _|refine blk_drew ?_|refine blk_alloc ?_ _));exact BK114.out)):gb114≠gb115));have n6_:=Aside0.mk ((by rw [hg];exact Nat.ne_of_gt (blk_lt (g:=gb114) (o:=.cells #[.int .i64 a0_0,.int .i64 a0_1] 24 (0,0)) (by (with_reducible repeat (first|refine blk_drewN ?_ _|refine blk_drew ?_|refine blk_alloc ?_ _));exact BK114.out)):gb115≠gb114));clear BK114 HB;have BK114:=n0_;have HB:=n1_;have BK115:=n2_;have GW115:=n3_;have GE115:=n4_;have NB114_115:=n5_;have NB115_114:=n6_;clear n0_ n1_ n2_ n3_ n4_ n5_ n6_;clear hb hbox hg)|((with_reducible refine gate_dst (N:=5) rfl ?_);refine box_event ?hg (N:=5) ?hd (cs:=#[.int .i64 0,.int .i64 0,.int .i64 0,.int .i64 0,.int .i64 0,.int .i64 0]) (t:=30) ?hr ?_;(case hd=>rfl);(case hg=>rfl);(case hr=>first|(go_simp;done)|(go_simp;rfl));intro gb116 hg w20 hbox hb;have n0_:=Aside0.mk (blk_below (g:=gb114) (o:=.cells #[.int .i64 a0_0,.int .i64 a0_1] 24 (0,0)) (by (with_reducible repeat (first|refine blk_drewN ?_ _|refine blk_drew ?_|refine blk_alloc ?_ _));exact BK114.out) hb);have n1_:=Aside0.mk (blk_below (g:=gb115) (o:=.cells #[.int .i64 0,.int .i64 0,.int .i64 0,.int .i64 0,.int .i64 0,.int .i64 0] 30 (0,0)) (by (with_reducible repeat (first|refine blk_drewN ?_ _|refine blk_drew ?_|refine blk_alloc ?_ _));exact BK115.out) hb);have n2_:=Aside0.mk (below_step (by repeat (first|(with_reducible first|exact HB.out|apply below_alloc|apply pw_below_drewN|apply below_drew1|refine below_set ?_ GE114.out|refine below_set ?_ GE115.out)|exact HB.out)) hb);have n3_:=Aside0.mk (hbox);have n4_:=Aside0.mk ((by rw [hg];exact (below_size (by repeat (first|(with_reducible first|exact HB.out|apply below_alloc|apply pw_below_drewN|apply below_drew1|refine below_set ?_ GE114.out|refine below_set ?_ GE115.out)|exact HB.out))):w.heap.size≤gb116));have n5_:=Aside0.mk ((by rw [hg];exact (below_size (by repeat (first|(with_reducible first|exact HB.out|apply below_alloc|apply pw_below_drewN|apply below_drew1|refine below_set ?_ GE114.out|refine below_set ?_ GE115.out)|exact HB.out))):w.heap.size≤gb116));have n6_:=Aside0.mk ((by rw [hg];exact Nat.ne_of_lt (blk_lt (g:=gb114) (o:=.cells #[.int .i64 a0_0,.int .i64 a0_1] 24 (0,0)) (by (with_reducible repeat (first|refine blk_drewN ?_ _|refine blk_drew ?_|refine blk_alloc ?_ _));exact BK114.out)):gb114≠gb116));have n7_:=Aside0.mk ((by rw [hg];exact Nat.ne_of_gt (blk_lt (g:=gb114) (o:=.cells #[.int .i64 a0_0,.int .i64 a0_1] 24 (0,0)) (by (with_reducible repeat (first|refine blk_drewN ?_ _|refine blk_drew ?_|refine blk_alloc ?_ _));exact BK114.out)):gb116≠gb114));have n8_:=Aside0.mk ((by rw [hg];exact Nat.ne_of_lt (blk_lt (g:=gb115) (o:=.cells #[.int .i64 0,.int .i64 0,.int .i64 0,.int .i64 0,.int .i64 0,.int .i64 0] 30 (0,0)) (by (with_reducible repeat (first|refine blk_drewN ?_ _|refine blk_drew ?_|refine blk_alloc ?_ _));exact BK115.out)):gb115≠gb116));have n9_:=Aside0.mk ((by rw [hg];exact Nat.ne_of_gt (blk_lt (g:=gb115) (o:=.cells #[.int .i64 0,.int .i64 0,.int .i64 0,.int .i64 0,.int .i64 0,.int .i64 0] 30 (0,0)) (by (with_reducible repeat (first|refine blk_drewN ?_ _|refine blk_drew ?_|refine blk_alloc ?_ _));exact BK115.out)):gb116≠gb115));clear BK114 BK115 HB;have BK114:=n0_;have BK115:=n1_;have HB:=n2_;have BK116:=n3_;have GW116:=n4_;have GE116:=n5_;have NB114_116:=n6_;have NB116_114:=n7_;have NB115_116:=n8_;have NB116_115:=n9_;clear n0_ n1_ n2_ n3_ n4_ n5_ n6_ n7_ n8_ n9_;clear hb hbox hg;have hnb21:=NB116_114.out;have hnc21:=NB114_116.out;have hnb22:=NB116_115.out;have hnc22:=NB115_116.out;have hcz23_0:w20.cell? ⟨gb116,0,none⟩=some (.int .i64 0):=(blk_cell BK116.out 0).trans rfl;have hcz23_1:w20.cell? ⟨gb116,1,none⟩=some (.int .i64 0):=(blk_cell BK116.out 1).trans rfl;have hcz23_2:w20.cell? ⟨gb116,2,none⟩=some (.int .i64 0):=(blk_cell BK116.out 2).trans rfl;have hcz23_3:w20.cell? ⟨gb116,3,none⟩=some (.int .i64 0):=(blk_cell BK116.out 3).trans rfl;have hcz23_4:w20.cell? ⟨gb116,4,none⟩=some (.int .i64 0):=(blk_cell BK116.out 4).trans rfl;have hcz23_5:w20.cell? ⟨gb116,5,none⟩=some (.int .i64 0):=(blk_cell BK116.out 5).trans rfl;have hfz23_0:=blk_frozen BK116.out 0;have hfz23_1:=blk_frozen BK116.out 1;have hfz23_2:=blk_frozen BK116.out 2;have hfz23_3:=blk_frozen BK116.out 3;have hfz23_4:=blk_frozen BK116.out 4;have hfz23_5:=blk_frozen BK116.out 5;have hnb24:=NB114_115.out;have hnc24:=NB115_114.out;have hcz25_0:w20.cell? ⟨gb114,0,none⟩=some (.int .i64 a0_0):=(blk_cell BK114.out 0).trans rfl;have hcz25_1:w20.cell? ⟨gb114,1,none⟩=some (.int .i64 a0_1):=(blk_cell BK114.out 1).trans rfl;have hfz25_0:=blk_frozen BK114.out 0;have hfz25_1:=blk_frozen BK114.out 1;have hcz26_0:w20.cell? ⟨gb115,0,none⟩=some (.int .i64 0):=(blk_cell BK115.out 0).trans rfl;have hcz26_1:w20.cell? ⟨gb115,1,none⟩=some (.int .i64 0):=(blk_cell BK115.out 1).trans rfl;have hcz26_2:w20.cell? ⟨gb115,2,none⟩=some (.int .i64 0):=(blk_cell BK115.out 2).trans rfl;have hcz26_3:w20.cell? ⟨gb115,3,none⟩=some (.int .i64 0):=(blk_cell BK115.out 3).trans rfl;have hcz26_4:w20.cell? ⟨gb115,4,none⟩=some (.int .i64 0):=(blk_cell BK115.out 4).trans rfl;have hcz26_5:w20.cell? ⟨gb115,5,none⟩=some (.int .i64 0):=(blk_cell BK115.out 5).trans rfl;have hfz26_0:=blk_frozen BK115.out 0;have hfz26_1:=blk_frozen BK115.out 1;have hfz26_2:=blk_frozen BK115.out 2;have hfz26_3:=blk_frozen BK115.out 3;have hfz26_4:=blk_frozen BK115.out 4;have hfz26_5:=blk_frozen BK115.out 5))
  refine bodyPost_ret (results_cell_row rfl _ _ gb115 30 #[.int .i64 (wrap64 (a1 * 128)),.int .i64 ji3,.int .i64 (wrap64 (a1 * 128)),.int .i64 (wrap64 ((wrap64 (a1 * 128)) + 1)),.int .i64 (wrap64 ((wrap64 ((wrap64 (a1 * 128)) + 1)) + 1)),.int .i64 (wrap64 ((wrap64 ((wrap64 ((wrap64 (a1 * 128)) + 1)) + 1)) + 4))] (0,0) _ rfl (by (with_reducible repeat (first|refine blk_drewN ?_ _|refine blk_drew ?_|refine blk_alloc ?_ _));refine blk_put (cs:=#[.int .i64 (wrap64 (a1 * 128)),.int .i64 ji3,.int .i64 (wrap64 (a1 * 128)),.int .i64 (wrap64 ((wrap64 (a1 * 128)) + 1)),.int .i64 (wrap64 ((wrap64 ((wrap64 (a1 * 128)) + 1)) + 1)),.int .i64 0]) ?_ 5 _ rfl;(with_reducible repeat (first|refine blk_drewN ?_ _|refine blk_drew ?_|refine blk_alloc ?_ _));refine blk_put (cs:=#[.int .i64 (wrap64 (a1 * 128)),.int .i64 ji3,.int .i64 (wrap64 (a1 * 128)),.int .i64 (wrap64 ((wrap64 (a1 * 128)) + 1)),.int .i64 0,.int .i64 0]) ?_ 4 _ rfl;(with_reducible repeat (first|refine blk_drewN ?_ _|refine blk_drew ?_|refine blk_alloc ?_ _));refine blk_put (cs:=#[.int .i64 (wrap64 (a1 * 128)),.int .i64 ji3,.int .i64 (wrap64 (a1 * 128)),.int .i64 0,.int .i64 0,.int .i64 0]) ?_ 3 _ rfl;(with_reducible repeat (first|refine blk_drewN ?_ _|refine blk_drew ?_|refine blk_alloc ?_ _));refine blk_put (cs:=#[.int .i64 (wrap64 (a1 * 128)),.int .i64 ji3,.int .i64 0,.int .i64 0,.int .i64 0,.int .i64 0]) ?_ 2 _ rfl;(with_reducible repeat (first|refine blk_drewN ?_ _|refine blk_drew ?_|refine blk_alloc ?_ _));refine blk_put (cs:=#[.int .i64 (wrap64 (a1 * 128)),.int .i64 0,.int .i64 0,.int .i64 0,.int .i64 0,.int .i64 0]) ?_ 1 _ rfl;(with_reducible repeat (first|refine blk_drewN ?_ _|refine blk_drew ?_|refine blk_alloc ?_ _));refine blk_put (cs:=#[.int .i64 0,.int .i64 0,.int .i64 0,.int .i64 0,.int .i64 0,.int .i64 0]) ?_ 0 _ rfl;(with_reducible repeat (first|refine blk_drewN ?_ _|refine blk_drew ?_|refine blk_alloc ?_ _));refine blk_far ?_ NB115_116.out _;(with_reducible repeat (first|refine blk_drewN ?_ _|refine blk_drew ?_|refine blk_alloc ?_ _));refine blk_far ?_ NB115_116.out _;(with_reducible repeat (first|refine blk_drewN ?_ _|refine blk_drew ?_|refine blk_alloc ?_ _));refine blk_far ?_ NB115_116.out _;(with_reducible repeat (first|refine blk_drewN ?_ _|refine blk_drew ?_|refine blk_alloc ?_ _));refine blk_far ?_ NB115_116.out _;(with_reducible repeat (first|refine blk_drewN ?_ _|refine blk_drew ?_|refine blk_alloc ?_ _));refine blk_far ?_ NB115_116.out _;(with_reducible repeat (first|refine blk_drewN ?_ _|refine blk_drew ?_|refine blk_alloc ?_ _));refine blk_far ?_ NB115_116.out _;(with_reducible repeat (first|refine blk_drewN ?_ _|refine blk_drew ?_|refine blk_alloc ?_ _));refine blk_far ?_ NB115_116.out _;(with_reducible repeat (first|refine blk_drewN ?_ _|refine blk_drew ?_|refine blk_alloc ?_ _));refine blk_far ?_ NB115_116.out _;(with_reducible repeat (first|refine blk_drewN ?_ _|refine blk_drew ?_|refine blk_alloc ?_ _));refine blk_far ?_ NB115_116.out _;(with_reducible repeat (first|refine blk_drewN ?_ _|refine blk_drew ?_|refine blk_alloc ?_ _));refine blk_far ?_ NB115_116.out _;(with_reducible repeat (first|refine blk_drewN ?_ _|refine blk_drew ?_|refine blk_alloc ?_ _));refine blk_far ?_ NB115_116.out _;(with_reducible repeat (first|refine blk_drewN ?_ _|refine blk_drew ?_|refine blk_alloc ?_ _));exact BK115.out) Try.underlying30 rfl (by kernel_rfl)) rfl ?_
  exact ⟨by first|rfl|(simp [errW_none,errW_some] <;> rfl)|(simp only [← hji3];first|rfl|(simp [errW_none,errW_some] <;> rfl))|(simp [*,errW_none,errW_some] <;> rfl),by repeat (first|(with_reducible first|exact HB.out|apply below_alloc|apply pw_below_drewN|apply below_drew1|refine below_set ?_ GE114.out|refine below_set ?_ GE115.out|refine below_set ?_ GE116.out)|exact HB.out)⟩
end Go.Proofs.Ytbdnmdmfnopihaa.Print
end
section
namespace Go.Proofs.Ytbdnmdmfnopihaa.Print
open Go.RowKit Go.Proofs.YtbdnmdmfnopihaaW.PrintWords Go.Proofs.YtbdnmdmfnopihaaW.PrintLast Go.Proofs.YtbdnmdmfnopihaaW.PrintMore
attribute [local go_sem] max2_int min2_int max_two min_two max_three min_three max_four min_four   -- for this text's walks alone
attribute [local go_sem ↓] Go.Proofs.Ytbdnmdmfnopihaa.Sem.isSome_setCell
attribute [local go_sem] Go.Instr.field Go.asAgg
set_option linter.unusedVariables false
set_option linter.unusedSimpArgs false
attribute [local go_sem high] eqA30
def layout_Group.f (k:Nat) (a0_0:Int) (a0_1:Int) (a1:Int):Option (Int × Int × Int × Int × Int × Int × Int):=(layout_Check.f k a0_0 a0_1).bind fun t120=>(if t120=0 then (if a1 < 0 then (some (0,0,0,0,0,0,1)) else ((layout_Groups.f k a0_0 a0_1).bind fun t121=>(if a1 ≥ t121 then (some (0,0,0,0,0,0,1)) else ((layout_group.f k a0_0 a0_1 a1).bind fun bt122=>(some (bt122.1,bt122.2.1,bt122.2.2.1,bt122.2.2.2.1,bt122.2.2.2.2.1,bt122.2.2.2.2.2,0)))))) else (some (0,0,0,0,0,0,t120)))
theorem layout_Group.mono:∀ a0 a1 a2 k,LeO (layout_Group.f k a0 a1 a2) (layout_Group.f (k + 1) a0 a1 a2):=by
 intro a0 a1 a2 k
 unfold layout_Group.f
 repeat' first
   | (with_reducible exact layout_Check.mono _ _ _)
   | (with_reducible exact layout_Groups.mono _ _ _)
   | (with_reducible exact layout_group.mono _ _ _ _)
   | (with_reducible exact LeO.refl _)
   | (with_reducible exact LeO.none _)
   | (with_reducible refine LeO.ite ?_ ?_)
   | (with_reducible refine LeO.bind ?_ (fun _=>?_))
   | exact layout_Check.mono _ _ _
   | exact layout_Groups.mono _ _ _
   | exact layout_group.mono _ _ _ _
   | exact LeO.none _
   | refine LeO.ite ?_ ?_
   | refine LeO.bind ?_ (fun _=>?_)
set_option maxHeartbeats 8000000 in
set_option maxRecDepth 100000 in
theorem layout_Group.calls (k:Nat) (a0_0:Int) (a0_1:Int) (a1:Int) (r1:Int) (r2:Int) (r3:Int) (r4:Int) (r5:Int) (r6:Int) (r7:Int) (w:World) (h:layout_Group.f k a0_0 a0_1 a1=some (r1,r2,r3,r4,r5,r6,r7)) :
  Calls Try.prog 13 #[.agg #[.int .i64 a0_0,.int .i64 a0_1],.int .i64 a1] w fun e w'=>e=.returned (.tuple #[.agg #[.int .i64 r1,.int .i64 r2,.int .i64 r3,.int .i64 r4,.int .i64 r5,.int .i64 r6],.int .i64 r7])∧Below w.heap.size w w':=by
 have hu24:=Try.underlying24
 have hu30:=Try.underlying30
 have HB:=Aside0.mk (Below.refl w.heap.size w)
 have H:((layout_Check.f k a0_0 a0_1).bind fun t120=>(if t120=0 then (if a1 < 0 then (some (0,0,0,0,0,0,1)) else ((layout_Groups.f k a0_0 a0_1).bind fun t121=>(if a1 ≥ t121 then (some (0,0,0,0,0,0,1)) else ((layout_group.f k a0_0 a0_1 a1).bind fun bt122=>(some (bt122.1,bt122.2.1,bt122.2.2.1,bt122.2.2.2.1,bt122.2.2.2.2.1,bt122.2.2.2.2.2,0)))))) else (some (0,0,0,0,0,0,t120))))=some (r1,r2,r3,r4,r5,r6,r7):=h
 clear h
 replace H:=Option.bind_eq_some_iff.mp H
 obtain ⟨t120,A30,H⟩:=H
 replace H:(if t120=0 then (if a1 < 0 then (some (0,0,0,0,0,0,1)) else ((layout_Groups.f k a0_0 a0_1).bind fun t121=>(if a1 ≥ t121 then (some (0,0,0,0,0,0,1)) else ((layout_group.f k a0_0 a0_1 a1).bind fun bt122=>(some (bt122.1,bt122.2.1,bt122.2.2.1,bt122.2.2.2.1,bt122.2.2.2.2.1,bt122.2.2.2.2.2,0)))))) else (some (0,0,0,0,0,0,t120)))=some (r1,r2,r3,r4,r5,r6,r7):=H
 have A3:=Aside0.mk A30
 clear A30
 by_cases c4:t120=0
 ·rw [if_pos c4] at H
  have c4b0:(t120 == 0)=true:=beq_iff_eq.mpr c4
  have c4b1:(t120 != 0)=false:=bne_eq_false_iff_eq.mpr c4
  clear c4
  by_cases c5:a1 < 0
  ·rw [if_pos c5] at H
   have c5b0:decide (a1 < 0)=true:=decide_eq_true c5
   clear c5
   simp only [Option.some.injEq,Prod.mk.injEq] at H
   obtain ⟨rfl,rfl,rfl,rfl,rfl,rfl,rfl⟩:=H
   go_enter Try.func13,Try.ntmps13
   go_wp2_with (first|((with_reducible refine gate_dst (N:=2) rfl ?_);refine box_event ?hg (N:=2) ?hd (cs:=#[.int .i64 a0_0,.int .i64 a0_1]) (t:=24) ?hr ?_;(case hd=>rfl);(case hg=>rfl);(case hr=>first|(go_simp;done)|(go_simp;rfl));intro gb118 hg w6 hbox hb;have n0_:=Aside0.mk (below_step (by repeat (first|(with_reducible first|exact HB.out|apply below_alloc|apply pw_below_drewN|apply below_drew1)|exact HB.out)) hb);have n1_:=Aside0.mk (hbox);have n2_:=Aside0.mk ((by rw [hg];exact (below_size (by repeat (first|(with_reducible first|exact HB.out|apply below_alloc|apply pw_below_drewN|apply below_drew1)|exact HB.out))):w.heap.size≤gb118));have n3_:=Aside0.mk ((by rw [hg];exact (below_size (by repeat (first|(with_reducible first|exact HB.out|apply below_alloc|apply pw_below_drewN|apply below_drew1)|exact HB.out))):w.heap.size≤gb118));clear HB;have HB:=n0_;have BK118:=n1_;have GW118:=n2_;have GE118:=n3_;clear n0_ n1_ n2_ n3_;clear hb hbox hg)|((with_reducible refine gate_dst (N:=4) rfl ?_);refine box_event ?hg (N:=4) ?hd (cs:=#[.int .i64 0,.int .i64 0,.int .i64 0,.int .i64 0,.int .i64 0,.int .i64 0]) (t:=30) ?hr ?_;(case hd=>rfl);(case hg=>rfl);(case hr=>first|(go_simp;done)|(go_simp;rfl));intro gb119 hg w7 hbox hb;have n0_:=Aside0.mk (blk_below (g:=gb118) (o:=.cells #[.int .i64 a0_0,.int .i64 a0_1] 24 (0,0)) (by (with_reducible repeat (first|refine blk_drewN ?_ _|refine blk_drew ?_|refine blk_alloc ?_ _));exact BK118.out) hb);have n1_:=Aside0.mk (below_step (by repeat (first|(with_reducible first|exact HB.out|apply below_alloc|apply pw_below_drewN|apply below_drew1|refine below_set ?_ GE118.out)|exact HB.out)) hb);have n2_:=Aside0.mk (hbox);have n3_:=Aside0.mk ((by rw [hg];exact (below_size (by repeat (first|(with_reducible first|exact HB.out|apply below_alloc|apply pw_below_drewN|apply below_drew1|refine below_set ?_ GE118.out)|exact HB.out))):w.heap.size≤gb119));have n4_:=Aside0.mk ((by rw [hg];exact (below_size (by repeat (first|(with_reducible first|exact HB.out|apply below_alloc|apply pw_below_drewN|apply below_drew1|refine below_set ?_ GE118.out)|exact HB.out))):w.heap.size≤gb119));have n5_:=Aside0.mk ((by rw [hg];exact Nat.ne_of_lt (blk_lt (g:=gb118) (o:=.cells #[.int .i64 a0_0,.int .i64 a0_1] 24 (0,0)) (by (with_reducible repeat (first|refine blk_drewN ?_ _|refine blk_drew ?_|refine blk_alloc ?_ _));exact BK118.out)):gb118≠gb119));have n6_:=Aside0.mk ((by rw [hg];exact Nat.ne_of_gt (blk_lt (g:=gb118) (o:=.cells #[.int .i64 a0_0,.int .i64 a0_1] 24 (0,0)) (by (with_reducible repeat (first|refine blk_drewN ?_ _|refine blk_drew ?_|refine blk_alloc ?_ _));exact BK118.out)):gb119≠gb118));clear BK118 HB;have BK118:=n0_;have HB:=n1_;have BK119:=n2_;have GW119:=n3_;have GE119:=n4_;have NB118_119:=n5_;have NB119_118:=n6_;clear n0_ n1_ n2_ n3_ n4_ n5_ n6_;clear hb hbox hg;have hnb8:=NB118_119.out;have hnc8:=NB119_118.out;have hcz9_0:w7.cell? ⟨gb118,0,none⟩=some (.int .i64 a0_0):=(blk_cell BK118.out 0).trans rfl;have hcz9_1:w7.cell? ⟨gb118,1,none⟩=some (.int .i64 a0_1):=(blk_cell BK118.out 1).trans rfl;have hfz9_0:=blk_frozen BK118.out 0;have hfz9_1:=blk_frozen BK118.out 1)|((with_reducible refine gate_callee (f:=15) rfl ?_);refine goesL_ (some 8) rfl rfl Try.func15 (by kernel_rfl) rfl #[.agg #[.int .i64 a0_0,.int .i64 a0_1]] rfl (by (try simp only [List.map_toArray,List.map_cons,List.map_nil]);first|done|rfl|(simp only [List.length_drop,List.length_take];rfl)) ?_;(with_reducible refine (layout_Check.calls k a0_0 a0_1 t120 _ A3.out).mono ?_);rintro e w10 ⟨rfl,hb⟩;refine ⟨_,rfl,?_⟩;have n0_:=Aside0.mk (blk_below (g:=gb118) (o:=.cells #[.int .i64 a0_0,.int .i64 a0_1] 24 (0,0)) (by (with_reducible repeat (first|refine blk_drewN ?_ _|refine blk_drew ?_|refine blk_alloc ?_ _));exact BK118.out) hb);have n1_:=Aside0.mk (blk_below (g:=gb119) (o:=.cells #[.int .i64 0,.int .i64 0,.int .i64 0,.int .i64 0,.int .i64 0,.int .i64 0] 30 (0,0)) (by (with_reducible repeat (first|refine blk_drewN ?_ _|refine blk_drew ?_|refine blk_alloc ?_ _));exact BK119.out) hb);have n2_:=Aside0.mk (below_step (by repeat (first|(with_reducible first|exact HB.out|apply below_alloc|apply pw_below_drewN|apply below_drew1|refine below_set ?_ GE118.out|refine below_set ?_ GE119.out)|exact HB.out)) hb);clear BK118 BK119 HB;have BK118:=n0_;have BK119:=n1_;have HB:=n2_;clear n0_ n1_ n2_;(try clear hb);(try clear hb2);(try clear hk);(try clear hi);have hcz11_0:w10.cell? ⟨gb119,0,none⟩=some (.int .i64 0):=(blk_cell BK119.out 0).trans rfl;have hcz11_1:w10.cell? ⟨gb119,1,none⟩=some (.int .i64 0):=(blk_cell BK119.out 1).trans rfl;have hcz11_2:w10.cell? ⟨gb119,2,none⟩=some (.int .i64 0):=(blk_cell BK119.out 2).trans rfl;have hcz11_3:w10.cell? ⟨gb119,3,none⟩=some (.int .i64 0):=(blk_cell BK119.out 3).trans rfl;have hcz11_4:w10.cell? ⟨gb119,4,none⟩=some (.int .i64 0):=(blk_cell BK119.out 4).trans rfl;have hcz11_5:w10.cell? ⟨gb119,5,none⟩=some (.int .i64 0):=(blk_cell BK119.out 5).trans rfl;have hfz11_0:=blk_frozen BK119.out 0;have hfz11_1:=blk_frozen BK119.out 1;have hfz11_2:=blk_frozen BK119.out 2;have hfz11_3:=blk_frozen BK119.out 3;have hfz11_4:=blk_frozen BK119.out 4;have hfz11_5:=blk_frozen BK119.out 5))
   refine bodyPost_ret (results_ct rfl _ _ gb119 30 #[.int .i64 0,.int .i64 0,.int .i64 0,.int .i64 0,.int .i64 0,.int .i64 0] (0,0) _ rfl (by (with_reducible repeat (first|refine blk_drewN ?_ _|refine blk_drew ?_|refine blk_alloc ?_ _));refine blk_put (cs:=#[.int .i64 0,.int .i64 0,.int .i64 0,.int .i64 0,.int .i64 0,.int .i64 0]) ?_ 5 _ rfl;(with_reducible repeat (first|refine blk_drewN ?_ _|refine blk_drew ?_|refine blk_alloc ?_ _));refine blk_put (cs:=#[.int .i64 0,.int .i64 0,.int .i64 0,.int .i64 0,.int .i64 0,.int .i64 0]) ?_ 4 _ rfl;(with_reducible repeat (first|refine blk_drewN ?_ _|refine blk_drew ?_|refine blk_alloc ?_ _));refine blk_put (cs:=#[.int .i64 0,.int .i64 0,.int .i64 0,.int .i64 0,.int .i64 0,.int .i64 0]) ?_ 3 _ rfl;(with_reducible repeat (first|refine blk_drewN ?_ _|refine blk_drew ?_|refine blk_alloc ?_ _));refine blk_put (cs:=#[.int .i64 0,.int .i64 0,.int .i64 0,.int .i64 0,.int .i64 0,.int .i64 0]) ?_ 2 _ rfl;(with_reducible repeat (first|refine blk_drewN ?_ _|refine blk_drew ?_|refine blk_alloc ?_ _));refine blk_put (cs:=#[.int .i64 0,.int .i64 0,.int .i64 0,.int .i64 0,.int .i64 0,.int .i64 0]) ?_ 1 _ rfl;(with_reducible repeat (first|refine blk_drewN ?_ _|refine blk_drew ?_|refine blk_alloc ?_ _));refine blk_put (cs:=#[.int .i64 0,.int .i64 0,.int .i64 0,.int .i64 0,.int .i64 0,.int .i64 0]) ?_ 0 _ rfl;(with_reducible repeat (first|refine blk_drewN ?_ _|refine blk_drew ?_|refine blk_alloc ?_ _));exact BK119.out) Try.underlying30 rfl (by kernel_rfl)) rfl ?_
   exact ⟨by first|rfl|(simp [errW_none,errW_some] <;> rfl)|(simp [*,errW_none,errW_some] <;> rfl),by repeat (first|(with_reducible first|exact HB.out|apply below_alloc|apply pw_below_drewN|apply below_drew1|refine below_set ?_ GE118.out|refine below_set ?_ GE119.out)|exact HB.out)⟩
  ·rw [if_neg c5] at H
   have c5b0:decide (a1 < 0)=false:=decide_eq_false c5
   clear c5
   replace H:=Option.bind_eq_some_iff.mp H
   obtain ⟨t121,A120,H⟩:=H
   replace H:(if a1 ≥ t121 then (some (0,0,0,0,0,0,1)) else ((layout_group.f k a0_0 a0_1 a1).bind fun bt122=>(some (bt122.1,bt122.2.1,bt122.2.2.1,bt122.2.2.2.1,bt122.2.2.2.2.1,bt122.2.2.2.2.2,0))))=some (r1,r2,r3,r4,r5,r6,r7):=H
   have A12:=Aside0.mk A120
   clear A120
   by_cases c13:a1 ≥ t121
   ·rw [if_pos c13] at H
    have c13b0:decide (t121≤a1)=true:=decide_eq_true c13
    clear c13
    simp only [Option.some.injEq,Prod.mk.injEq] at H
    obtain ⟨rfl,rfl,rfl,rfl,rfl,rfl,rfl⟩:=H
    go_enter Try.func13,Try.ntmps13
    go_wp2_with (first|((with_reducible refine gate_dst (N:=2) rfl ?_);refine box_event ?hg (N:=2) ?hd (cs:=#[.int .i64 a0_0,.int .i64 a0_1]) (t:=24) ?hr ?_;(case hd=>rfl);(case hg=>rfl);(case hr=>first|(go_simp;done)|(go_simp;rfl));intro gb118 hg w14 hbox hb;have n0_:=Aside0.mk (below_step (by repeat (first|(with_reducible first|exact HB.out|apply below_alloc|apply pw_below_drewN|apply below_drew1)|exact HB.out)) hb);have n1_:=Aside0.mk (hbox);have n2_:=Aside0.mk ((by rw [hg];exact (below_size (by repeat (first|(with_reducible first|exact HB.out|apply below_alloc|apply pw_below_drewN|apply below_drew1)|exact HB.out))):w.heap.size≤gb118));have n3_:=Aside0.mk ((by rw [hg];exact (below_size (by repeat (first|(with_reducible first|exact HB.out|apply below_alloc|apply pw_below_drewN|apply below_drew1)|exact HB.out))):w.heap.size≤gb118));clear HB;have HB:=n0_;have BK118:=n1_;have GW118:=n2_;have GE118:=n3_;clear n0_ n1_ n2_ n3_;clear hb hbox hg)|((with_reducible refine gate_dst (N:=4) rfl ?_);refine box_event ?hg (N:=4) ?hd (cs:=#[.int .i64 0,.int .i64 0,.int .i64 0,.int .i64 0,.int .i64 0,.int .i64 0]) (t:=30) ?hr ?_;(case hd=>rfl);(case hg=>rfl);(case hr=>first|(go_simp;done)|(go_simp;rfl));intro gb119 hg w15 hbox hb;have n0_:=Aside0.mk (blk_below (g:=gb118) (o:=.cells #[.int .i64 a0_0,.int .i64 a0_1] 24 (0,0)) (by (with_reducible repeat (first|refine blk_drewN ?_ _|refine blk_drew ?_|refine blk_alloc ?_ _));exact BK118.out) hb);have n1_:=Aside0.mk (below_step (by repeat (first|(with_reducible first|exact HB.out|apply below_alloc|apply pw_below_drewN|apply below_drew1|refine below_set ?_ GE118.out)|exact HB.out)) hb);have n2_:=Aside0.mk (hbox);have n3_:=Aside0.mk ((by rw [hg];exact (below_size (by repeat (first|(with_reducible first|exact HB.out|apply below_alloc|apply pw_below_drewN|apply below_drew1|refine below_set ?_ GE118.out)|exact HB.out))):w.heap.size≤gb119));have n4_:=Aside0.mk ((by rw [hg];exact (below_size (by repeat (first|(with_reducible first|exact HB.out|apply below_alloc|apply pw_below_drewN|apply below_drew1|refine below_set ?_ GE118.out)|exact HB.out))):w.heap.size≤gb119));have n5_:=Aside0.mk ((by rw [hg];exact Nat.ne_of_lt (blk_lt (g:=gb118) (o:=.cells #[.int .i64 a0_0,.int .i64 a0_1] 24 (0,0)) (by (with_reducible repeat (first|refine blk_drewN ?_ _|refine blk_drew ?_|refine blk_alloc ?_ _));exact BK118.out)):gb118≠gb119));have n6_:=Aside0.mk ((by rw [hg];exact Nat.ne_of_gt (blk_lt (g:=gb118) (o:=.cells #[.int .i64 a0_0,.int .i64 a0_1] 24 (0,0)) (by (with_reducible repeat (first|refine blk_drewN ?_ _|refine blk_drew ?_|refine blk_alloc ?_ _));exact BK118.out)):gb119≠gb118));clear BK118 HB;have BK118:=n0_;have HB:=n1_;have BK119:=n2_;have GW119:=n3_;have GE119:=n4_;have NB118_119:=n5_;have NB119_118:=n6_;clear n0_ n1_ n2_ n3_ n4_ n5_ n6_;clear hb hbox hg;have hnb16:=NB118_119.out;have hnc16:=NB119_118.out;have hcz17_0:w15.cell? ⟨gb118,0,none⟩=some (.int .i64 a0_0):=(blk_cell BK118.out 0).trans rfl;have hcz17_1:w15.cell? ⟨gb118,1,none⟩=some (.int .i64 a0_1):=(blk_cell BK118.out 1).trans rfl;have hfz17_0:=blk_frozen BK118.out 0;have hfz17_1:=blk_frozen BK118.out 1)|((with_reducible refine gate_callee (f:=15) rfl ?_);refine goesL_ (some 8) rfl rfl Try.func15 (by kernel_rfl) rfl #[.agg #[.int .i64 a0_0,.int .i64 a0_1]] rfl (by (try simp only [List.map_toArray,List.map_cons,List.map_nil]);first|done|rfl|(simp only [List.length_drop,List.length_take];rfl)) ?_;(with_reducible refine (layout_Check.calls k a0_0 a0_1 t120 _ A3.out).mono ?_);rintro e w18 ⟨rfl,hb⟩;refine ⟨_,rfl,?_⟩;have n0_:=Aside0.mk (blk_below (g:=gb118) (o:=.cells #[.int .i64 a0_0,.int .i64 a0_1] 24 (0,0)) (by (with_reducible repeat (first|refine blk_drewN ?_ _|refine blk_drew ?_|refine blk_alloc ?_ _));exact BK118.out) hb);have n1_:=Aside0.mk (blk_below (g:=gb119) (o:=.cells #[.int .i64 0,.int .i64 0,.int .i64 0,.int .i64 0,.int .i64 0,.int .i64 0] 30 (0,0)) (by (with_reducible repeat (first|refine blk_drewN ?_ _|refine blk_drew ?_|refine blk_alloc ?_ _));exact BK119.out) hb);have n2_:=Aside0.mk (below_step (by repeat (first|(with_reducible first|exact HB.out|apply below_alloc|apply pw_below_drewN|apply below_drew1|refine below_set ?_ GE118.out|refine below_set ?_ GE119.out)|exact HB.out)) hb);clear BK118 BK119 HB;have BK118:=n0_;have BK119:=n1_;have HB:=n2_;clear n0_ n1_ n2_;(try clear hb);(try clear hb2);(try clear hk);(try clear hi);have hcz19_0:w18.cell? ⟨gb118,0,none⟩=some (.int .i64 a0_0):=(blk_cell BK118.out 0).trans rfl;have hcz19_1:w18.cell? ⟨gb118,1,none⟩=some (.int .i64 a0_1):=(blk_cell BK118.out 1).trans rfl;have hfz19_0:=blk_frozen BK118.out 0;have hfz19_1:=blk_frozen BK118.out 1)|(go_at_call 17;(with_reducible refine (layout_Groups.calls k a0_0 a0_1 t121 _ A12.out).mono ?_);rintro e w20 ⟨rfl,hb⟩;have n0_:=Aside0.mk (blk_below (g:=gb118) (o:=.cells #[.int .i64 a0_0,.int .i64 a0_1] 24 (0,0)) (by (with_reducible repeat (first|refine blk_drewN ?_ _|refine blk_drew ?_|refine blk_alloc ?_ _));exact BK118.out) hb);have n1_:=Aside0.mk (blk_below (g:=gb119) (o:=.cells #[.int .i64 0,.int .i64 0,.int .i64 0,.int .i64 0,.int .i64 0,.int .i64 0] 30 (0,0)) (by (with_reducible repeat (first|refine blk_drewN ?_ _|refine blk_drew ?_|refine blk_alloc ?_ _));exact BK119.out) hb);have n2_:=Aside0.mk (below_step (by repeat (first|(with_reducible first|exact HB.out|apply below_alloc|apply pw_below_drewN|apply below_drew1|refine below_set ?_ GE118.out|refine below_set ?_ GE119.out)|exact HB.out)) hb);clear BK118 BK119 HB;have BK118:=n0_;have BK119:=n1_;have HB:=n2_;clear n0_ n1_ n2_;(try clear hb);(try clear hb2);(try clear hk);(try clear hi);have hcz21_0:w20.cell? ⟨gb119,0,none⟩=some (.int .i64 0):=(blk_cell BK119.out 0).trans rfl;have hcz21_1:w20.cell? ⟨gb119,1,none⟩=some (.int .i64 0):=(blk_cell BK119.out 1).trans rfl;have hcz21_2:w20.cell? ⟨gb119,2,none⟩=some (.int .i64 0):=(blk_cell BK119.out 2).trans rfl;have hcz21_3:w20.cell? ⟨gb119,3,none⟩=some (.int .i64 0):=(blk_cell BK119.out 3).trans rfl;have hcz21_4:w20.cell? ⟨gb119,4,none⟩=some (.int .i64 0):=(blk_cell BK119.out 4).trans rfl;have hcz21_5:w20.cell? ⟨gb119,5,none⟩=some (.int .i64 0):=(blk_cell BK119.out 5).trans rfl;have hfz21_0:=blk_frozen BK119.out 0;have hfz21_1:=blk_frozen BK119.out 1;have hfz21_2:=blk_frozen BK119.out 2;have hfz21_3:=blk_frozen BK119.out 3;have hfz21_4:=blk_frozen BK119.out 4;have hfz21_5:=blk_frozen BK119.out 5))
    refine bodyPost_ret (results_ct rfl _ _ gb119 30 #[.int .i64 0,.int .i64 0,.int .i64 0,.int .i64 0,.int .i64 0,.int .i64 0] (0,0) _ rfl (by (with_reducible repeat (first|refine blk_drewN ?_ _|refine blk_drew ?_|refine blk_alloc ?_ _));refine blk_put (cs:=#[.int .i64 0,.int .i64 0,.int .i64 0,.int .i64 0,.int .i64 0,.int .i64 0]) ?_ 5 _ rfl;(with_reducible repeat (first|refine blk_drewN ?_ _|refine blk_drew ?_|refine blk_alloc ?_ _));refine blk_put (cs:=#[.int .i64 0,.int .i64 0,.int .i64 0,.int .i64 0,.int .i64 0,.int .i64 0]) ?_ 4 _ rfl;(with_reducible repeat (first|refine blk_drewN ?_ _|refine blk_drew ?_|refine blk_alloc ?_ _));refine blk_put (cs:=#[.int .i64 0,.int .i64 0,.int .i64 0,.int .i64 0,.int .i64 0,.int .i64 0]) ?_ 3 _ rfl;(with_reducible repeat (first|refine blk_drewN ?_ _|refine blk_drew ?_|refine blk_alloc ?_ _));refine blk_put (cs:=#[.int .i64 0,.int .i64 0,.int .i64 0,.int .i64 0,.int .i64 0,.int .i64 0]) ?_ 2 _ rfl;(with_reducible repeat (first|refine blk_drewN ?_ _|refine blk_drew ?_|refine blk_alloc ?_ _));refine blk_put (cs:=#[.int .i64 0,.int .i64 0,.int .i64 0,.int .i64 0,.int .i64 0,.int .i64 0]) ?_ 1 _ rfl;(with_reducible repeat (first|refine blk_drewN ?_ _|refine blk_drew ?_|refine blk_alloc ?_ _));refine blk_put (cs:=#[.int .i64 0,.int .i64 0,.int .i64 0,.int .i64 0,.int .i64 0,.int .i64 0]) ?_ 0 _ rfl;(with_reducible repeat (first|refine blk_drewN ?_ _|refine blk_drew ?_|refine blk_alloc ?_ _));exact BK119.out) Try.underlying30 rfl (by kernel_rfl)) rfl ?_
    exact ⟨by first|rfl|(simp [errW_none,errW_some] <;> rfl)|(simp [*,errW_none,errW_some] <;> rfl),by repeat (first|(with_reducible first|exact HB.out|apply below_alloc|apply pw_below_drewN|apply below_drew1|refine below_set ?_ GE118.out|refine below_set ?_ GE119.out)|exact HB.out)⟩
   ·rw [if_neg c13] at H
    have c13b0:decide (t121≤a1)=false:=decide_eq_false c13
    clear c13
    replace H:=Option.bind_eq_some_iff.mp H
    obtain ⟨⟨t122,t123,t124,t125,t126,t127⟩,A220,H⟩:=H
    replace H:(some (t122,t123,t124,t125,t126,t127,0))=some (r1,r2,r3,r4,r5,r6,r7):=H
    have A22:=Aside0.mk A220
    clear A220
    simp only [Option.some.injEq,Prod.mk.injEq] at H
    obtain ⟨rfl,rfl,rfl,rfl,rfl,rfl,rfl⟩:=H
    go_enter Try.func13,Try.ntmps13
    go_wp2_with (first|((with_reducible refine gate_dst (N:=2) rfl ?_);refine box_event ?hg (N:=2) ?hd (cs:=#[.int .i64 a0_0,.int .i64 a0_1]) (t:=24) ?hr ?_;(case hd=>rfl);(case hg=>rfl);(case hr=>first|(go_simp;done)|(go_simp;rfl));intro gb118 hg w23 hbox hb;have n0_:=Aside0.mk (below_step (by repeat (first|(with_reducible first|exact HB.out|apply below_alloc|apply pw_below_drewN|apply below_drew1)|exact HB.out)) hb);have n1_:=Aside0.mk (hbox);have n2_:=Aside0.mk ((by rw [hg];exact (below_size (by repeat (first|(with_reducible first|exact HB.out|apply below_alloc|apply pw_below_drewN|apply below_drew1)|exact HB.out))):w.heap.size≤gb118));have n3_:=Aside0.mk ((by rw [hg];exact (below_size (by repeat (first|(with_reducible first|exact HB.out|apply below_alloc|apply pw_below_drewN|apply below_drew1)|exact HB.out))):w.heap.size≤gb118));clear HB;have HB:=n0_;have BK118:=n1_;have GW118:=n2_;have GE118:=n3_;clear n0_ n1_ n2_ n3_;clear hb hbox hg)|((with_reducible refine gate_dst (N:=4) rfl ?_);refine box_event ?hg (N:=4) ?hd (cs:=#[.int .i64 0,.int .i64 0,.int .i64 0,.int .i64 0,.int .i64 0,.int .i64 0]) (t:=30) ?hr ?_;(case hd=>rfl);(case hg=>rfl);(case hr=>first|(go_simp;done)|(go_simp;rfl));intro gb119 hg w24 hbox hb;have n0_:=Aside0.mk (blk_below (g:=gb118) (o:=.cells #[.int .i64 a0_0,.int .i64 a0_1] 24 (0,0)) (by (with_reducible repeat (first|refine blk_drewN ?_ _|refine blk_drew ?_|refine blk_alloc ?_ _));exact BK118.out) hb);have n1_:=Aside0.mk (below_step (by repeat (first|(with_reducible first|exact HB.out|apply below_alloc|apply pw_below_drewN|apply below_drew1|refine below_set ?_ GE118.out)|exact HB.out)) hb);have n2_:=Aside0.mk (hbox);have n3_:=Aside0.mk ((by rw [hg];exact (below_size (by repeat (first|(with_reducible first|exact HB.out|apply below_alloc|apply pw_below_drewN|apply below_drew1|refine below_set ?_ GE118.out)|exact HB.out))):w.heap.size≤gb119));have n4_:=Aside0.mk ((by rw [hg];exact (below_size (by repeat (first|(with_reducible first|exact HB.out|apply below_alloc|apply pw_below_drewN|apply below_drew1|refine below_set ?_ GE118.out)|exact HB.out))):w.heap.size≤gb119));have n5_:=Aside0.mk ((by rw [hg];exact Nat.ne_of_lt (blk_lt (g:=gb118) (o:=.cells #[.int .i64 a0_0,.int .i64 a0_1] 24 (0,0)) (by (with_reducible repeat (first|refine blk_drewN ?_ _|refine blk_drew ?_|refine blk_alloc ?_ _));exact BK118.out)):gb118≠gb119));have n6_:=Aside0.mk ((by rw [hg];exact Nat.ne_of_gt (blk_lt (g:=gb118) (o:=.cells #[.int .i64 a0_0,.int .i64 a0_1] 24 (0,0)) (by (with_reducible repeat (first|refine blk_drewN ?_ _|refine blk_drew ?_|refine blk_alloc ?_ _));exact BK118.out)):gb119≠gb118));clear BK118 HB;have BK118:=n0_;have HB:=n1_;have BK119:=n2_;have GW119:=n3_;have GE119:=n4_;have NB118_119:=n5_;have NB119_118:=n6_;clear n0_ n1_ n2_ n3_ n4_ n5_ n6_;clear hb hbox hg;have hnb25:=NB118_119.out;have hnc25:=NB119_118.out;have hcz26_0:w24.cell? ⟨gb118,0,none⟩=some (.int .i64 a0_0):=(blk_cell BK118.out 0).trans rfl;have hcz26_1:w24.cell? ⟨gb118,1,none⟩=some (.int .i64 a0_1):=(blk_cell BK118.out 1).trans rfl;have hfz26_0:=blk_frozen BK118.out 0;have hfz26_1:=blk_frozen BK118.out 1)|((with_reducible refine gate_callee (f:=15) rfl ?_);refine goesL_ (some 8) rfl rfl Try.func15 (by kernel_rfl) rfl #[.agg #[.int .i64 a0_0,.int .i64 a0_1]] rfl (by (try simp only [List.map_toArray,List.map_cons,List.map_nil]);first|done|rfl|(simp only [List.length_drop,List.length_take];rfl)) ?_;(with_reducible refine (layout_Check.calls k a0_0 a0_1 t120 _ A3.out).mono ?_);rintro e w27 ⟨rfl,hb⟩;refine ⟨_,rfl,?_⟩;have n0_:=Aside0.mk (blk_below (g:=gb118) (o:=.cells #[.int .i64 a0_0,.int .i64 a0_1] 24 (0,0)) (by (with_reducible repeat (first|refine blk_drewN ?_ _|refine blk_drew ?_|refine blk_alloc ?_ _));exact BK118.out) hb);have n1_:=Aside0.mk (blk_below (g:=gb119) (o:=.cells #[.int .i64 0,.int .i64 0,.int .i64 0,.int .i64 0,.int .i64 0,.int .i64 0] 30 (0,0)) (by (with_reducible repeat (first|refine blk_drewN ?_ _|refine blk_drew ?_|refine blk_alloc ?_ _));exact BK119.out) hb);have n2_:=Aside0.mk (below_step (by repeat (first|(with_reducible first|exact HB.out|apply below_alloc|apply pw_below_drewN|apply below_drew1|refine below_set ?_ GE118.out|refine below_set ?_ GE119.out)|exact HB.out)) hb);clear BK118 BK119 HB;have BK118:=n0_;have BK119:=n1_;have HB:=n2_;clear n0_ n1_ n2_;(try clear hb);(try clear hb2);(try clear hk);(try clear hi);have hcz28_0:w27.cell? ⟨gb118,0,none⟩=some (.int .i64 a0_0):=(blk_cell BK118.out 0).trans rfl;have hcz28_1:w27.cell? ⟨gb118,1,none⟩=some (.int .i64 a0_1):=(blk_cell BK118.out 1).trans rfl;have hfz28_0:=blk_frozen BK118.out 0;have hfz28_1:=blk_frozen BK118.out 1)|(go_at_call 17;(with_reducible refine (layout_Groups.calls k a0_0 a0_1 t121 _ A12.out).mono ?_);rintro e w29 ⟨rfl,hb⟩;have n0_:=Aside0.mk (blk_below (g:=gb118) (o:=.cells #[.int .i64 a0_0,.int .i64 a0_1] 24 (0,0)) (by (with_reducible repeat (first|refine blk_drewN ?_ _|refine blk_drew ?_|refine blk_alloc ?_ _));exact BK118.out) hb);have n1_:=Aside0.mk (blk_below (g:=gb119) (o:=.cells #[.int .i64 0,.int .i64 0,.int .i64 0,.int .i64 0,.int .i64 0,.int .i64 0] 30 (0,0)) (by (with_reducible repeat (first|refine blk_drewN ?_ _|refine blk_drew ?_|refine blk_alloc ?_ _));exact BK119.out) hb);have n2_:=Aside0.mk (below_step (by repeat (first|(with_reducible first|exact HB.out|apply below_alloc|apply pw_below_drewN|apply below_drew1|refine below_set ?_ GE118.out|refine below_set ?_ GE119.out)|exact HB.out)) hb);clear BK118 BK119 HB;have BK118:=n0_;have BK119:=n1_;have HB:=n2_;clear n0_ n1_ n2_;(try clear hb);(try clear hb2);(try clear hk);(try clear hi);have hcz30_0:w29.cell? ⟨gb118,0,none⟩=some (.int .i64 a0_0):=(blk_cell BK118.out 0).trans rfl;have hcz30_1:w29.cell? ⟨gb118,1,none⟩=some (.int .i64 a0_1):=(blk_cell BK118.out 1).trans rfl;have hfz30_0:=blk_frozen BK118.out 0;have hfz30_1:=blk_frozen BK118.out 1)|((with_reducible refine gate_callee (f:=44) rfl ?_);refine goesL_ (some 24) rfl rfl Try.func44 (by kernel_rfl) rfl #[.agg #[.int .i64 a0_0,.int .i64 a0_1],.int .i64 a1] rfl (by (try simp only [List.map_toArray,List.map_cons,List.map_nil]);first|done|rfl|(simp only [List.length_drop,List.length_take];rfl)) ?_;(with_reducible refine (layout_group.calls k a0_0 a0_1 a1 t122 t123 t124 t125 t126 t127 _ A22.out).mono ?_);rintro e w31 ⟨rfl,hb⟩;refine ⟨_,rfl,?_⟩;have n0_:=Aside0.mk (blk_below (g:=gb118) (o:=.cells #[.int .i64 a0_0,.int .i64 a0_1] 24 (0,0)) (by (with_reducible repeat (first|refine blk_drewN ?_ _|refine blk_drew ?_|refine blk_alloc ?_ _));exact BK118.out) hb);have n1_:=Aside0.mk (blk_below (g:=gb119) (o:=.cells #[.int .i64 0,.int .i64 0,.int .i64 0,.int .i64 0,.int .i64 0,.int .i64 0] 30 (0,0)) (by (with_reducible repeat (first|refine blk_drewN ?_ _|refine blk_drew ?_|refine blk_alloc ?_ _));exact BK119.out) hb);have n2_:=Aside0.mk (below_step (by repeat (first|(with_reducible first|exact HB.out|apply below_alloc|apply pw_below_drewN|apply below_drew1|refine below_set ?_ GE118.out|refine below_set ?_ GE119.out)|exact HB.out)) hb);clear BK118 BK119 HB;have BK118:=n0_;have BK119:=n1_;have HB:=n2_;clear n0_ n1_ n2_;(try clear hb);(try clear hb2);(try clear hk);(try clear hi);have hcz32_0:w31.cell? ⟨gb119,0,none⟩=some (.int .i64 0):=(blk_cell BK119.out 0).trans rfl;have hcz32_1:w31.cell? ⟨gb119,1,none⟩=some (.int .i64 0):=(blk_cell BK119.out 1).trans rfl;have hcz32_2:w31.cell? ⟨gb119,2,none⟩=some (.int .i64 0):=(blk_cell BK119.out 2).trans rfl;have hcz32_3:w31.cell? ⟨gb119,3,none⟩=some (.int .i64 0):=(blk_cell BK119.out 3).trans rfl;have hcz32_4:w31.cell? ⟨gb119,4,none⟩=some (.int .i64 0):=(blk_cell BK119.out 4).trans rfl;have hcz32_5:w31.cell? ⟨gb119,5,none⟩=some (.int .i64 0):=(blk_cell BK119.out 5).trans rfl;have hfz32_0:=blk_frozen BK119.out 0;have hfz32_1:=blk_frozen BK119.out 1;have hfz32_2:=blk_frozen BK119.out 2;have hfz32_3:=blk_frozen BK119.out 3;have hfz32_4:=blk_frozen BK119.out 4;have hfz32_5:=blk_frozen BK119.out 5))
    refine bodyPost_ret (results_ct rfl _ _ gb119 30 #[.int .i64 t122,.int .i64 t123,.int .i64 t124,.int .i64 t125,.int .i64 t126,.int .i64 t127] (0,0) _ rfl (by (with_reducible repeat (first|refine blk_drewN ?_ _|refine blk_drew ?_|refine blk_alloc ?_ _));refine blk_put (cs:=#[.int .i64 t122,.int .i64 t123,.int .i64 t124,.int .i64 t125,.int .i64 t126,.int .i64 0]) ?_ 5 _ rfl;(with_reducible repeat (first|refine blk_drewN ?_ _|refine blk_drew ?_|refine blk_alloc ?_ _));refine blk_put (cs:=#[.int .i64 t122,.int .i64 t123,.int .i64 t124,.int .i64 t125,.int .i64 0,.int .i64 0]) ?_ 4 _ rfl;(with_reducible repeat (first|refine blk_drewN ?_ _|refine blk_drew ?_|refine blk_alloc ?_ _));refine blk_put (cs:=#[.int .i64 t122,.int .i64 t123,.int .i64 t124,.int .i64 0,.int .i64 0,.int .i64 0]) ?_ 3 _ rfl;(with_reducible repeat (first|refine blk_drewN ?_ _|refine blk_drew ?_|refine blk_alloc ?_ _));refine blk_put (cs:=#[.int .i64 t122,.int .i64 t123,.int .i64 0,.int .i64 0,.int .i64 0,.int .i64 0]) ?_ 2 _ rfl;(with_reducible repeat (first|refine blk_drewN ?_ _|refine blk_drew ?_|refine blk_alloc ?_ _));refine blk_put (cs:=#[.int .i64 t122,.int .i64 0,.int .i64 0,.int .i64 0,.int .i64 0,.int .i64 0]) ?_ 1 _ rfl;(with_reducible repeat (first|refine blk_drewN ?_ _|refine blk_drew ?_|refine blk_alloc ?_ _));refine blk_put (cs:=#[.int .i64 0,.int .i64 0,.int .i64 0,.int .i64 0,.int .i64 0,.int .i64 0]) ?_ 0 _ rfl;(with_reducible repeat (first|refine blk_drewN ?_ _|refine blk_drew ?_|refine blk_alloc ?_ _));exact BK119.out) Try.underlying30 rfl (by kernel_rfl)) rfl ?_
    exact ⟨by first|rfl|(simp [errW_none,errW_some] <;> rfl)|(simp [*,errW_none,errW_some] <;> rfl),by repeat (first|(with_reducible first|exact HB.out|apply below_alloc|apply pw_below_drewN|apply below_drew1|refine below_set ?_ GE118.out|refine below_set ?_ GE119.out)|exact HB.out)⟩
 ·rw [if_neg c4] at H
  have c4b0:(t120 == 0)=false:=beq_eq_false_iff_ne.mpr c4
  have c4b1:(t120 != 0)=true:=bne_iff_ne.mpr c4
  simp only [Option.some.injEq,Prod.mk.injEq] at H
  obtain ⟨rfl,rfl,rfl,rfl,rfl,rfl,rfl⟩:=H
  go_enter Try.func13,Try.ntmps13
  go_wp2_with (first|((with_reducible refine gate_dst (N:=2) rfl ?_);refine box_event ?hg (N:=2) ?hd (cs:=#[.int .i64 a0_0,.int .i64 a0_1]) (t:=24) ?hr ?_;(case hd=>rfl);(case hg=>rfl);(case hr=>first|(go_simp;done)|(go_simp;rfl));intro gb118 hg w33 hbox hb;have n0_:=Aside0.mk (below_step (by repeat (first|(with_reducible first|exact HB.out|apply below_alloc|apply pw_below_drewN|apply below_drew1)|exact HB.out)) hb);have n1_:=Aside0.mk (hbox);have n2_:=Aside0.mk ((by rw [hg];exact (below_size (by repeat (first|(with_reducible first|exact HB.out|apply below_alloc|apply pw_below_drewN|apply below_drew1)|exact HB.out))):w.heap.size≤gb118));have n3_:=Aside0.mk ((by rw [hg];exact (below_size (by repeat (first|(with_reducible first|exact HB.out|apply below_alloc|apply pw_below_drewN|apply below_drew1)|exact HB.out))):w.heap.size≤gb118));clear HB;have HB:=n0_;have BK118:=n1_;have GW118:=n2_;have GE118:=n3_;clear n0_ n1_ n2_ n3_;clear hb hbox hg)|((with_reducible refine gate_dst (N:=4) rfl ?_);refine box_event ?hg (N:=4) ?hd (cs:=#[.int .i64 0,.int .i64 0,.int .i64 0,.int .i64 0,.int .i64 0,.int .i64 0]) (t:=30) ?hr ?_;(case hd=>rfl);(case hg=>rfl);(case hr=>first|(go_simp;done)|(go_simp;rfl));intro gb119 hg w34 hbox hb;have n0_:=Aside0.mk (blk_below (g:=gb118) (o:=.cells #[.int .i64 a0_0,.int .i64 a0_1] 24 (0,0)) (by (with_reducible repeat (first|refine blk_drewN ?_ _|refine blk_drew ?_|refine blk_alloc ?_ _));exact BK118.out) hb);have n1_:=Aside0.mk (below_step (by repeat (first|(with_reducible first|exact HB.out|apply below_alloc|apply pw_below_drewN|apply below_drew1|refine below_set ?_ GE118.out)|exact HB.out)) hb);have n2_:=Aside0.mk (hbox);have n3_:=Aside0.mk ((by rw [hg];exact (below_size (by repeat (first|(with_reducible first|exact HB.out|apply below_alloc|apply pw_below_drewN|apply below_drew1|refine below_set ?_ GE118.out)|exact HB.out))):w.heap.size≤gb119));have n4_:=Aside0.mk ((by rw [hg];exact (below_size (by repeat (first|(with_reducible first|exact HB.out|apply below_alloc|apply pw_below_drewN|apply below_drew1|refine below_set ?_ GE118.out)|exact HB.out))):w.heap.size≤gb119));have n5_:=Aside0.mk ((by rw [hg];exact Nat.ne_of_lt (blk_lt (g:=gb118) (o:=.cells #[.int .i64 a0_0,.int .i64 a0_1] 24 (0,0)) (by (with_reducible repeat (first|refine blk_drewN ?_ _|refine blk_drew ?_|refine blk_alloc ?_ _));exact BK118.out)):gb118≠gb119));have n6_:=Aside0.mk ((by rw [hg];exact Nat.ne_of_gt (blk_lt (g:=gb118) (o:=.cells #[.int .i64 a0_0,.int .i64 a0_1] 24 (0,0)) (by (with_reducible repeat (first|refine blk_drewN ?_ _|refine blk_drew ?_|refine blk_alloc ?_ _));exact BK118.out)):gb119≠gb118));clear BK118 HB;have BK118:=n0_;have HB:=n1_;have BK119:=n2_;have GW119:=n3_;have GE119:=n4_;have NB118_119:=n5_;have NB119_118:=n6_;clear n0_ n1_ n2_ n3_ n4_ n5_ n6_;clear hb hbox hg;have hnb35:=NB118_119.out;have hnc35:=NB119_118.out;have hcz36_0:w34.cell? ⟨gb118,0,none⟩=some (.int .i64 a0_0):=(blk_cell BK118.out 0).trans rfl;have hcz36_1:w34.cell? ⟨gb118,1,none⟩=some (.int .i64 a0_1):=(blk_cell BK118.out 1).trans rfl;have hfz36_0:=blk_frozen BK118.out 0;have hfz36_1:=blk_frozen BK118.out 1)|((with_reducible refine gate_callee (f:=15) rfl ?_);refine goesL_ (some 8) rfl rfl Try.func15 (by kernel_rfl) rfl #[.agg #[.int .i64 a0_0,.int .i64 a0_1]] rfl (by (try simp only [List.map_toArray,List.map_cons,List.map_nil]);first|done|rfl|(simp only [List.length_drop,List.length_take];rfl)) ?_;(with_reducible refine (layout_Check.calls k a0_0 a0_1 t120 _ A3.out).mono ?_);rintro e w37 ⟨rfl,hb⟩;refine ⟨_,rfl,?_⟩;have n0_:=Aside0.mk (blk_below (g:=gb118) (o:=.cells #[.int .i64 a0_0,.int .i64 a0_1] 24 (0,0)) (by (with_reducible repeat (first|refine blk_drewN ?_ _|refine blk_drew ?_|refine blk_alloc ?_ _));exact BK118.out) hb);have n1_:=Aside0.mk (blk_below (g:=gb119) (o:=.cells #[.int .i64 0,.int .i64 0,.int .i64 0,.int .i64 0,.int .i64 0,.int .i64 0] 30 (0,0)) (by (with_reducible repeat (first|refine blk_drewN ?_ _|refine blk_drew ?_|refine blk_alloc ?_ _));exact BK119.out) hb);have n2_:=Aside0.mk (below_step (by repeat (first|(with_reducible first|exact HB.out|apply below_alloc|apply pw_below_drewN|apply below_drew1|refine below_set ?_ GE118.out|refine below_set ?_ GE119.out)|exact HB.out)) hb);clear BK118 BK119 HB;have BK118:=n0_;have BK119:=n1_;have HB:=n2_;clear n0_ n1_ n2_;(try clear hb);(try clear hb2);(try clear hk);(try clear hi);have hcz38_0:w37.cell? ⟨gb119,0,none⟩=some (.int .i64 0):=(blk_cell BK119.out 0).trans rfl;have hcz38_1:w37.cell? ⟨gb119,1,none⟩=some (.int .i64 0):=(blk_cell BK119.out 1).trans rfl;have hcz38_2:w37.cell? ⟨gb119,2,none⟩=some (.int .i64 0):=(blk_cell BK119.out 2).trans rfl;have hcz38_3:w37.cell? ⟨gb119,3,none⟩=some (.int .i64 0):=(blk_cell BK119.out 3).trans rfl;have hcz38_4:w37.cell? ⟨gb119,4,none⟩=some (.int .i64 0):=(blk_cell BK119.out 4).trans rfl;have hcz38_5:w37.cell? ⟨gb119,5,none⟩=some (.int .i64 0):=(blk_cell BK119.out 5).trans rfl;have hfz38_0:=blk_frozen BK119.out 0;have hfz38_1:=blk_frozen BK119.out 1;have hfz38_2:=blk_frozen BK119.out 2;have hfz38_3:=blk_frozen BK119.out 3;have hfz38_4:=blk_frozen BK119.out 4;have hfz38_5:=blk_frozen BK119.out 5))
  refine bodyPost_ret (results_ct rfl _ _ gb119 30 #[.int .i64 0,.int .i64 0,.int .i64 0,.int .i64 0,.int .i64 0,.int .i64 0] (0,0) _ rfl (by (with_reducible repeat (first|refine blk_drewN ?_ _|refine blk_drew ?_|refine blk_alloc ?_ _));refine blk_put (cs:=#[.int .i64 0,.int .i64 0,.int .i64 0,.int .i64 0,.int .i64 0,.int .i64 0]) ?_ 5 _ rfl;(with_reducible repeat (first|refine blk_drewN ?_ _|refine blk_drew ?_|refine blk_alloc ?_ _));refine blk_put (cs:=#[.int .i64 0,.int .i64 0,.int .i64 0,.int .i64 0,.int .i64 0,.int .i64 0]) ?_ 4 _ rfl;(with_reducible repeat (first|refine blk_drewN ?_ _|refine blk_drew ?_|refine blk_alloc ?_ _));refine blk_put (cs:=#[.int .i64 0,.int .i64 0,.int .i64 0,.int .i64 0,.int .i64 0,.int .i64 0]) ?_ 3 _ rfl;(with_reducible repeat (first|refine blk_drewN ?_ _|refine blk_drew ?_|refine blk_alloc ?_ _));refine blk_put (cs:=#[.int .i64 0,.int .i64 0,.int .i64 0,.int .i64 0,.int .i64 0,.int .i64 0]) ?_ 2 _ rfl;(with_reducible repeat (first|refine blk_drewN ?_ _|refine blk_drew ?_|refine blk_alloc ?_ _));refine blk_put (cs:=#[.int .i64 0,.int .i64 0,.int .i64 0,.int .i64 0,.int .i64 0,.int .i64 0]) ?_ 1 _ rfl;(with_reducible repeat (first|refine blk_drewN ?_ _|refine blk_drew ?_|refine blk_alloc ?_ _));refine blk_put (cs:=#[.int .i64 0,.int .i64 0,.int .i64 0,.int .i64 0,.int .i64 0,.int .i64 0]) ?_ 0 _ rfl;(with_reducible repeat (first|refine blk_drewN ?_ _|refine blk_drew ?_|refine blk_alloc ?_ _));exact BK119.out) Try.underlying30 rfl (by kernel_rfl)) rfl ?_
  exact ⟨by first|rfl|(simp [errW_none,errW_some] <;> rfl)|(simp [*,errW_none,errW_some] <;> rfl),by repeat (first|(with_reducible first|exact HB.out|apply below_alloc|apply pw_below_drewN|apply below_drew1|refine below_set ?_ GE118.out|refine below_set ?_ GE119.out)|exact HB.out)⟩
def slipwaylaw11_live.f (k:Nat) :Option (Bool):=(layout_Plan.f k 300 16).bind fun bt128=>((layout_Group.f k bt128.1 bt128.2.1 0).bind fun bt132=>(if bt128.2.2=0 then (if bt132.2.2.2.2.2.2=0 then (if bt128.1=300 then ((layout_Groups.f k bt128.1 bt128.2.1).bind fun t140=>(if t140=3 then (some (bt132.1 == 0 && (bt132.2.1 == 128 && (bt132.2.2.1 == 2 && (bt132.2.2.2.1 == 3 && (bt132.2.2.2.2.1 == 4 && (bt132.2.2.2.2.2.1 == 24))))))) else (some false))) else (some false)) else (some false)) else (some false)))
theorem slipwaylaw11_live.mono:∀ k,LeO (slipwaylaw11_live.f k ) (slipwaylaw11_live.f (k + 1) ):=by
 intro  k
 unfold slipwaylaw11_live.f
 repeat' first
   | (with_reducible exact layout_Group.mono _ _ _ _)
   | (with_reducible exact layout_Groups.mono _ _ _)
   | (with_reducible exact layout_Plan.mono _ _ _)
   | (with_reducible exact LeO.refl _)
   | (with_reducible exact LeO.none _)
   | (with_reducible refine LeO.ite ?_ ?_)
   | (with_reducible refine LeO.bind ?_ (fun _=>?_))
   | exact layout_Group.mono _ _ _ _
   | exact layout_Groups.mono _ _ _
   | exact layout_Plan.mono _ _ _
   | exact LeO.none _
   | refine LeO.ite ?_ ?_
   | refine LeO.bind ?_ (fun _=>?_)
set_option maxHeartbeats 8000000 in
set_option maxRecDepth 100000 in
theorem slipwaylaw11_live.calls (k:Nat)  (r:Bool) (w:World) (h:slipwaylaw11_live.f k =some r) :
  Calls Try.prog 10 #[] w fun e w'=>e=.returned (.bool r)∧Below w.heap.size w w':=by
 have hu24:=Try.underlying24
 have hu30:=Try.underlying30
 have HB:=Aside0.mk (Below.refl w.heap.size w)
 have H:((layout_Plan.f k 300 16).bind fun bt128=>((layout_Group.f k bt128.1 bt128.2.1 0).bind fun bt132=>(if bt128.2.2=0 then (if bt132.2.2.2.2.2.2=0 then (if bt128.1=300 then ((layout_Groups.f k bt128.1 bt128.2.1).bind fun t140=>(if t140=3 then (some (bt132.1 == 0 && (bt132.2.1 == 128 && (bt132.2.2.1 == 2 && (bt132.2.2.2.1 == 3 && (bt132.2.2.2.2.1 == 4 && (bt132.2.2.2.2.2.1 == 24))))))) else (some false))) else (some false)) else (some false)) else (some false))))=some r:=h
 clear h
 replace H:=Option.bind_eq_some_iff.mp H
 obtain ⟨⟨t128,t129,t130⟩,A10,H⟩:=H
 replace H:((layout_Group.f k t128 t129 0).bind fun bt132=>(if t130=0 then (if bt132.2.2.2.2.2.2=0 then (if t128=300 then ((layout_Groups.f k t128 t129).bind fun t140=>(if t140=3 then (some (bt132.1 == 0 && (bt132.2.1 == 128 && (bt132.2.2.1 == 2 && (bt132.2.2.2.1 == 3 && (bt132.2.2.2.2.1 == 4 && (bt132.2.2.2.2.2.1 == 24))))))) else (some false))) else (some false)) else (some false)) else (some false)))=some r:=H
 have A1:=Aside0.mk A10
 clear A10
 replace H:=Option.bind_eq_some_iff.mp H
 obtain ⟨⟨t132,t133,t134,t135,t136,t137,t138⟩,A20,H⟩:=H
 replace H:(if t130=0 then (if t138=0 then (if t128=300 then ((layout_Groups.f k t128 t129).bind fun t140=>(if t140=3 then (some (t132 == 0 && (t133 == 128 && (t134 == 2 && (t135 == 3 && (t136 == 4 && (t137 == 24))))))) else (some false))) else (some false)) else (some false)) else (some false))=some r:=H
 have A2:=Aside0.mk A20
 clear A20
 by_cases c3:t130=0
 ·rw [if_pos c3] at H
  have c3b0:(t130 == 0)=true:=beq_iff_eq.mpr c3
  have c3b1:(t130 != 0)=false:=bne_eq_false_iff_eq.mpr c3
  clear c3
  by_cases c4:t138=0
  ·rw [if_pos c4] at H
   have c4b0:(t138 == 0)=true:=beq_iff_eq.mpr c4
   have c4b1:(t138 != 0)=false:=bne_eq_false_iff_eq.mpr c4
   clear c4
   by_cases c5:t128=300
   ·rw [if_pos c5] at H
    have c5b0:(t128 == 300)=true:=beq_iff_eq.mpr c5
    have c5b1:(t128 != 300)=false:=bne_eq_false_iff_eq.mpr c5
    clear c5
    replace H:=Option.bind_eq_some_iff.mp H
    obtain ⟨t140,A60,H⟩:=H
    replace H:(if t140=3 then (some (t132 == 0 && (t133 == 128 && (t134 == 2 && (t135 == 3 && (t136 == 4 && (t137 == 24))))))) else (some false))=some r:=H
    have A6:=Aside0.mk A60
    clear A60
    by_cases c7:t140=3
    ·rw [if_pos c7] at H
     have c7b0:(t140 == 3)=true:=beq_iff_eq.mpr c7
     have c7b1:(t140 != 3)=false:=bne_eq_false_iff_eq.mpr c7
     clear c7
     obtain rfl:=Option.some.inj H
     go_enter Try.func10,Try.ntmps10
     go_wp2_with (first|((with_reducible refine gate_callee (f:=11) rfl ?_);refine goesL_ (some 6) rfl rfl Try.func11 (by kernel_rfl) rfl #[.int .i64 300,.int .i64 16] rfl (by (try simp only [List.map_toArray,List.map_cons,List.map_nil]);first|done|rfl|(simp only [List.length_drop,List.length_take];rfl)) ?_;(with_reducible refine (layout_Plan.calls k 300 16 t128 t129 t130 _ A1.out).mono ?_);rintro e w8 ⟨rfl,hb⟩;refine ⟨_,rfl,?_⟩;have n0_:=Aside0.mk (below_step (by repeat (first|(with_reducible first|exact HB.out|apply below_alloc|apply pw_below_drewN|apply below_drew1)|exact HB.out)) hb);clear HB;have HB:=n0_;clear n0_;(try clear hb);(try clear hb2);(try clear hk);(try clear hi))|((with_reducible refine gate_dst (N:=1) rfl ?_);refine box_event ?hg (N:=1) ?hd (cs:=#[.int .i64 0,.int .i64 0]) (t:=24) ?hr ?_;(case hd=>rfl);(case hg=>rfl);(case hr=>first|(go_simp;done)|(go_simp;rfl));intro gb131 hg w9 hbox hb;have n0_:=Aside0.mk (below_step (by repeat (first|(with_reducible first|exact HB.out|apply below_alloc|apply pw_below_drewN|apply below_drew1)|exact HB.out)) hb);have n1_:=Aside0.mk (hbox);have n2_:=Aside0.mk ((by rw [hg];exact (below_size (by repeat (first|(with_reducible first|exact HB.out|apply below_alloc|apply pw_below_drewN|apply below_drew1)|exact HB.out))):w.heap.size≤gb131));have n3_:=Aside0.mk ((by rw [hg];exact (below_size (by repeat (first|(with_reducible first|exact HB.out|apply below_alloc|apply pw_below_drewN|apply below_drew1)|exact HB.out))):w.heap.size≤gb131));clear HB;have HB:=n0_;have BK131:=n1_;have GW131:=n2_;have GE131:=n3_;clear n0_ n1_ n2_ n3_;clear hb hbox hg;have hcz10_0:w9.cell? ⟨gb131,0,none⟩=some (.int .i64 0):=(blk_cell BK131.out 0).trans rfl;have hcz10_1:w9.cell? ⟨gb131,1,none⟩=some (.int .i64 0):=(blk_cell BK131.out 1).trans rfl;have hfz10_0:=blk_frozen BK131.out 0;have hfz10_1:=blk_frozen BK131.out 1)|((with_reducible refine gate_callee (f:=13) rfl ?_);refine goesL_ (some 11) rfl rfl Try.func13 (by kernel_rfl) rfl #[.agg #[.int .i64 t128,.int .i64 t129],.int .i64 0] rfl (by (try simp only [List.map_toArray,List.map_cons,List.map_nil]);first|done|rfl|(simp only [List.length_drop,List.length_take];rfl)) ?_;(with_reducible refine (layout_Group.calls k t128 t129 0 t132 t133 t134 t135 t136 t137 t138 _ A2.out).mono ?_);rintro e w11 ⟨rfl,hb⟩;refine ⟨_,rfl,?_⟩;have n0_:=Aside0.mk (blk_below (g:=gb131) (o:=.cells #[.int .i64 t128,.int .i64 t129] 24 (0,0)) (by (with_reducible repeat (first|refine blk_drewN ?_ _|refine blk_drew ?_|refine blk_alloc ?_ _));refine blk_put (cs:=#[.int .i64 t128,.int .i64 0]) ?_ 1 _ rfl;(with_reducible repeat (first|refine blk_drewN ?_ _|refine blk_drew ?_|refine blk_alloc ?_ _));refine blk_put (cs:=#[.int .i64 0,.int .i64 0]) ?_ 0 _ rfl;(with_reducible repeat (first|refine blk_drewN ?_ _|refine blk_drew ?_|refine blk_alloc ?_ _));exact BK131.out) hb);have n1_:=Aside0.mk (below_step (by repeat (first|(with_reducible first|exact HB.out|apply below_alloc|apply pw_below_drewN|apply below_drew1|refine below_set ?_ GE131.out)|exact HB.out)) hb);clear BK131 HB;have BK131:=n0_;have HB:=n1_;clear n0_ n1_;(try clear hb);(try clear hb2);(try clear hk);(try clear hi))|((with_reducible refine gate_dst (N:=3) rfl ?_);refine box_event ?hg (N:=3) ?hd (cs:=#[.int .i64 0,.int .i64 0,.int .i64 0,.int .i64 0,.int .i64 0,.int .i64 0]) (t:=30) ?hr ?_;(case hd=>rfl);(case hg=>rfl);(case hr=>first|(go_simp;done)|(go_simp;rfl));intro gb139 hg w12 hbox hb;have n0_:=Aside0.mk (blk_below (g:=gb131) (o:=.cells #[.int .i64 t128,.int .i64 t129] 24 (0,0)) (by (with_reducible repeat (first|refine blk_drewN ?_ _|refine blk_drew ?_|refine blk_alloc ?_ _));exact BK131.out) hb);have n1_:=Aside0.mk (below_step (by repeat (first|(with_reducible first|exact HB.out|apply below_alloc|apply pw_below_drewN|apply below_drew1|refine below_set ?_ GE131.out)|exact HB.out)) hb);have n2_:=Aside0.mk (hbox);have n3_:=Aside0.mk ((by rw [hg];exact (below_size (by repeat (first|(with_reducible first|exact HB.out|apply below_alloc|apply pw_below_drewN|apply below_drew1|refine below_set ?_ GE131.out)|exact HB.out))):w.heap.size≤gb139));have n4_:=Aside0.mk ((by rw [hg];exact (below_size (by repeat (first|(with_reducible first|exact HB.out|apply below_alloc|apply pw_below_drewN|apply below_drew1|refine below_set ?_ GE131.out)|exact HB.out))):w.heap.size≤gb139));have n5_:=Aside0.mk ((by rw [hg];exact Nat.ne_of_lt (blk_lt (g:=gb131) (o:=.cells #[.int .i64 t128,.int .i64 t129] 24 (0,0)) (by (with_reducible repeat (first|refine blk_drewN ?_ _|refine blk_drew ?_|refine blk_alloc ?_ _));exact BK131.out)):gb131≠gb139));have n6_:=Aside0.mk ((by rw [hg];exact Nat.ne_of_gt (blk_lt (g:=gb131) (o:=.cells #[.int .i64 t128,.int .i64 t129] 24 (0,0)) (by (with_reducible repeat (first|refine blk_drewN ?_ _|refine blk_drew ?_|refine blk_alloc ?_ _));exact BK131.out)):gb139≠gb131));clear BK131 HB;have BK131:=n0_;have HB:=n1_;have BK139:=n2_;have GW139:=n3_;have GE139:=n4_;have NB131_139:=n5_;have NB139_131:=n6_;clear n0_ n1_ n2_ n3_ n4_ n5_ n6_;clear hb hbox hg;have hnb13:=NB139_131.out;have hnc13:=NB131_139.out;have hcz14_0:w12.cell? ⟨gb139,0,none⟩=some (.int .i64 0):=(blk_cell BK139.out 0).trans rfl;have hcz14_1:w12.cell? ⟨gb139,1,none⟩=some (.int .i64 0):=(blk_cell BK139.out 1).trans rfl;have hcz14_2:w12.cell? ⟨gb139,2,none⟩=some (.int .i64 0):=(blk_cell BK139.out 2).trans rfl;have hcz14_3:w12.cell? ⟨gb139,3,none⟩=some (.int .i64 0):=(blk_cell BK139.out 3).trans rfl;have hcz14_4:w12.cell? ⟨gb139,4,none⟩=some (.int .i64 0):=(blk_cell BK139.out 4).trans rfl;have hcz14_5:w12.cell? ⟨gb139,5,none⟩=some (.int .i64 0):=(blk_cell BK139.out 5).trans rfl;have hfz14_0:=blk_frozen BK139.out 0;have hfz14_1:=blk_frozen BK139.out 1;have hfz14_2:=blk_frozen BK139.out 2;have hfz14_3:=blk_frozen BK139.out 3;have hfz14_4:=blk_frozen BK139.out 4;have hfz14_5:=blk_frozen BK139.out 5;have hcz15_0:w12.cell? ⟨gb131,0,none⟩=some (.int .i64 t128):=(blk_cell BK131.out 0).trans rfl;have hcz15_1:w12.cell? ⟨gb131,1,none⟩=some (.int .i64 t129):=(blk_cell BK131.out 1).trans rfl;have hfz15_0:=blk_frozen BK131.out 0;have hfz15_1:=blk_frozen BK131.out 1)|(go_at_call 17;(with_reducible refine (layout_Groups.calls k t128 t129 t140 _ A6.out).mono ?_);rintro e w16 ⟨rfl,hb⟩;have n0_:=Aside0.mk (blk_below (g:=gb131) (o:=.cells #[.int .i64 t128,.int .i64 t129] 24 (0,0)) (by (with_reducible repeat (first|refine blk_drewN ?_ _|refine blk_drew ?_|refine blk_alloc ?_ _));refine blk_far ?_ NB131_139.out _;(with_reducible repeat (first|refine blk_drewN ?_ _|refine blk_drew ?_|refine blk_alloc ?_ _));refine blk_far ?_ NB131_139.out _;(with_reducible repeat (first|refine blk_drewN ?_ _|refine blk_drew ?_|refine blk_alloc ?_ _));refine blk_far ?_ NB131_139.out _;(with_reducible repeat (first|refine blk_drewN ?_ _|refine blk_drew ?_|refine blk_alloc ?_ _));refine blk_far ?_ NB131_139.out _;(with_reducible repeat (first|refine blk_drewN ?_ _|refine blk_drew ?_|refine blk_alloc ?_ _));refine blk_far ?_ NB131_139.out _;(with_reducible repeat (first|refine blk_drewN ?_ _|refine blk_drew ?_|refine blk_alloc ?_ _));refine blk_far ?_ NB131_139.out _;(with_reducible repeat (first|refine blk_drewN ?_ _|refine blk_drew ?_|refine blk_alloc ?_ _));exact BK131.out) hb);have n1_:=Aside0.mk (blk_below (g:=gb139) (o:=.cells #[.int .i64 t132,.int .i64 t133,.int .i64 t134,.int .i64 t135,.int .i64 t136,.int .i64 t137] 30 (0,0)) (by (with_reducible repeat (first|refine blk_drewN ?_ _|refine blk_drew ?_|refine blk_alloc ?_ _));refine blk_put (cs:=#[.int .i64 t132,.int .i64 t133,.int .i64 t134,.int .i64 t135,.int .i64 t136,.int .i64 0]) ?_ 5 _ rfl;(with_reducible repeat (first|refine blk_drewN ?_ _|refine blk_drew ?_|refine blk_alloc ?_ _));refine blk_put (cs:=#[.int .i64 t132,.int .i64 t133,.int .i64 t134,.int .i64 t135,.int .i64 0,.int .i64 0]) ?_ 4 _ rfl;(with_reducible repeat (first|refine blk_drewN ?_ _|refine blk_drew ?_|refine blk_alloc ?_ _));refine blk_put (cs:=#[.int .i64 t132,.int .i64 t133,.int .i64 t134,.int .i64 0,.int .i64 0,.int .i64 0]) ?_ 3 _ rfl;(with_reducible repeat (first|refine blk_drewN ?_ _|refine blk_drew ?_|refine blk_alloc ?_ _));refine blk_put (cs:=#[.int .i64 t132,.int .i64 t133,.int .i64 0,.int .i64 0,.int .i64 0,.int .i64 0]) ?_ 2 _ rfl;(with_reducible repeat (first|refine blk_drewN ?_ _|refine blk_drew ?_|refine blk_alloc ?_ _));refine blk_put (cs:=#[.int .i64 t132,.int .i64 0,.int .i64 0,.int .i64 0,.int .i64 0,.int .i64 0]) ?_ 1 _ rfl;(with_reducible repeat (first|refine blk_drewN ?_ _|refine blk_drew ?_|refine blk_alloc ?_ _));refine blk_put (cs:=#[.int .i64 0,.int .i64 0,.int .i64 0,.int .i64 0,.int .i64 0,.int .i64 0]) ?_ 0 _ rfl;(with_reducible repeat (first|refine blk_drewN ?_ _|refine blk_drew ?_|refine blk_alloc ?_ _));exact BK139.out) hb);have n2_:=Aside0.mk (below_step (by repeat (first|(with_reducible first|exact HB.out|apply below_alloc|apply pw_below_drewN|apply below_drew1|refine below_set ?_ GE131.out|refine below_set ?_ GE139.out)|exact HB.out)) hb);clear BK131 BK139 HB;have BK131:=n0_;have BK139:=n1_;have HB:=n2_;clear n0_ n1_ n2_;(try clear hb);(try clear hb2);(try clear hk);(try clear hi);have hcz17_0:w16.cell? ⟨gb139,0,none⟩=some (.int .i64 t132):=(blk_cell BK139.out 0).trans rfl;have hcz17_1:w16.cell? ⟨gb139,1,none⟩=some (.int .i64 t133):=(blk_cell BK139.out 1).trans rfl;have hcz17_2:w16.cell? ⟨gb139,2,none⟩=some (.int .i64 t134):=(blk_cell BK139.out 2).trans rfl;have hcz17_3:w16.cell? ⟨gb139,3,none⟩=some (.int .i64 t135):=(blk_cell BK139.out 3).trans rfl;have hcz17_4:w16.cell? ⟨gb139,4,none⟩=some (.int .i64 t136):=(blk_cell BK139.out 4).trans rfl;have hcz17_5:w16.cell? ⟨gb139,5,none⟩=some (.int .i64 t137):=(blk_cell BK139.out 5).trans rfl;have hfz17_0:=blk_frozen BK139.out 0;have hfz17_1:=blk_frozen BK139.out 1;have hfz17_2:=blk_frozen BK139.out 2;have hfz17_3:=blk_frozen BK139.out 3;have hfz17_4:=blk_frozen BK139.out 4;have hfz17_5:=blk_frozen BK139.out 5))
     go_ret
     exact ⟨by first|rfl|(simp [errW_none,errW_some] <;> rfl)|(simp [*,errW_none,errW_some] <;> rfl),by repeat (first|(with_reducible first|exact HB.out|apply below_alloc|apply pw_below_drewN|apply below_drew1|refine below_set ?_ GE131.out|refine below_set ?_ GE139.out)|exact HB.out)⟩
    ·rw [if_neg c7] at H
     have c7b0:(t140 == 3)=false:=beq_eq_false_iff_ne.mpr c7
     have c7b1:(t140 != 3)=true:=bne_iff_ne.mpr c7
     obtain rfl:=Option.some.inj H
     go_enter Try.func10,Try.ntmps10
     go_wp2_with (first|((with_reducible refine gate_callee (f:=11) rfl ?_);refine goesL_ (some 6) rfl rfl Try.func11 (by kernel_rfl) rfl #[.int .i64 300,.int .i64 16] rfl (by (try simp only [List.map_toArray,List.map_cons,List.map_nil]);first|done|rfl|(simp only [List.length_drop,List.length_take];rfl)) ?_;(with_reducible refine (layout_Plan.calls k 300 16 t128 t129 t130 _ A1.out).mono ?_);rintro e w18 ⟨rfl,hb⟩;refine ⟨_,rfl,?_⟩;have n0_:=Aside0.mk (below_step (by repeat (first|(with_reducible first|exact HB.out|apply below_alloc|apply pw_below_drewN|apply below_drew1)|exact HB.out)) hb);clear HB;have HB:=n0_;clear n0_;(try clear hb);(try clear hb2);(try clear hk);(try clear hi))|((with_reducible refine gate_dst (N:=1) rfl ?_);refine box_event ?hg (N:=1) ?hd (cs:=#[.int .i64 0,.int .i64 0]) (t:=24) ?hr ?_;(case hd=>rfl);(case hg=>rfl);(case hr=>first|(go_simp;done)|(go_simp;rfl));intro gb131 hg w19 hbox hb;have n0_:=Aside0.mk (below_step (by repeat (first|(with_reducible first|exact HB.out|apply below_alloc|apply pw_below_drewN|apply below_drew1)|exact HB.out)) hb);have n1_:=Aside0.mk (hbox);have n2_:=Aside0.mk ((by rw [hg];exact (below_size (by repeat (first|(with_reducible first|exact HB.out|apply below_alloc|apply pw_below_drewN|apply below_drew1)|exact HB.out))):w.heap.size≤gb131));have n3_:=Aside0.mk ((by rw [hg];exact (below_size (by repeat (first|(with_reducible first|exact HB.out|apply below_alloc|apply pw_below_drewN|apply below_drew1)|exact HB.out))):w.heap.size≤gb131));clear HB;have HB:=n0_;have BK131:=n1_;have GW131:=n2_;have GE131:=n3_;clear n0_ n1_ n2_ n3_;clear hb hbox hg;have hcz20_0:w19.cell? ⟨gb131,0,none⟩=some (.int .i64 0):=(blk_cell BK131.out 0).trans rfl;have hcz20_1:w19.cell? ⟨gb131,1,none⟩=some (.int .i64 0):=(blk_cell BK131.out 1).trans rfl;have hfz20_0:=blk_frozen BK131.out 0;have hfz20_1:=blk_frozen BK131.out 1)|((with_reducible refine gate_callee (f:=13) rfl ?_);refine goesL_ (some 11) rfl rfl Try.func13 (by kernel_rfl) rfl #[.agg #[.int .i64 t128,.int .i64 t129],.int .i64 0] rfl (by (try simp only [List.map_toArray,List.map_cons,List.map_nil]);first|done|rfl|(simp only [List.length_drop,List.length_take];rfl)) ?_;(with_reducible refine (layout_Group.calls k t128 t129 0 t132 t133 t134 t135 t136 t137 t138 _ A2.out).mono ?_);rintro e w21 ⟨rfl,hb⟩;refine ⟨_,rfl,?_⟩;have n0_:=Aside0.mk (blk_below (g:=gb131) (o:=.cells #[.int .i64 t128,.int .i64 t129] 24 (0,0)) (by (with_reducible repeat (first|refine blk_drewN ?_ _|refine blk_drew ?_|refine blk_alloc ?_ _));refine blk_put (cs:=#[.int .i64 t128,.int .i64 0]) ?_ 1 _ rfl;(with_reducible repeat (first|refine blk_drewN ?_ _|refine blk_drew ?_|refine blk_alloc ?_ _));refine blk_put (cs:=#[.int .i64 0,.int .i64 0]) ?_ 0 _ rfl;(with_reducible repeat (first|refine blk_drewN ?_ _|refine blk_drew ?_|refine blk_alloc ?_ _));exact BK131.out) hb);have n1_:=Aside0.mk (below_step (by repeat (first|(with_reducible first|exact HB.out|apply below_alloc|apply pw_below_drewN|apply below_drew1|refine below_set ?_ GE131.out)|exact HB.out)) hb);clear BK131 HB;have BK131:=n0_;have HB:=n1_;clear n0_ n1_;(try clear hb);(try clear hb2);(try clear hk);(try clear hi))|((with_reducible refine gate_dst (N:=3) rfl ?_);refine box_event ?hg (N:=3) ?hd (cs:=#[.int .i64 0,.int .i64 0,.int .i64 0,.int .i64 0,.int .i64 0,.int .i64 0]) (t:=30) ?hr ?_;(case hd=>rfl);(case hg=>rfl);(case hr=>first|(go_simp;done)|(go_simp;rfl));intro gb139 hg w22 hbox hb;have n0_:=Aside0.mk (blk_below (g:=gb131) (o:=.cells #[.int .i64 t128,.int .i64 t129] 24 (0,0)) (by (with_reducible repeat (first|refine blk_drewN ?_ _|refine blk_drew ?_|refine blk_alloc ?_ _));exact BK131.out) hb);have n1_:=Aside0.mk (below_step (by repeat (first|(with_reducible first|exact HB.out|apply below_alloc|apply pw_below_drewN|apply below_drew1|refine below_set ?_ GE131.out)|exact HB.out)) hb);have n2_:=Aside0.mk (hbox);have n3_:=Aside0.mk ((by rw [hg];exact (below_size (by repeat (first|(with_reducible first|exact HB.out|apply below_alloc|apply pw_below_drewN|apply below_drew1|refine below_set ?_ GE131.out)|exact HB.out))):w.heap.size≤gb139));have n4_:=Aside0.mk ((by rw [hg];exact (below_size (by repeat (first|(with_reducible first|exact HB.out|apply below_alloc|apply pw_below_drewN|apply below_drew1|refine below_set ?_ GE131.out)|exact HB.out))):w.heap.size≤gb139));have n5_:=Aside0.mk ((by rw [hg];exact Nat.ne_of_lt (blk_lt (g:=gb131) (o:=.cells #[.int .i64 t128,.int .i64 t129] 24 (0,0)) (by (with_reducible repeat (first|refine blk_drewN ?_ _|refine blk_drew ?_|refine blk_alloc ?_ _));exact BK131.out)):gb131≠gb139));have n6_:=Aside0.mk ((by rw [hg];exact Nat.ne_of_gt (blk_lt (g:=gb131) (o:=.cells #[.int .i64 t128,.int .i64 t129] 24 (0,0)) (by (with_reducible repeat (first|refine blk_drewN ?_ _|refine blk_drew ?_|refine blk_alloc ?_ _));exact BK131.out)):gb139≠gb131));clear BK131 HB;have BK131:=n0_;have HB:=n1_;have BK139:=n2_;have GW139:=n3_;have GE139:=n4_;have NB131_139:=n5_;have NB139_131:=n6_;clear n0_ n1_ n2_ n3_ n4_ n5_ n6_;clear hb hbox hg;have hnb23:=NB139_131.out;have hnc23:=NB131_139.out;have hcz24_0:w22.cell? ⟨gb139,0,none⟩=some (.int .i64 0):=(blk_cell BK139.out 0).trans rfl;have hcz24_1:w22.cell? ⟨gb139,1,none⟩=some (.int .i64 0):=(blk_cell BK139.out 1).trans rfl;have hcz24_2:w22.cell? ⟨gb139,2,none⟩=some (.int .i64 0):=(blk_cell BK139.out 2).trans rfl;have hcz24_3:w22.cell? ⟨gb139,3,none⟩=some (.int .i64 0):=(blk_cell BK139.out 3).trans rfl;have hcz24_4:w22.cell? ⟨gb139,4,none⟩=some (.int .i64 0):=(blk_cell BK139.out 4).trans rfl;have hcz24_5:w22.cell? ⟨gb139,5,none⟩=some (.int .i64 0):=(blk_cell BK139.out 5).trans rfl;have hfz24_0:=blk_frozen BK139.out 0;have hfz24_1:=blk_frozen BK139.out 1;have hfz24_2:=blk_frozen BK139.out 2;have hfz24_3:=blk_frozen BK139.out 3;have hfz24_4:=blk_frozen BK139.out 4;have hfz24_5:=blk_frozen BK139.out 5;have hcz25_0:w22.cell? ⟨gb131,0,none⟩=some (.int .i64 t128):=(blk_cell BK131.out 0).trans rfl;have hcz25_1:w22.cell? ⟨gb131,1,none⟩=some (.int .i64 t129):=(blk_cell BK131.out 1).trans rfl;have hfz25_0:=blk_frozen BK131.out 0;have hfz25_1:=blk_frozen BK131.out 1)|(go_at_call 17;(with_reducible refine (layout_Groups.calls k t128 t129 t140 _ A6.out).mono ?_);rintro e w26 ⟨rfl,hb⟩;have n0_:=Aside0.mk (blk_below (g:=gb131) (o:=.cells #[.int .i64 t128,.int .i64 t129] 24 (0,0)) (by (with_reducible repeat (first|refine blk_drewN ?_ _|refine blk_drew ?_|refine blk_alloc ?_ _));refine blk_far ?_ NB131_139.out _;(with_reducible repeat (first|refine blk_drewN ?_ _|refine blk_drew ?_|refine blk_alloc ?_ _));refine blk_far ?_ NB131_139.out _;(with_reducible repeat (first|refine blk_drewN ?_ _|refine blk_drew ?_|refine blk_alloc ?_ _));refine blk_far ?_ NB131_139.out _;(with_reducible repeat (first|refine blk_drewN ?_ _|refine blk_drew ?_|refine blk_alloc ?_ _));refine blk_far ?_ NB131_139.out _;(with_reducible repeat (first|refine blk_drewN ?_ _|refine blk_drew ?_|refine blk_alloc ?_ _));refine blk_far ?_ NB131_139.out _;(with_reducible repeat (first|refine blk_drewN ?_ _|refine blk_drew ?_|refine blk_alloc ?_ _));refine blk_far ?_ NB131_139.out _;(with_reducible repeat (first|refine blk_drewN ?_ _|refine blk_drew ?_|refine blk_alloc ?_ _));exact BK131.out) hb);have n1_:=Aside0.mk (blk_below (g:=gb139) (o:=.cells #[.int .i64 t132,.int .i64 t133,.int .i64 t134,.int .i64 t135,.int .i64 t136,.int .i64 t137] 30 (0,0)) (by (with_reducible repeat (first|refine blk_drewN ?_ _|refine blk_drew ?_|refine blk_alloc ?_ _));refine blk_put (cs:=#[.int .i64 t132,.int .i64 t133,.int .i64 t134,.int .i64 t135,.int .i64 t136,.int .i64 0]) ?_ 5 _ rfl;(with_reducible repeat (first|refine blk_drewN ?_ _|refine blk_drew ?_|refine blk_alloc ?_ _));refine blk_put (cs:=#[.int .i64 t132,.int .i64 t133,.int .i64 t134,.int .i64 t135,.int .i64 0,.int .i64 0]) ?_ 4 _ rfl;(with_reducible repeat (first|refine blk_drewN ?_ _|refine blk_drew ?_|refine blk_alloc ?_ _));refine blk_put (cs:=#[.int .i64 t132,.int .i64 t133,.int .i64 t134,.int .i64 0,.int .i64 0,.int .i64 0]) ?_ 3 _ rfl;(with_reducible repeat (first|refine blk_drewN ?_ _|refine blk_drew ?_|refine blk_alloc ?_ _));refine blk_put (cs:=#[.int .i64 t132,.int .i64 t133,.int .i64 0,.int .i64 0,.int .i64 0,.int .i64 0]) ?_ 2 _ rfl;(with_reducible repeat (first|refine blk_drewN ?_ _|refine blk_drew ?_|refine blk_alloc ?_ _));refine blk_put (cs:=#[.int .i64 t132,.int .i64 0,.int .i64 0,.int .i64 0,.int .i64 0,.int .i64 0]) ?_ 1 _ rfl;(with_reducible repeat (first|refine blk_drewN ?_ _|refine blk_drew ?_|refine blk_alloc ?_ _));refine blk_put (cs:=#[.int .i64 0,.int .i64 0,.int .i64 0,.int .i64 0,.int .i64 0,.int .i64 0]) ?_ 0 _ rfl;(with_reducible repeat (first|refine blk_drewN ?_ _|refine blk_drew ?_|refine blk_alloc ?_ _));exact BK139.out) hb);have n2_:=Aside0.mk (below_step (by repeat (first|(with_reducible first|exact HB.out|apply below_alloc|apply pw_below_drewN|apply below_drew1|refine below_set ?_ GE131.out|refine below_set ?_ GE139.out)|exact HB.out)) hb);clear BK131 BK139 HB;have BK131:=n0_;have BK139:=n1_;have HB:=n2_;clear n0_ n1_ n2_;(try clear hb);(try clear hb2);(try clear hk);(try clear hi)))
     go_ret
     exact ⟨by first|rfl|(simp [errW_none,errW_some] <;> rfl)|(simp [*,errW_none,errW_some] <;> rfl),by repeat (first|(with_reducible first|exact HB.out|apply below_alloc|apply pw_below_drewN|apply below_drew1|refine below_set ?_ GE131.out|refine below_set ?_ GE139.out)|exact HB.out)⟩
   ·rw [if_neg c5] at H
    have c5b0:(t128 == 300)=false:=beq_eq_false_iff_ne.mpr c5
    have c5b1:(t128 != 300)=true:=bne_iff_ne.mpr c5
    obtain rfl:=Option.some.inj H
    go_enter Try.func10,Try.ntmps10
    go_wp2_with (first|((with_reducible refine gate_callee (f:=11) rfl ?_);refine goesL_ (some 6) rfl rfl Try.func11 (by kernel_rfl) rfl #[.int .i64 300,.int .i64 16] rfl (by (try simp only [List.map_toArray,List.map_cons,List.map_nil]);first|done|rfl|(simp only [List.length_drop,List.length_take];rfl)) ?_;(with_reducible refine (layout_Plan.calls k 300 16 t128 t129 t130 _ A1.out).mono ?_);rintro e w27 ⟨rfl,hb⟩;refine ⟨_,rfl,?_⟩;have n0_:=Aside0.mk (below_step (by repeat (first|(with_reducible first|exact HB.out|apply below_alloc|apply pw_below_drewN|apply below_drew1)|exact HB.out)) hb);clear HB;have HB:=n0_;clear n0_;(try clear hb);(try clear hb2);(try clear hk);(try clear hi))|((with_reducible refine gate_dst (N:=1) rfl ?_);refine box_event ?hg (N:=1) ?hd (cs:=#[.int .i64 0,.int .i64 0]) (t:=24) ?hr ?_;(case hd=>rfl);(case hg=>rfl);(case hr=>first|(go_simp;done)|(go_simp;rfl));intro gb131 hg w28 hbox hb;have n0_:=Aside0.mk (below_step (by repeat (first|(with_reducible first|exact HB.out|apply below_alloc|apply pw_below_drewN|apply below_drew1)|exact HB.out)) hb);have n1_:=Aside0.mk (hbox);have n2_:=Aside0.mk ((by rw [hg];exact (below_size (by repeat (first|(with_reducible first|exact HB.out|apply below_alloc|apply pw_below_drewN|apply below_drew1)|exact HB.out))):w.heap.size≤gb131));have n3_:=Aside0.mk ((by rw [hg];exact (below_size (by repeat (first|(with_reducible first|exact HB.out|apply below_alloc|apply pw_below_drewN|apply below_drew1)|exact HB.out))):w.heap.size≤gb131));clear HB;have HB:=n0_;have BK131:=n1_;have GW131:=n2_;have GE131:=n3_;clear n0_ n1_ n2_ n3_;clear hb hbox hg;have hcz29_0:w28.cell? ⟨gb131,0,none⟩=some (.int .i64 0):=(blk_cell BK131.out 0).trans rfl;have hcz29_1:w28.cell? ⟨gb131,1,none⟩=some (.int .i64 0):=(blk_cell BK131.out 1).trans rfl;have hfz29_0:=blk_frozen BK131.out 0;have hfz29_1:=blk_frozen BK131.out 1)|((with_reducible refine gate_callee (f:=13) rfl ?_);refine goesL_ (some 11) rfl rfl Try.func13 (by kernel_rfl) rfl #[.agg #[.int .i64 t128,.int .i64 t129],.int .i64 0] rfl (by (try simp only [List.map_toArray,List.map_cons,List.map_nil]);first|done|rfl|(simp only [List.length_drop,List.length_take];rfl)) ?_;(with_reducible refine (layout_Group.calls k t128 t129 0 t132 t133 t134 t135 t136 t137 t138 _ A2.out).mono ?_);rintro e w30 ⟨rfl,hb⟩;refine ⟨_,rfl,?_⟩;have n0_:=Aside0.mk (blk_below (g:=gb131) (o:=.cells #[.int .i64 t128,.int .i64 t129] 24 (0,0)) (by (with_reducible repeat (first|refine blk_drewN ?_ _|refine blk_drew ?_|refine blk_alloc ?_ _));refine blk_put (cs:=#[.int .i64 t128,.int .i64 0]) ?_ 1 _ rfl;(with_reducible repeat (first|refine blk_drewN ?_ _|refine blk_drew ?_|refine blk_alloc ?_ _));refine blk_put (cs:=#[.int .i64 0,.int .i64 0]) ?_ 0 _ rfl;(with_reducible repeat (first|refine blk_drewN ?_ _|refine blk_drew ?_|refine blk_alloc ?_ _));exact BK131.out) hb);have n1_:=Aside0.mk (below_step (by repeat (first|(with_reducible first|exact HB.out|apply below_alloc|apply pw_below_drewN|apply below_drew1|refine below_set ?_ GE131.out)|exact HB.out)) hb);clear BK131 HB;have BK131:=n0_;have HB:=n1_;clear n0_ n1_;(try clear hb);(try clear hb2);(try clear hk);(try clear hi))|((with_reducible refine gate_dst (N:=3) rfl ?_);refine box_event ?hg (N:=3) ?hd (cs:=#[.int .i64 0,.int .i64 0,.int .i64 0,.int .i64 0,.int .i64 0,.int .i64 0]) (t:=30) ?hr ?_;(case hd=>rfl);(case hg=>rfl);(case hr=>first|(go_simp;done)|(go_simp;rfl));intro gb139 hg w31 hbox hb;have n0_:=Aside0.mk (blk_below (g:=gb131) (o:=.cells #[.int .i64 t128,.int .i64 t129] 24 (0,0)) (by (with_reducible repeat (first|refine blk_drewN ?_ _|refine blk_drew ?_|refine blk_alloc ?_ _));exact BK131.out) hb);have n1_:=Aside0.mk (below_step (by repeat (first|(with_reducible first|exact HB.out|apply below_alloc|apply pw_below_drewN|apply below_drew1|refine below_set ?_ GE131.out)|exact HB.out)) hb);have n2_:=Aside0.mk (hbox);have n3_:=Aside0.mk ((by rw [hg];exact (below_size (by repeat (first|(with_reducible first|exact HB.out|apply below_alloc|apply pw_below_drewN|apply below_drew1|refine below_set ?_ GE131.out)|exact HB.out))):w.heap.size≤gb139));have n4_:=Aside0.mk ((by rw [hg];exact (below_size (by repeat (first|(with_reducible first|exact HB.out|apply below_alloc|apply pw_below_drewN|apply below_drew1|refine below_set ?_ GE131.out)|exact HB.out))):w.heap.size≤gb139));have n5_:=Aside0.mk ((by rw [hg];exact Nat.ne_of_lt (blk_lt (g:=gb131) (o:=.cells #[.int .i64 t128,.int .i64 t129] 24 (0,0)) (by (with_reducible repeat (first|refine blk_drewN ?_ _|refine blk_drew ?_|refine blk_alloc ?_ _));exact BK131.out)):gb131≠gb139));have n6_:=Aside0.mk ((by rw [hg];exact Nat.ne_of_gt (blk_lt (g:=gb131) (o:=.cells #[.int .i64 t128,.int .i64 t129] 24 (0,0)) (by (with_reducible repeat (first|refine blk_drewN ?_ _|refine blk_drew ?_|refine blk_alloc ?_ _));exact BK131.out)):gb139≠gb131));clear BK131 HB;have BK131:=n0_;have HB:=n1_;have BK139:=n2_;have GW139:=n3_;have GE139:=n4_;have NB131_139:=n5_;have NB139_131:=n6_;clear n0_ n1_ n2_ n3_ n4_ n5_ n6_;clear hb hbox hg;have hnb32:=NB139_131.out;have hnc32:=NB131_139.out;have hcz33_0:w31.cell? ⟨gb139,0,none⟩=some (.int .i64 0):=(blk_cell BK139.out 0).trans rfl;have hcz33_1:w31.cell? ⟨gb139,1,none⟩=some (.int .i64 0):=(blk_cell BK139.out 1).trans rfl;have hcz33_2:w31.cell? ⟨gb139,2,none⟩=some (.int .i64 0):=(blk_cell BK139.out 2).trans rfl;have hcz33_3:w31.cell? ⟨gb139,3,none⟩=some (.int .i64 0):=(blk_cell BK139.out 3).trans rfl;have hcz33_4:w31.cell? ⟨gb139,4,none⟩=some (.int .i64 0):=(blk_cell BK139.out 4).trans rfl;have hcz33_5:w31.cell? ⟨gb139,5,none⟩=some (.int .i64 0):=(blk_cell BK139.out 5).trans rfl;have hfz33_0:=blk_frozen BK139.out 0;have hfz33_1:=blk_frozen BK139.out 1;have hfz33_2:=blk_frozen BK139.out 2;have hfz33_3:=blk_frozen BK139.out 3;have hfz33_4:=blk_frozen BK139.out 4;have hfz33_5:=blk_frozen BK139.out 5;have hcz34_0:w31.cell? ⟨gb131,0,none⟩=some (.int .i64 t128):=(blk_cell BK131.out 0).trans rfl;have hcz34_1:w31.cell? ⟨gb131,1,none⟩=some (.int .i64 t129):=(blk_cell BK131.out 1).trans rfl;have hfz34_0:=blk_frozen BK131.out 0;have hfz34_1:=blk_frozen BK131.out 1))
    go_ret
    exact ⟨by first|rfl|(simp [errW_none,errW_some] <;> rfl)|(simp [*,errW_none,errW_some] <;> rfl),by repeat (first|(with_reducible first|exact HB.out|apply below_alloc|apply pw_below_drewN|apply below_drew1|refine below_set ?_ GE131.out|refine below_set ?_ GE139.out)|exact HB.out)⟩
  ·rw [if_neg c4] at H
   have c4b0:(t138 == 0)=false:=beq_eq_false_iff_ne.mpr c4
   have c4b1:(t138 != 0)=true:=bne_iff_ne.mpr c4
   obtain rfl:=Option.some.inj H
   go_enter Try.func10,Try.ntmps10
   go_wp2_with (first|((with_reducible refine gate_callee (f:=11) rfl ?_);refine goesL_ (some 6) rfl rfl Try.func11 (by kernel_rfl) rfl #[.int .i64 300,.int .i64 16] rfl (by (try simp only [List.map_toArray,List.map_cons,List.map_nil]);first|done|rfl|(simp only [List.length_drop,List.length_take];rfl)) ?_;(with_reducible refine (layout_Plan.calls k 300 16 t128 t129 t130 _ A1.out).mono ?_);rintro e w35 ⟨rfl,hb⟩;refine ⟨_,rfl,?_⟩;have n0_:=Aside0.mk (below_step (by repeat (first|(with_reducible first|exact HB.out|apply below_alloc|apply pw_below_drewN|apply below_drew1)|exact HB.out)) hb);clear HB;have HB:=n0_;clear n0_;(try clear hb);(try clear hb2);(try clear hk);(try clear hi))|((with_reducible refine gate_dst (N:=1) rfl ?_);refine box_event ?hg (N:=1) ?hd (cs:=#[.int .i64 0,.int .i64 0]) (t:=24) ?hr ?_;(case hd=>rfl);(case hg=>rfl);(case hr=>first|(go_simp;done)|(go_simp;rfl));intro gb131 hg w36 hbox hb;have n0_:=Aside0.mk (below_step (by repeat (first|(with_reducible first|exact HB.out|apply below_alloc|apply pw_below_drewN|apply below_drew1)|exact HB.out)) hb);have n1_:=Aside0.mk (hbox);have n2_:=Aside0.mk ((by rw [hg];exact (below_size (by repeat (first|(with_reducible first|exact HB.out|apply below_alloc|apply pw_below_drewN|apply below_drew1)|exact HB.out))):w.heap.size≤gb131));have n3_:=Aside0.mk ((by rw [hg];exact (below_size (by repeat (first|(with_reducible first|exact HB.out|apply below_alloc|apply pw_below_drewN|apply below_drew1)|exact HB.out))):w.heap.size≤gb131));clear HB;have HB:=n0_;have BK131:=n1_;have GW131:=n2_;have GE131:=n3_;clear n0_ n1_ n2_ n3_;clear hb hbox hg;have hcz37_0:w36.cell? ⟨gb131,0,none⟩=some (.int .i64 0):=(blk_cell BK131.out 0).trans rfl;have hcz37_1:w36.cell? ⟨gb131,1,none⟩=some (.int .i64 0):=(blk_cell BK131.out 1).trans rfl;have hfz37_0:=blk_frozen BK131.out 0;have hfz37_1:=blk_frozen BK131.out 1)|((with_reducible refine gate_callee (f:=13) rfl ?_);refine goesL_ (some 11) rfl rfl Try.func13 (by kernel_rfl) rfl #[.agg #[.int .i64 t128,.int .i64 t129],.int .i64 0] rfl (by (try simp only [List.map_toArray,List.map_cons,List.map_nil]);first|done|rfl|(simp only [List.length_drop,List.length_take];rfl)) ?_;(with_reducible refine (layout_Group.calls k t128 t129 0 t132 t133 t134 t135 t136 t137 t138 _ A2.out).mono ?_);rintro e w38 ⟨rfl,hb⟩;refine ⟨_,rfl,?_⟩;have n0_:=Aside0.mk (blk_below (g:=gb131) (o:=.cells #[.int .i64 t128,.int .i64 t129] 24 (0,0)) (by (with_reducible repeat (first|refine blk_drewN ?_ _|refine blk_drew ?_|refine blk_alloc ?_ _));refine blk_put (cs:=#[.int .i64 t128,.int .i64 0]) ?_ 1 _ rfl;(with_reducible repeat (first|refine blk_drewN ?_ _|refine blk_drew ?_|refine blk_alloc ?_ _));refine blk_put (cs:=#[.int .i64 0,.int .i64 0]) ?_ 0 _ rfl;(with_reducible repeat (first|refine blk_drewN ?_ _|refine blk_drew ?_|refine blk_alloc ?_ _));exact BK131.out) hb);have n1_:=Aside0.mk (below_step (by repeat (first|(with_reducible first|exact HB.out|apply below_alloc|apply pw_below_drewN|apply below_drew1|refine below_set ?_ GE131.out)|exact HB.out)) hb);clear BK131 HB;have BK131:=n0_;have HB:=n1_;clear n0_ n1_;(try clear hb);(try clear hb2);(try clear hk);(try clear hi))|((with_reducible refine gate_dst (N:=3) rfl ?_);refine box_event ?hg (N:=3) ?hd (cs:=#[.int .i64 0,.int .i64 0,.int .i64 0,.int .i64 0,.int .i64 0,.int .i64 0]) (t:=30) ?hr ?_;(case hd=>rfl);(case hg=>rfl);(case hr=>first|(go_simp;done)|(go_simp;rfl));intro gb139 hg w39 hbox hb;have n0_:=Aside0.mk (blk_below (g:=gb131) (o:=.cells #[.int .i64 t128,.int .i64 t129] 24 (0,0)) (by (with_reducible repeat (first|refine blk_drewN ?_ _|refine blk_drew ?_|refine blk_alloc ?_ _));exact BK131.out) hb);have n1_:=Aside0.mk (below_step (by repeat (first|(with_reducible first|exact HB.out|apply below_alloc|apply pw_below_drewN|apply below_drew1|refine below_set ?_ GE131.out)|exact HB.out)) hb);have n2_:=Aside0.mk (hbox);have n3_:=Aside0.mk ((by rw [hg];exact (below_size (by repeat (first|(with_reducible first|exact HB.out|apply below_alloc|apply pw_below_drewN|apply below_drew1|refine below_set ?_ GE131.out)|exact HB.out))):w.heap.size≤gb139));have n4_:=Aside0.mk ((by rw [hg];exact (below_size (by repeat (first|(with_reducible first|exact HB.out|apply below_alloc|apply pw_below_drewN|apply below_drew1|refine below_set ?_ GE131.out)|exact HB.out))):w.heap.size≤gb139));have n5_:=Aside0.mk ((by rw [hg];exact Nat.ne_of_lt (blk_lt (g:=gb131) (o:=.cells #[.int .i64 t128,.int .i64 t129] 24 (0,0)) (by (with_reducible repeat (first|refine blk_drewN ?_ _|refine blk_drew ?_|refine blk_alloc ?_ _));exact BK131.out)):gb131≠gb139));have n6_:=Aside0.mk ((by rw [hg];exact Nat.ne_of_gt (blk_lt (g:=gb131) (o:=.cells #[.int .i64 t128,.int .i64 t129] 24 (0,0)) (by (with_reducible repeat (first|refine blk_drewN ?_ _|refine blk_drew ?_|refine blk_alloc ?_ _));exact BK131.out)):gb139≠gb131));clear BK131 HB;have BK131:=n0_;have HB:=n1_;have BK139:=n2_;have GW139:=n3_;have GE139:=n4_;have NB131_139:=n5_;have NB139_131:=n6_;clear n0_ n1_ n2_ n3_ n4_ n5_ n6_;clear hb hbox hg;have hnb40:=NB139_131.out;have hnc40:=NB131_139.out;have hcz41_0:w39.cell? ⟨gb139,0,none⟩=some (.int .i64 0):=(blk_cell BK139.out 0).trans rfl;have hcz41_1:w39.cell? ⟨gb139,1,none⟩=some (.int .i64 0):=(blk_cell BK139.out 1).trans rfl;have hcz41_2:w39.cell? ⟨gb139,2,none⟩=some (.int .i64 0):=(blk_cell BK139.out 2).trans rfl;have hcz41_3:w39.cell? ⟨gb139,3,none⟩=some (.int .i64 0):=(blk_cell BK139.out 3).trans rfl;have hcz41_4:w39.cell? ⟨gb139,4,none⟩=some (.int .i64 0):=(blk_cell BK139.out 4).trans rfl;have hcz41_5:w39.cell? ⟨gb139,5,none⟩=some (.int .i64 0):=(blk_cell BK139.out 5).trans rfl;have hfz41_0:=blk_frozen BK139.out 0;have hfz41_1:=blk_frozen BK139.out 1;have hfz41_2:=blk_frozen BK139.out 2;have hfz41_3:=blk_frozen BK139.out 3;have hfz41_4:=blk_frozen BK139.out 4;have hfz41_5:=blk_frozen BK139.out 5))
   go_ret
   exact ⟨by first|rfl|(simp [errW_none,errW_some] <;> rfl)|(simp [*,errW_none,errW_some] <;> rfl),by repeat (first|(with_reducible first|exact HB.out|apply below_alloc|apply pw_below_drewN|apply below_drew1|refine below_set ?_ GE131.out|refine below_set ?_ GE139.out)|exact HB.out)⟩
 ·rw [if_neg c3] at H
  have c3b0:(t130 == 0)=false:=beq_eq_false_iff_ne.mpr c3
  have c3b1:(t130 != 0)=true:=bne_iff_ne.mpr c3
  obtain rfl:=Option.some.inj H
  go_enter Try.func10,Try.ntmps10
  go_wp2_with (first|((with_reducible refine gate_callee (f:=11) rfl ?_);refine goesL_ (some 6) rfl rfl Try.func11 (by kernel_rfl) rfl #[.int .i64 300,.int .i64 16] rfl (by (try simp only [List.map_toArray,List.map_cons,List.map_nil]);first|done|rfl|(simp only [List.length_drop,List.length_take];rfl)) ?_;(with_reducible refine (layout_Plan.calls k 300 16 t128 t129 t130 _ A1.out).mono ?_);rintro e w42 ⟨rfl,hb⟩;refine ⟨_,rfl,?_⟩;have n0_:=Aside0.mk (below_step (by repeat (first|(with_reducible first|exact HB.out|apply below_alloc|apply pw_below_drewN|apply below_drew1)|exact HB.out)) hb);clear HB;have HB:=n0_;clear n0_;(try clear hb);(try clear hb2);(try clear hk);(try clear hi))|((with_reducible refine gate_dst (N:=1) rfl ?_);refine box_event ?hg (N:=1) ?hd (cs:=#[.int .i64 0,.int .i64 0]) (t:=24) ?hr ?_;(case hd=>rfl);(case hg=>rfl);(case hr=>first|(go_simp;done)|(go_simp;rfl));intro gb131 hg w43 hbox hb;have n0_:=Aside0.mk (below_step (by repeat (first|(with_reducible first|exact HB.out|apply below_alloc|apply pw_below_drewN|apply below_drew1)|exact HB.out)) hb);have n1_:=Aside0.mk (hbox);have n2_:=Aside0.mk ((by rw [hg];exact (below_size (by repeat (first|(with_reducible first|exact HB.out|apply below_alloc|apply pw_below_drewN|apply below_drew1)|exact HB.out))):w.heap.size≤gb131));have n3_:=Aside0.mk ((by rw [hg];exact (below_size (by repeat (first|(with_reducible first|exact HB.out|apply below_alloc|apply pw_below_drewN|apply below_drew1)|exact HB.out))):w.heap.size≤gb131));clear HB;have HB:=n0_;have BK131:=n1_;have GW131:=n2_;have GE131:=n3_;clear n0_ n1_ n2_ n3_;clear hb hbox hg;have hcz44_0:w43.cell? ⟨gb131,0,none⟩=some (.int .i64 0):=(blk_cell BK131.out 0).trans rfl;have hcz44_1:w43.cell? ⟨gb131,1,none⟩=some (.int .i64 0):=(blk_cell BK131.out 1).trans rfl;have hfz44_0:=blk_frozen BK131.out 0;have hfz44_1:=blk_frozen BK131.out 1)|((with_reducible refine gate_callee (f:=13) rfl ?_);refine goesL_ (some 11) rfl rfl Try.func13 (by kernel_rfl) rfl #[.agg #[.int .i64 t128,.int .i64 t129],.int .i64 0] rfl (by (try simp only [List.map_toArray,List.map_cons,List.map_nil]);first|done|rfl|(simp only [List.length_drop,List.length_take];rfl)) ?_;(with_reducible refine (layout_Group.calls k t128 t129 0 t132 t133 t134 t135 t136 t137 t138 _ A2.out).mono ?_);rintro e w45 ⟨rfl,hb⟩;refine ⟨_,rfl,?_⟩;have n0_:=Aside0.mk (blk_below (g:=gb131) (o:=.cells #[.int .i64 t128,.int .i64 t129] 24 (0,0)) (by (with_reducible repeat (first|refine blk_drewN ?_ _|refine blk_drew ?_|refine blk_alloc ?_ _));refine blk_put (cs:=#[.int .i64 t128,.int .i64 0]) ?_ 1 _ rfl;(with_reducible repeat (first|refine blk_drewN ?_ _|refine blk_drew ?_|refine blk_alloc ?_ _));refine blk_put (cs:=#[.int .i64 0,.int .i64 0]) ?_ 0 _ rfl;(with_reducible repeat (first|refine blk_drewN ?_ _|refine blk_drew ?_|refine blk_alloc ?_ _));exact BK131.out) hb);have n1_:=Aside0.mk (below_step (by repeat (first|(with_reducible first|exact HB.out|apply below_alloc|apply pw_below_drewN|apply below_drew1|refine below_set ?_ GE131.out)|exact HB.out)) hb);clear BK131 HB;have BK131:=n0_;have HB:=n1_;clear n0_ n1_;(try clear hb);(try clear hb2);(try clear hk);(try clear hi))|((with_reducible refine gate_dst (N:=3) rfl ?_);refine box_event ?hg (N:=3) ?hd (cs:=#[.int .i64 0,.int .i64 0,.int .i64 0,.int .i64 0,.int .i64 0,.int .i64 0]) (t:=30) ?hr ?_;(case hd=>rfl);(case hg=>rfl);(case hr=>first|(go_simp;done)|(go_simp;rfl));intro gb139 hg w46 hbox hb;have n0_:=Aside0.mk (blk_below (g:=gb131) (o:=.cells #[.int .i64 t128,.int .i64 t129] 24 (0,0)) (by (with_reducible repeat (first|refine blk_drewN ?_ _|refine blk_drew ?_|refine blk_alloc ?_ _));exact BK131.out) hb);have n1_:=Aside0.mk (below_step (by repeat (first|(with_reducible first|exact HB.out|apply below_alloc|apply pw_below_drewN|apply below_drew1|refine below_set ?_ GE131.out)|exact HB.out)) hb);have n2_:=Aside0.mk (hbox);have n3_:=Aside0.mk ((by rw [hg];exact (below_size (by repeat (first|(with_reducible first|exact HB.out|apply below_alloc|apply pw_below_drewN|apply below_drew1|refine below_set ?_ GE131.out)|exact HB.out))):w.heap.size≤gb139));have n4_:=Aside0.mk ((by rw [hg];exact (below_size (by repeat (first|(with_reducible first|exact HB.out|apply below_alloc|apply pw_below_drewN|apply below_drew1|refine below_set ?_ GE131.out)|exact HB.out))):w.heap.size≤gb139));have n5_:=Aside0.mk ((by rw [hg];exact Nat.ne_of_lt (blk_lt (g:=gb131) (o:=.cells #[.int .i64 t128,.int .i64 t129] 24 (0,0)) (by (with_reducible repeat (first|refine blk_drewN ?_ _|refine blk_drew ?_|refine blk_alloc ?_ _));exact BK131.out)):gb131≠gb139));have n6_:=Aside0.mk ((by rw [hg];exact Nat.ne_of_gt (blk_lt (g:=gb131) (o:=.cells #[.int .i64 t128,.int .i64 t129] 24 (0,0)) (by (with_reducible repeat (first|refine blk_drewN ?_ _|refine blk_drew ?_|refine blk_alloc ?_ _));exact BK131.out)):gb139≠gb131));clear BK131 HB;have BK131:=n0_;have HB:=n1_;have BK139:=n2_;have GW139:=n3_;have GE139:=n4_;have NB131_139:=n5_;have NB139_131:=n6_;clear n0_ n1_ n2_ n3_ n4_ n5_ n6_;clear hb hbox hg;have hnb47:=NB139_131.out;have hnc47:=NB131_139.out;have hcz48_0:w46.cell? ⟨gb139,0,none⟩=some (.int .i64 0):=(blk_cell BK139.out 0).trans rfl;have hcz48_1:w46.cell? ⟨gb139,1,none⟩=some (.int .i64 0):=(blk_cell BK139.out 1).trans rfl;have hcz48_2:w46.cell? ⟨gb139,2,none⟩=some (.int .i64 0):=(blk_cell BK139.out 2).trans rfl;have hcz48_3:w46.cell? ⟨gb139,3,none⟩=some (.int .i64 0):=(blk_cell BK139.out 3).trans rfl;have hcz48_4:w46.cell? ⟨gb139,4,none⟩=some (.int .i64 0):=(blk_cell BK139.out 4).trans rfl;have hcz48_5:w46.cell? ⟨gb139,5,none⟩=some (.int .i64 0):=(blk_cell BK139.out 5).trans rfl;have hfz48_0:=blk_frozen BK139.out 0;have hfz48_1:=blk_frozen BK139.out 1;have hfz48_2:=blk_frozen BK139.out 2;have hfz48_3:=blk_frozen BK139.out 3;have hfz48_4:=blk_frozen BK139.out 4;have hfz48_5:=blk_frozen BK139.out 5))
  go_ret
  exact ⟨by first|rfl|(simp [errW_none,errW_some] <;> rfl)|(simp [*,errW_none,errW_some] <;> rfl),by repeat (first|(with_reducible first|exact HB.out|apply below_alloc|apply pw_below_drewN|apply below_drew1|refine below_set ?_ GE131.out|refine below_set ?_ GE139.out)|exact HB.out)⟩
end Go.Proofs.Ytbdnmdmfnopihaa.Print
end
section
namespace Go.Proofs.Ytbdnmdmfnopihaa.Print
open Go.RowKit Go.Proofs.YtbdnmdmfnopihaaW.PrintWords Go.Proofs.YtbdnmdmfnopihaaW.PrintLast Go.Proofs.YtbdnmdmfnopihaaW.PrintMore
attribute [local go_sem] max2_int min2_int max_two min_two max_three min_three max_four min_four   -- for this text's walks alone
attribute [local go_sem ↓] Go.Proofs.Ytbdnmdmfnopihaa.Sem.isSome_setCell
attribute [local go_sem] Go.Instr.field Go.asAgg
set_option linter.unusedVariables false
set_option linter.unusedSimpArgs false
mutual
def layout_EncodeDescs.l0:Nat → List Int → List (S57) → Int → Int → Option (List Int × Int)
 | 0,_,_,_,_=>none
 | k + 1,x4,x13,x14,x15=>if x15 < x14 then (if 0≤x15 then (if x15 < (x13.length:Int) then ((some (([(rd_T57 x13 x15).f0,(rd_T57 x13 x15).f1,(rd_T57 x13 x15).f2]:List Int):List Int)).bind fun y262=>(layout_EncodeDescs.l1 k x4 x15 x13 x14 x15 y262 (y262.length:Int) 0)) else (none)) else (none)) else (some (x4,0))
def layout_EncodeDescs.l1:Nat → List Int → Int → List (S57) → Int → Int → List Int → Int → Int → Option (List Int × Int)
 | 0,_,_,_,_,_,_,_,_=>none
 | k + 1,x4,x5,x13,x14,x15,x26,x27,x28=>if x28 < x27 then (if 0≤x28 then (if x28 < (x26.length:Int) then (if (rd x26 x28) < 0 then (some (([]:List Int),1)) else (if (rd x26 x28) > 65535 then (some (([]:List Int),1)) else (if 0≤(wrap64 ((wrap64 (x5 * 16)) + (wrap64 (2 * x28)))) then (if (wrap64 ((wrap64 (x5 * 16)) + (wrap64 (2 * x28)))) < (x4.length:Int) then (if 0≤(wrap64 ((wrap64 ((wrap64 (x5 * 16)) + (wrap64 (2 * x28)))) + 1)) then (if (wrap64 ((wrap64 ((wrap64 (x5 * 16)) + (wrap64 (2 * x28)))) + 1)) < (x4.length:Int) then (layout_EncodeDescs.l1 k ((x4.set ((wrap64 ((wrap64 (x5 * 16)) + (wrap64 (2 * x28)))):Int).toNat (((rd x26 x28) / 256) % 256)).set ((wrap64 ((wrap64 ((wrap64 (x5 * 16)) + (wrap64 (2 * x28)))) + 1)):Int).toNat ((rd x26 x28) % 256)) x5 x13 x14 x15 x26 x27 (wrap64 (x28 + 1))) else (none)) else (none)) else (none)) else (none)))) else (none)) else (none)) else (layout_EncodeDescs.l0 k x4 x13 x14 (wrap64 (x15 + 1)))
end
def layout_EncodeDescs.f (k:Nat) (l0:List (S57)):Option (List Int × Int):=if (l0.length:Int) > 16 then (some (([]:List Int),1)) else (if 256≤281474976710656 then (layout_EncodeDescs.l0 k (List.replicate 256 0) l0 (l0.length:Int) 0) else (none))
set_option maxHeartbeats 8000000 in
set_option maxRecDepth 100000 in
theorem layout_EncodeDescs.calls (k:Nat) (A0:Option Addr) (c0:Nat) (l0:List (S57)) (r1:List Int) (r2:Int) (w:World) (hr0:Kd.C k57 w A0 l0.length l0) (hc0:l0.length≤c0) (h:layout_EncodeDescs.f k l0=some (r1,r2)) :
  Calls Try.prog 29 #[.slice A0 l0.length c0] w fun e w'=>∃ v0_:Value,e=.returned (.tuple #[v0_,.int .i64 r2])∧Kd.R (Kd.int .u8) 5 w' w.heap.size (fun _=>True) v0_ r1∧Below w.heap.size w w':=by
 have hu57:=Try.underlying57
 have HR0:=Aside0.mk hr0
 have HC0:=Aside0.mk hc0
 clear hr0 hc0
 have HB:=Aside0.mk (Below.refl w.heap.size w)
 have H:(if (l0.length:Int) > 16 then (some (([]:List Int),1)) else (if 256≤281474976710656 then (layout_EncodeDescs.l0 k (List.replicate 256 0) l0 (l0.length:Int) 0) else (none)))=some (r1,r2):=h
 clear h
 by_cases c2:(l0.length:Int) > 16
 ·rw [if_pos c2] at H
  have c2b0:decide (16 < (l0.length:Int))=true:=decide_eq_true c2
  have c2b1:decide (16 < l0.length)=true:=decide_eq_true (by omega)
  clear c2
  simp only [Option.some.injEq,Prod.mk.injEq] at H
  obtain ⟨rfl,rfl⟩:=H
  go_enter Try.func29,Try.ntmps29
  go_wp2
  go_ret2
  exact ⟨_,by first|rfl|(simp [errW_none,errW_some] <;> rfl)|(simp [*,errW_none,errW_some] <;> rfl),by first|exact Kd.R_nil _ _ _ _ _|exact Kd.N_nil _ _ _ _ _|exact Kd.V_nil _ _ _ _ _|exact Kd.Q_nil _ _ _ _ _|exact Kd.S_nil _ _ _ _ _,by repeat (first|(with_reducible first|exact HB.out|apply below_alloc|apply pw_below_drewN|apply below_drew1)|exact HB.out)⟩
 ·rw [if_neg c2] at H
  have c2b0:decide (16 < (l0.length:Int))=false:=decide_eq_false c2
  have c2b1:decide (16 < l0.length)=false:=decide_eq_false (by omega)
  clear c2
  by_cases c3:256≤281474976710656
  ·rw [if_pos c3] at H
   have c3b0:=eq_true c3
   have c3b1:decide (256≤281474976710656)=true:=decide_eq_true c3
   clear c3
   obtain ⟨y257,hy257⟩:∃ y_:List Int,y_=(List.replicate 256 0):=⟨_,rfl⟩
   replace H:(layout_EncodeDescs.l0 k y257 l0 (l0.length:Int) 0)=some (r1,r2):=by first|(rw [hy257];with_reducible exact H)|(have H2_:=(Option.bind_some _ _).symm.trans H;rw [hy257];with_reducible exact H2_)|(have H2_:=(Option.bind_some _ _).symm.trans H;with_reducible exact H2_)|with_reducible exact H|(rw [hy257];exact H)|exact H
   have Ny257:=Aside0.mk hy257
   clear hy257
   have H':=Aside0.mk H
   clear H
   go_enter Try.func29,Try.ntmps29
   go_wp2_with (first|((with_reducible refine gate_dst (N:=12) rfl ?_);refine Kd.R_make (Kd.int .u8) _ 5 rfl (N:=12) rfl 48 _ _ rfl 256 rfl rfl Try.underlying48 (.int .u8 0) 1 info5 rfl (by decide) (by omega) 0 (ok:=fun _=>True) (okp:=fun _=>True) rfl (fun _ hk=>hk) trivial (by omega) (by omega) (Below.refl _ _) (Nat.le_refl _) ?_;intro v258 w4 ho5 hb hg_ hnew_;clear hg_ hnew_;(first|rw [← Ny257.out] at ho5|(simp only [Int.reduceToNat] at ho5;rw [← Ny257.out] at ho5));have n0_:=Aside0.mk (Kd.R_lower ho5 (below_size (by repeat (first|(with_reducible first|exact HB.out|apply below_alloc|apply pw_below_drewN|apply below_drew1)|exact HB.out))));have n1_:=Aside0.mk (below_step (by repeat (first|(with_reducible first|exact HB.out|apply below_alloc|apply pw_below_drewN|apply below_drew1)|exact HB.out)) hb);clear HB;have HO259:=n0_;have HB:=n1_;clear n0_ n1_;clear hb ho5))
   go_loopg [15] k (fun kq v15 w'=>∃ (x4_1:List Int) (x15_1:Int),v15=.int .i64 x15_1∧Aside0 (layout_EncodeDescs.l0 kq x4_1 l0 (l0.length:Int) x15_1=some (r1,r2))∧Aside0 (kq≤k)∧Aside0 (Kd.R (Kd.int .u8) 5 w' w.heap.size (fun _=>True) v258 x4_1)∧Aside0 (Below w.heap.size w w'))
   case atStart=>exact ⟨(y257),(0),(by first|rfl|(simp;done)|(simp [*];done)),H',⟨Nat.le_refl _⟩,⟨by (with_reducible repeat (first|apply Kd.R_alloc|apply Kd.R_drewN|apply Kd.R_drew));exact HO259.out⟩,⟨by repeat (first|(with_reducible first|exact HB.out|apply below_alloc|apply pw_below_drewN|apply below_drew1)|exact HB.out)⟩⟩
   case round =>
    clear H'
    try clear c2
    try clear c2b0
    try clear c2b1
    try clear p2
    try clear c3
    try clear c3b0
    try clear c3b1
    obtain ⟨x4_1,x15_1,rfl,HA,HK1,HO_4,HB⟩:=hrel
    cases gk with
    | zero=>exact absurd HA.out (by simp [layout_EncodeDescs.l0])
    | succ k1 =>
     have H:=HA.out
     clear HA
     simp only [layout_EncodeDescs.l0] at H
     by_cases c6:x15_1 < (l0.length:Int)
     ·rw [if_pos c6] at H
      have c6b0:decide (x15_1 < (l0.length:Int))=true:=decide_eq_true c6
      clear c6
      by_cases c7:0≤x15_1
      ·rw [if_pos c7] at H
       have c7b0:decide (0≤x15_1)=true:=decide_eq_true c7
       clear c7
       by_cases c8:x15_1 < (l0.length:Int)
       ·rw [if_pos c8] at H
        have c8b0:decide (x15_1 < (l0.length:Int))=true:=decide_eq_true c8
        clear c8
        obtain ⟨y262,hy262⟩:∃ y_:List Int,y_=(([(rd_T57 l0 x15_1).f0,(rd_T57 l0 x15_1).f1,(rd_T57 l0 x15_1).f2]:List Int)):=⟨_,rfl⟩
        replace H:(layout_EncodeDescs.l1 k1 x4_1 x15_1 l0 (l0.length:Int) x15_1 y262 (y262.length:Int) 0)=some (r1,r2):=by first|(rw [hy262];with_reducible exact H)|(have H2_:=(Option.bind_some _ _).symm.trans H;rw [hy262];with_reducible exact H2_)|(have H2_:=(Option.bind_some _ _).symm.trans H;with_reducible exact H2_)|with_reducible exact H|(rw [hy262];exact H)|exact H
        have Ny262:=Aside0.mk hy262
        clear hy262
        have H':=Aside0.mk H
        clear H
        have p260:0≤(x15_1:Int):=of_decide_eq_true (by first|(with_reducible assumption)|assumption)
        have q260:x15_1 < (l0.length:Int):=of_decide_eq_true (by first|(with_reducible assumption)|assumption)
        obtain ⟨ad260,e260,hx260_0,hx260_1,hx260_2⟩:=at_T57 HR0.out x15_1 p260 q260
        cases e260
        replace hx260_0:=(HB.out.cell (World.block_lt_of_cell? w _ hx260_0)).trans hx260_0
        replace hx260_1:=(HB.out.cell (World.block_lt_of_cell? w _ hx260_1)).trans hx260_1
        replace hx260_2:=(HB.out.cell (World.block_lt_of_cell? w _ hx260_2)).trans hx260_2
        replace p260:=eq_true p260
        replace q260:=eq_true q260
        go_wp2_with (first|((with_reducible refine gate_dst (N:=6) rfl ?_);refine box_event ?hg (N:=6) ?hd (cs:=#[.int .i64 0,.int .i64 0,.int .i64 0]) (t:=57) ?hr ?_;(case hd=>rfl);(case hg=>rfl);(case hr=>first|(go_simp;done)|(go_simp;rfl));intro gb261 hg w9 hbox hb;have n0_:=Aside0.mk (Kd.R_below (by (with_reducible repeat (first|apply Kd.R_alloc|apply Kd.R_drewN|apply Kd.R_drew));exact HO_4.out) hb);have n1_:=Aside0.mk (below_step (by repeat (first|(with_reducible first|exact HB.out|apply below_alloc|apply pw_below_drewN|apply below_drew1)|exact HB.out)) hb);have n2_:=Aside0.mk (hbox);have n3_:=Aside0.mk ((by rw [hg];exact (below_size (by repeat (first|(with_reducible first|exact HB.out|apply below_alloc|apply pw_below_drewN|apply below_drew1)|exact HB.out))):w.heap.size≤gb261));have n4_:=Aside0.mk ((by rw [hg];exact (below_size (by repeat (first|(with_reducible first|exact HB.out|apply below_alloc|apply pw_below_drewN|apply below_drew1)|exact HB.out))):w.heap.size≤gb261));clear HO_4 HB;have HO_4:=n0_;have HB:=n1_;have BK261:=n2_;have GW261:=n3_;have GE261:=n4_;clear n0_ n1_ n2_ n3_ n4_;clear hb hbox hg;have hcz10_0:w9.cell? ⟨gb261,0,none⟩=some (.int .i64 0):=(blk_cell BK261.out 0).trans rfl;have hcz10_1:w9.cell? ⟨gb261,1,none⟩=some (.int .i64 0):=(blk_cell BK261.out 1).trans rfl;have hcz10_2:w9.cell? ⟨gb261,2,none⟩=some (.int .i64 0):=(blk_cell BK261.out 2).trans rfl;have hfz10_0:=blk_frozen BK261.out 0;have hfz10_1:=blk_frozen BK261.out 1;have hfz10_2:=blk_frozen BK261.out 2)|((with_reducible refine gate_dst (N:=26) rfl ?_);refine Kd.R_lit (Kd.int .i64) _ 3 ?hg (N:=26) ?hd (xs:=([(rd_T57 l0 x15_1).f0,(rd_T57 l0 x15_1).f1,(rd_T57 l0 x15_1).f2]:List Int)) (inner:=[.int .i64 ((rd_T57 l0 x15_1).f0),.int .i64 ((rd_T57 l0 x15_1).f1),.int .i64 ((rd_T57 l0 x15_1).f2)]) (ok:=fun _=>True) (okp:=fun _=>True) ?hr ?hp (fun _ hk=>hk) trivial (Below.refl _ _) (Nat.le_refl _) (by simp) ?_;(case hd=>rfl);(case hg=>rfl);(case hr=>first|(go_simp;done)|(go_simp;rfl));(case hp=>exact (Reps.one (show Kd.M (Kd.int .i64) _ _ _ ((rd_T57 l0 x15_1).f0) [.int .i64 ((rd_T57 l0 x15_1).f0)] from rfl) (Reps.one (show Kd.M (Kd.int .i64) _ _ _ ((rd_T57 l0 x15_1).f1) [.int .i64 ((rd_T57 l0 x15_1).f1)] from rfl) (Reps.one (show Kd.M (Kd.int .i64) _ _ _ ((rd_T57 l0 x15_1).f2) [.int .i64 ((rd_T57 l0 x15_1).f2)] from rfl) (Reps.none _ _)))));intro v263 w11 ho12 hb hg_ hnew_;clear hg_ hnew_;(first|rw [← Ny262.out] at ho12|(simp only [Int.reduceToNat] at ho12;rw [← Ny262.out] at ho12));have n0_:=Aside0.mk (Kd.R_below (by (with_reducible repeat (first|apply Kd.R_alloc|apply Kd.R_drewN|apply Kd.R_drew));exact (Kd.R_mono (Kd.R_far (p:=⟨gb261,2,none⟩) (Kd.R_far (p:=⟨gb261,1,none⟩) (Kd.R_far (p:=⟨gb261,0,none⟩) (Kd.R_types HO_4.out BK261.out (by decide)) (fun _ hk=>hk.2) (.int .i64 ((rd_T57 l0 x15_1).f0))) (fun _ hk=>hk.2) (.int .i64 ((rd_T57 l0 x15_1).f1))) (fun _ hk=>hk.2) (.int .i64 ((rd_T57 l0 x15_1).f2))) (fun _ h_=>h_.1))) hb);have n1_:=Aside0.mk (Kd.R_lower ho12 (below_size (by repeat (first|(with_reducible first|exact HB.out|apply below_alloc|apply pw_below_drewN|apply below_drew1|refine below_set ?_ GE261.out)|exact HB.out))));have n2_:=Aside0.mk (blk_below (g:=gb261) (o:=.cells #[.int .i64 ((rd_T57 l0 x15_1).f0),.int .i64 ((rd_T57 l0 x15_1).f1),.int .i64 ((rd_T57 l0 x15_1).f2)] 57 (0,0)) (by (with_reducible repeat (first|refine blk_drewN ?_ _|refine blk_drew ?_|refine blk_alloc ?_ _));refine blk_put (cs:=#[.int .i64 ((rd_T57 l0 x15_1).f0),.int .i64 ((rd_T57 l0 x15_1).f1),.int .i64 0]) ?_ 2 _ rfl;(with_reducible repeat (first|refine blk_drewN ?_ _|refine blk_drew ?_|refine blk_alloc ?_ _));refine blk_put (cs:=#[.int .i64 ((rd_T57 l0 x15_1).f0),.int .i64 0,.int .i64 0]) ?_ 1 _ rfl;(with_reducible repeat (first|refine blk_drewN ?_ _|refine blk_drew ?_|refine blk_alloc ?_ _));refine blk_put (cs:=#[.int .i64 0,.int .i64 0,.int .i64 0]) ?_ 0 _ rfl;(with_reducible repeat (first|refine blk_drewN ?_ _|refine blk_drew ?_|refine blk_alloc ?_ _));exact BK261.out) hb);have n3_:=Aside0.mk (below_step (by repeat (first|(with_reducible first|exact HB.out|apply below_alloc|apply pw_below_drewN|apply below_drew1|refine below_set ?_ GE261.out)|exact HB.out)) hb);clear HO_4 BK261 HB;have HO_4:=n0_;have HO264:=n1_;have BK261:=n2_;have HB:=n3_;clear n0_ n1_ n2_ n3_;clear hb ho12;obtain ⟨Ao13,co13,eo13⟩:=Kd.R_slice HO264.out;subst eo13))
        go_loopg [28] k1 (fun kq v28 w'=>∃ (x4_2:List Int) (x28_2:Int),v28=.int .i64 x28_2∧Aside0 (layout_EncodeDescs.l1 kq x4_2 x15_1 l0 (l0.length:Int) x15_1 y262 (y262.length:Int) x28_2=some (r1,r2))∧Aside0 (kq≤k1)∧Aside0 (Kd.R (Kd.int .u8) 5 w' w.heap.size (fun _=>True) v258 x4_2)∧Aside0 (Kd.R (Kd.int .i64) 3 w' w.heap.size (fun _=>True) (.slice Ao13 y262.length co13) y262)∧Aside0 (w'.heap[gb261]?=some (.cells #[.int .i64 ((rd_T57 l0 x15_1).f0),.int .i64 ((rd_T57 l0 x15_1).f1),.int .i64 ((rd_T57 l0 x15_1).f2)] 57 (0,0)))∧Aside0 (Below w.heap.size w w'))
        case atStart=>exact ⟨(x4_1),(0),(by first|rfl|(simp;done)|(simp [*];done)),H',⟨Nat.le_refl _⟩,⟨by (with_reducible repeat (first|apply Kd.R_alloc|apply Kd.R_drewN|apply Kd.R_drew));exact HO_4.out⟩,⟨by (with_reducible repeat (first|apply Kd.R_alloc|apply Kd.R_drewN|apply Kd.R_drew));exact HO264.out⟩,⟨by (with_reducible repeat (first|refine blk_drewN ?_ _|refine blk_drew ?_|refine blk_alloc ?_ _));exact BK261.out⟩,⟨by repeat (first|(with_reducible first|exact HB.out|apply below_alloc|apply pw_below_drewN|apply below_drew1|refine below_set ?_ GE261.out)|exact HB.out)⟩⟩
        case round =>
         clear H'
         try clear c2
         try clear c2b0
         try clear c2b1
         try clear p2
         try clear q2
         try clear hx2
         try clear c3
         try clear c3b0
         try clear c3b1
         try clear c6
         try clear c6b0
         try clear c7
         try clear c7b0
         try clear c8
         try clear c8b0
         try clear hcz10_0
         try clear hcz10_1
         try clear hcz10_2
         try clear hfz10_0
         try clear hfz10_1
         try clear hfz10_2
         try clear hx260_0
         try clear hx260_1
         try clear hx260_2
         try clear p2
         try clear p260
         try clear q260
         obtain ⟨x4_2,x28_2,rfl,HA,HK2,HO_4,HO_26,BK261,HB⟩:=hrel
         cases gk with
         | zero=>exact absurd HA.out (by simp [layout_EncodeDescs.l1])
         | succ k2 =>
          have H:=HA.out
          clear HA
          simp only [layout_EncodeDescs.l1] at H
          by_cases c14:x28_2 < (y262.length:Int)
          ·rw [if_pos c14] at H
           have c14b0:decide (x28_2 < (y262.length:Int))=true:=decide_eq_true c14
           clear c14
           by_cases c15:0≤x28_2
           ·rw [if_pos c15] at H
            have c15b0:decide (0≤x28_2)=true:=decide_eq_true c15
            clear c15
            by_cases c16:x28_2 < (y262.length:Int)
            ·rw [if_pos c16] at H
             have c16b0:decide (x28_2 < (y262.length:Int))=true:=decide_eq_true c16
             clear c16
             by_cases c17:(rd y262 x28_2) < 0
             ·rw [if_pos c17] at H
              have c17b0:decide ((rd y262 x28_2) < 0)=true:=decide_eq_true c17
              clear c17
              simp only [Option.some.injEq,Prod.mk.injEq] at H
              obtain ⟨rfl,rfl⟩:=H
              have p265:0≤(x28_2:Int):=of_decide_eq_true (by first|(with_reducible assumption)|assumption)
              have q265:x28_2 < (y262.length:Int):=of_decide_eq_true (by first|(with_reducible assumption)|assumption)
              obtain ⟨ad265,e265,hx265_0⟩:=Kd.at_int (Kd.R_reads' HO_26.out).2.2 x28_2 p265 q265
              cases e265
              replace p265:=eq_true p265
              replace q265:=eq_true q265
              go_wp2
              go_ret2
              exact ⟨_,by first|rfl|(simp [errW_none,errW_some] <;> rfl)|(simp [*,errW_none,errW_some] <;> rfl),by first|exact Kd.R_nil _ _ _ _ _|exact Kd.N_nil _ _ _ _ _|exact Kd.V_nil _ _ _ _ _|exact Kd.Q_nil _ _ _ _ _|exact Kd.S_nil _ _ _ _ _,by repeat (first|(with_reducible first|exact HB.out|apply below_alloc|apply pw_below_drewN|apply below_drew1|refine below_set ?_ GE261.out)|exact HB.out)⟩
             ·rw [if_neg c17] at H
              have c17b0:decide ((rd y262 x28_2) < 0)=false:=decide_eq_false c17
              clear c17
              by_cases c18:(rd y262 x28_2) > 65535
              ·rw [if_pos c18] at H
               have c18b0:decide (65535 < (rd y262 x28_2))=true:=decide_eq_true c18
               clear c18
               simp only [Option.some.injEq,Prod.mk.injEq] at H
               obtain ⟨rfl,rfl⟩:=H
               have p265:0≤(x28_2:Int):=of_decide_eq_true (by first|(with_reducible assumption)|assumption)
               have q265:x28_2 < (y262.length:Int):=of_decide_eq_true (by first|(with_reducible assumption)|assumption)
               obtain ⟨ad265,e265,hx265_0⟩:=Kd.at_int (Kd.R_reads' HO_26.out).2.2 x28_2 p265 q265
               cases e265
               replace p265:=eq_true p265
               replace q265:=eq_true q265
               go_wp2
               go_ret2
               exact ⟨_,by first|rfl|(simp [errW_none,errW_some] <;> rfl)|(simp [*,errW_none,errW_some] <;> rfl),by first|exact Kd.R_nil _ _ _ _ _|exact Kd.N_nil _ _ _ _ _|exact Kd.V_nil _ _ _ _ _|exact Kd.Q_nil _ _ _ _ _|exact Kd.S_nil _ _ _ _ _,by repeat (first|(with_reducible first|exact HB.out|apply below_alloc|apply pw_below_drewN|apply below_drew1|refine below_set ?_ GE261.out)|exact HB.out)⟩
              ·rw [if_neg c18] at H
               have c18b0:decide (65535 < (rd y262 x28_2))=false:=decide_eq_false c18
               clear c18
               obtain ⟨ji19,hji19⟩:∃ j_:Int,(wrap64 ((wrap64 (x15_1 * 16)) + (wrap64 (2 * x28_2))))=j_:=⟨_,rfl⟩
               replace H:(if 0≤(ji19) then (if (ji19) < (x4_2.length:Int) then (if 0≤(wrap64 ((ji19) + 1)) then (if (wrap64 ((ji19) + 1)) < (x4_2.length:Int) then (layout_EncodeDescs.l1 k2 ((x4_2.set ((ji19):Int).toNat (((rd y262 x28_2) / 256) % 256)).set ((wrap64 ((ji19) + 1)):Int).toNat ((rd y262 x28_2) % 256)) x15_1 l0 (l0.length:Int) x15_1 y262 (y262.length:Int) (wrap64 (x28_2 + 1))) else (none)) else (none)) else (none)) else (none))=some (r1,r2):=by first|(rw [hji19] at H;exact H)|(simp only [hji19] at H ⊢;exact H)
               have hji19w:(IntKind.i64.wrap ((wrap64 (x15_1 * 16)) + (wrap64 (2 * x28_2))))=ji19:=(i64_w _).trans hji19
               by_cases c20:0≤(ji19)
               ·rw [if_pos c20] at H
                have c20b0:decide (0≤(ji19))=true:=decide_eq_true c20
                clear c20
                by_cases c21:(ji19) < (x4_2.length:Int)
                ·rw [if_pos c21] at H
                 have c21b0:decide ((ji19) < (x4_2.length:Int))=true:=decide_eq_true c21
                 clear c21
                 obtain ⟨y266,hy266⟩:∃ y_:List Int,y_=(x4_2.set ((ji19):Int).toNat (((rd y262 x28_2) / 256) % 256)):=⟨_,rfl⟩
                 replace H:(if 0≤(wrap64 ((ji19) + 1)) then (if (wrap64 ((ji19) + 1)) < (x4_2.length:Int) then (layout_EncodeDescs.l1 k2 (y266.set ((wrap64 ((ji19) + 1)):Int).toNat ((rd y262 x28_2) % 256)) x15_1 l0 (l0.length:Int) x15_1 y262 (y262.length:Int) (wrap64 (x28_2 + 1))) else (none)) else (none))=some (r1,r2):=by first|(rw [hy266];with_reducible exact H)|(have H2_:=(Option.bind_some _ _).symm.trans H;rw [hy266];with_reducible exact H2_)|(have H2_:=(Option.bind_some _ _).symm.trans H;with_reducible exact H2_)|with_reducible exact H|(rw [hy266];exact H)|exact H
                 have Ny266:=Aside0.mk hy266
                 clear hy266
                 obtain ⟨ji23,hji23⟩:∃ j_:Int,(wrap64 ((ji19) + 1))=j_:=⟨_,rfl⟩
                 replace H:(if 0≤(ji23) then (if (ji23) < (x4_2.length:Int) then (layout_EncodeDescs.l1 k2 (y266.set ((ji23):Int).toNat ((rd y262 x28_2) % 256)) x15_1 l0 (l0.length:Int) x15_1 y262 (y262.length:Int) (wrap64 (x28_2 + 1))) else (none)) else (none))=some (r1,r2):=by first|(rw [hji23] at H;exact H)|(simp only [hji23] at H ⊢;exact H)
                 have hji23w:(IntKind.i64.wrap ((ji19) + 1))=ji23:=(i64_w _).trans hji23
                 by_cases c24:0≤(ji23)
                 ·rw [if_pos c24] at H
                  have c24b0:decide (0≤(ji23))=true:=decide_eq_true c24
                  clear c24
                  by_cases c25:(ji23) < (x4_2.length:Int)
                  ·rw [if_pos c25] at H
                   have c25b0:decide ((ji23) < (x4_2.length:Int))=true:=decide_eq_true c25
                   clear c25
                   obtain ⟨y267,hy267⟩:∃ y_:List Int,y_=(y266.set ((ji23):Int).toNat ((rd y262 x28_2) % 256)):=⟨_,rfl⟩
                   replace H:(layout_EncodeDescs.l1 k2 y267 x15_1 l0 (l0.length:Int) x15_1 y262 (y262.length:Int) (wrap64 (x28_2 + 1)))=some (r1,r2):=by first|(rw [hy267];with_reducible exact H)|(have H2_:=(Option.bind_some _ _).symm.trans H;rw [hy267];with_reducible exact H2_)|(have H2_:=(Option.bind_some _ _).symm.trans H;with_reducible exact H2_)|with_reducible exact H|(rw [hy267];exact H)|exact H
                   have Ny267:=Aside0.mk hy267
                   clear hy267
                   have H':=Aside0.mk H
                   clear H
                   have p265:0≤(x28_2:Int):=of_decide_eq_true (by first|(with_reducible assumption)|assumption)
                   have q265:x28_2 < (y262.length:Int):=of_decide_eq_true (by first|(with_reducible assumption)|assumption)
                   obtain ⟨ad265,e265,hx265_0⟩:=Kd.at_int (Kd.R_reads' HO_26.out).2.2 x28_2 p265 q265
                   cases e265
                   replace p265:=eq_true p265
                   replace q265:=eq_true q265
                   have p22:0≤((ji19):Int):=of_decide_eq_true (by first|(with_reducible assumption)|assumption)
                   have q22:((ji19):Int) < ((x4_2.length:Int):Int):=of_decide_eq_true (by first|(with_reducible assumption)|assumption)
                   obtain ⟨go22,co22,eo22,gb22,gl22,cl22,HG22⟩:=Kd.R_form HO_4.out (by omega)
                   (first|cases eo22|(injection eo22 with ea_ en_ ec_;(first|subst ea_|(injection ea_ with ea_;subst ea_));subst ec_;clear en_))
                   have GB22:=Aside0.mk gb22
                   have GG22:=Aside0.mk HG22
                   clear gb22 gl22 HG22
                   obtain ⟨hx22_0,hf22_0⟩:=Kd.R_celln 0 HO_4.out ((ji19):Int) p22 q22
                   replace p22:=eq_true p22
                   replace q22:=eq_true q22
                   have HP27:=Kd.R_putg HO_4.out ((ji19):Int) (((rd y262 x28_2) / 256) % 256)
                   go_wp2_with (first|((with_reducible refine gate_store (t:=5) (p:=57) rfl ?_);refine store_event (t:=5) (p:=57) (v:=?vo_w28) (w1:=(wr.setCell ⟨go22,((ji19):Int).toNat,none⟩ (.int .u8 (((rd y262 x28_2) / 256) % 256)))) ?hg ?ho ?hn ?hr ?_;(case ho=>rfl);(case hg=>rfl);(case hn=>rfl);(case hr=>first|(go_simp;done)|(go_simp;rfl));intro w28 hw;have hg:wr.grownBy w28 (some go22):=(by rw [hw];exact HP27.2);have hp_:Kd.R (Kd.int .u8) 5 w28 w.heap.size (fun _=>True) (.slice (some ⟨go22,0,none⟩) x4_2.length co22) y266:=(by rw [hw,Ny266.out];exact HP27.1);clear HP27;have n0_:=Aside0.mk (hp_);have n1_:=Aside0.mk (Kd.R_over' (v:=(.slice (some ⟨go22,0,none⟩) x4_2.length co22)) (by (with_reducible repeat (first|apply Kd.R_alloc|apply Kd.R_drewN|apply Kd.R_drew));exact HO_26.out) (Kd.R_typed HO_4.out) (by decide) hg);have n2_:=Aside0.mk (blk_grown (g:=gb261) (o:=.cells #[.int .i64 ((rd_T57 l0 x15_1).f0),.int .i64 ((rd_T57 l0 x15_1).f1),.int .i64 ((rd_T57 l0 x15_1).f2)] 57 (0,0)) (by (with_reducible repeat (first|refine blk_drewN ?_ _|refine blk_drew ?_|refine blk_alloc ?_ _));exact BK261.out) hg (Kd.R_ne HO_4.out BK261.out (by decide)));have n3_:=Aside0.mk ((by rw [hw];exact below_set (HB.out) GB22.out:Below w.heap.size w w28));clear HO_4 HO_26 BK261 HB;have HO_4:=n0_;have HO_26:=n1_;have BK261:=n2_;have HB:=n3_;clear n0_ n1_ n2_ n3_;clear hg hw hp_;have p26:0≤((ji23):Int):=of_decide_eq_true (by first|(with_reducible assumption)|assumption);have q26:((ji23):Int) < ((x4_2.length:Int):Int):=of_decide_eq_true (by first|(with_reducible assumption)|assumption);obtain ⟨hx26_0,hf26_0⟩:=Kd.R_celln 0 HO_4.out ((ji23):Int) p26 q26;replace p26:=eq_true p26;replace q26:=eq_true q26;obtain ⟨hy29_,hz29_⟩:=Kd.R_celln 0 HO_4.out ((ji23):Int) (of_decide_eq_true (by first|(with_reducible assumption)|assumption)) (of_decide_eq_true (by first|(with_reducible assumption)|assumption));have HP29:=Kd.R_putg HO_4.out ((ji23):Int) ((rd y262 x28_2) % 256))|((with_reducible refine gate_store (t:=5) (p:=58) rfl ?_);refine store_event (t:=5) (p:=58) (v:=?vo_w30) (w1:=(w28.setCell ⟨go22,((ji23):Int).toNat,none⟩ (.int .u8 ((rd y262 x28_2) % 256)))) ?hg ?ho ?hn ?hr ?_;(case ho=>rfl);(case hg=>rfl);(case hn=>rfl);(case hr=>first|(go_simp;done)|(go_simp;rfl));intro w30 hw;have hg:w28.grownBy w30 (some go22):=(by rw [hw];exact HP29.2);have hp_:Kd.R (Kd.int .u8) 5 w30 w.heap.size (fun _=>True) (.slice (some ⟨go22,0,none⟩) x4_2.length co22) y267:=(by rw [hw,Ny267.out];exact HP29.1);clear HP29;have n0_:=Aside0.mk (hp_);have n1_:=Aside0.mk (Kd.R_over' (v:=(.slice (some ⟨go22,0,none⟩) x4_2.length co22)) (by (with_reducible repeat (first|apply Kd.R_alloc|apply Kd.R_drewN|apply Kd.R_drew));exact HO_26.out) (Kd.R_typed HO_4.out) (by decide) hg);have n2_:=Aside0.mk (blk_grown (g:=gb261) (o:=.cells #[.int .i64 ((rd_T57 l0 x15_1).f0),.int .i64 ((rd_T57 l0 x15_1).f1),.int .i64 ((rd_T57 l0 x15_1).f2)] 57 (0,0)) (by (with_reducible repeat (first|refine blk_drewN ?_ _|refine blk_drew ?_|refine blk_alloc ?_ _));exact BK261.out) hg (Kd.R_ne HO_4.out BK261.out (by decide)));have n3_:=Aside0.mk ((by rw [hw];exact below_set (HB.out) GB22.out:Below w.heap.size w w30));clear HO_4 HO_26 BK261 HB;have HO_4:=n0_;have HO_26:=n1_;have BK261:=n2_;have HB:=n3_;clear n0_ n1_ n2_ n3_;clear hg hw hp_))
                   go_roundg k2
                   case measure=>have:=HK1.out;have:=HK2.out;omega
                   case rel=>exact ⟨(y267),(wrap64 (x28_2 + 1)),(by first|rfl|(simp;done)|(simp [*];done)),H',⟨by have:=HK1.out;have:=HK2.out;omega⟩,⟨by (with_reducible repeat (first|apply Kd.R_alloc|apply Kd.R_drewN|apply Kd.R_drew));exact HO_4.out⟩,⟨by (with_reducible repeat (first|apply Kd.R_alloc|apply Kd.R_drewN|apply Kd.R_drew));exact HO_26.out⟩,⟨by (with_reducible repeat (first|refine blk_drewN ?_ _|refine blk_drew ?_|refine blk_alloc ?_ _));exact BK261.out⟩,⟨by repeat (first|(with_reducible first|exact HB.out|apply below_alloc|apply pw_below_drewN|apply below_drew1|refine below_set ?_ GE261.out)|exact HB.out)⟩⟩
                  ·rw [if_neg c25] at H
                   exact absurd H (by simp)
                 ·rw [if_neg c24] at H
                  exact absurd H (by simp)
                ·rw [if_neg c21] at H
                 exact absurd H (by simp)
               ·rw [if_neg c20] at H
                exact absurd H (by simp)
            ·rw [if_neg c16] at H
             exact absurd H (by simp)
           ·rw [if_neg c15] at H
            exact absurd H (by simp)
          ·rw [if_neg c14] at H
           have c14b0:decide (x28_2 < (y262.length:Int))=false:=decide_eq_false c14
           clear c14
           have H':=Aside0.mk H
           clear H
           go_wp2
           go_roundg k2
           case measure=>have:=HK1.out;have:=HK2.out;omega
           case rel=>exact ⟨(x4_2),(wrap64 (x15_1 + 1)),(by first|rfl|(simp;done)|(simp [*];done)),H',⟨by have:=HK1.out;have:=HK2.out;omega⟩,⟨by (with_reducible repeat (first|apply Kd.R_alloc|apply Kd.R_drewN|apply Kd.R_drew));exact HO_4.out⟩,⟨by repeat (first|(with_reducible first|exact HB.out|apply below_alloc|apply pw_below_drewN|apply below_drew1|refine below_set ?_ GE261.out)|exact HB.out)⟩⟩
       ·rw [if_neg c8] at H
        exact absurd H (by simp)
      ·rw [if_neg c7] at H
       exact absurd H (by simp)
     ·rw [if_neg c6] at H
      have c6b0:decide (x15_1 < (l0.length:Int))=false:=decide_eq_false c6
      clear c6
      simp only [Option.some.injEq,Prod.mk.injEq] at H
      obtain ⟨rfl,rfl⟩:=H
      go_wp2
      go_ret2
      exact ⟨_,by first|rfl|(simp [errW_none,errW_some] <;> rfl)|(simp [*,errW_none,errW_some] <;> rfl),by (with_reducible repeat (first|apply Kd.R_alloc|apply Kd.R_drewN|apply Kd.R_drew));exact HO_4.out,by repeat (first|(with_reducible first|exact HB.out|apply below_alloc|apply pw_below_drewN|apply below_drew1)|exact HB.out)⟩
  ·rw [if_neg c3] at H
   exact absurd H (by simp)
end Go.Proofs.Ytbdnmdmfnopihaa.Print
end
section
namespace Go.Proofs.Ytbdnmdmfnopihaa.Print
open Go.RowKit Go.Proofs.YtbdnmdmfnopihaaW.PrintWords Go.Proofs.YtbdnmdmfnopihaaW.PrintLast Go.Proofs.YtbdnmdmfnopihaaW.PrintMore
attribute [local go_sem] max2_int min2_int max_two min_two max_three min_three max_four min_four   -- for this text's walks alone
attribute [local go_sem ↓] Go.Proofs.Ytbdnmdmfnopihaa.Sem.isSome_setCell
attribute [local go_sem] Go.Instr.field Go.asAgg
set_option linter.unusedVariables false
set_option linter.unusedSimpArgs false
def slices_Equal_byte_byte.l0:Nat → List Int → List Int → Int → Int → Option (Bool)
 | 0,_,_,_,_=>none
 | k + 1,x0,x1,x12,x13=>if x13 < x12 then (if 0≤x13 then (if x13 < (x0.length:Int) then (if x13 < (x1.length:Int) then (if (rd x0 x13)=(rd x1 x13) then (slices_Equal_byte_byte.l0 k x0 x1 x12 (wrap64 (x13 + 1))) else (some false)) else (none)) else (none)) else (none)) else (some true)
def slices_Equal_byte_byte.f (k:Nat) (l0:List Int) (l1:List Int):Option (Bool):=if (l0.length:Int)=(l1.length:Int) then (slices_Equal_byte_byte.l0 k l0 l1 (l0.length:Int) 0) else (some false)
set_option maxHeartbeats 8000000 in
set_option maxRecDepth 100000 in
theorem slices_Equal_byte_byte.calls (k:Nat) (A0:Option Addr) (c0:Nat) (l0:List Int) (A1:Option Addr) (c1:Nat) (l1:List Int) (r:Bool) (w:World) (hr0:Kd.C (Kd.int .u8) w A0 l0.length l0) (hc0:l0.length≤c0) (hr1:Kd.C (Kd.int .u8) w A1 l1.length l1) (hc1:l1.length≤c1) (h:slices_Equal_byte_byte.f k l0 l1=some r) :
  Calls Try.prog 51 #[.slice A0 l0.length c0,.slice A1 l1.length c1] w fun e w'=>e=.returned (.bool r)∧Drawn0 w w':=by
 have HR0:=Aside0.mk hr0
 have HC0:=Aside0.mk hc0
 clear hr0 hc0
 have HR1:=Aside0.mk hr1
 have HC1:=Aside0.mk hc1
 clear hr1 hc1
 have H:(if (l0.length:Int)=(l1.length:Int) then (slices_Equal_byte_byte.l0 k l0 l1 (l0.length:Int) 0) else (some false))=some r:=h
 clear h
 by_cases c3:(l0.length:Int)=(l1.length:Int)
 ·rw [if_pos c3] at H
  have c3b0:((l0.length:Int) == (l1.length:Int))=true:=beq_iff_eq.mpr c3
  have c3b1:((l0.length:Int) != (l1.length:Int))=false:=bne_eq_false_iff_eq.mpr c3
  have c3b2:(l0.length == l1.length)=true:=by first|simpa using c3|(simp at c3 ⊢;omega)
  clear c3
  have H':=Aside0.mk H
  clear H
  go_enter Try.func51,Try.ntmps51
  go_wp2
  repeat (go_quiet (fail);try go_wp2)
  go_loopg [13] k (fun kq v13 w'=>∃ (x13_1:Int),v13=.int .i64 x13_1∧Aside0 (slices_Equal_byte_byte.l0 kq l0 l1 (l0.length:Int) x13_1=some r)∧Aside0 (kq≤k)∧Drawn0 w w')
  case atStart=>exact ⟨(0),(by first|rfl|(simp;done)|(simp [*];done)),H',⟨Nat.le_refl _⟩,by repeat (first|exact Drawn0.refl _|apply Drawn0.step)⟩
  case round =>
   clear H'
   try clear c1
   try clear p2
   try clear c3
   try clear c3b0
   try clear c3b1
   try clear c3b2
   obtain ⟨x13_1,rfl,HA,HK1,⟨m1,rfl⟩⟩:=hrel
   cases gk with
   | zero=>exact absurd HA.out (by simp [slices_Equal_byte_byte.l0])
   | succ k1 =>
    have H:=HA.out
    clear HA
    simp only [slices_Equal_byte_byte.l0] at H
    by_cases c4:x13_1 < (l0.length:Int)
    ·rw [if_pos c4] at H
     have c4b0:decide (x13_1 < (l0.length:Int))=true:=decide_eq_true c4
     clear c4
     by_cases c5:0≤x13_1
     ·rw [if_pos c5] at H
      have c5b0:decide (0≤x13_1)=true:=decide_eq_true c5
      clear c5
      by_cases c6:x13_1 < (l0.length:Int)
      ·rw [if_pos c6] at H
       have c6b0:decide (x13_1 < (l0.length:Int))=true:=decide_eq_true c6
       clear c6
       by_cases c7:x13_1 < (l1.length:Int)
       ·rw [if_pos c7] at H
        have c7b0:decide (x13_1 < (l1.length:Int))=true:=decide_eq_true c7
        clear c7
        by_cases c8:(rd l0 x13_1)=(rd l1 x13_1)
        ·rw [if_pos c8] at H
         have c8b0:((rd l0 x13_1) == (rd l1 x13_1))=true:=beq_iff_eq.mpr c8
         have c8b1:((rd l0 x13_1) != (rd l1 x13_1))=false:=bne_eq_false_iff_eq.mpr c8
         clear c8
         have H':=Aside0.mk H
         clear H
         have p307:0≤(x13_1:Int):=of_decide_eq_true (by first|(with_reducible assumption)|assumption)
         have q307:x13_1 < (l0.length:Int):=of_decide_eq_true (by first|(with_reducible assumption)|assumption)
         obtain ⟨ad307,e307,hx307_0⟩:=Kd.at_int HR0.out x13_1 p307 q307
         cases e307
         replace p307:=eq_true p307
         replace q307:=eq_true q307
         have p308:0≤(x13_1:Int):=of_decide_eq_true (by first|(with_reducible assumption)|assumption)
         have q308:x13_1 < (l1.length:Int):=of_decide_eq_true (by first|(with_reducible assumption)|assumption)
         obtain ⟨ad308,e308,hx308_0⟩:=Kd.at_int HR1.out x13_1 p308 q308
         cases e308
         replace p308:=eq_true p308
         replace q308:=eq_true q308
         go_wp2
         repeat (go_quiet (fail);try go_wp2)
         go_roundg k1
         case measure=>have:=HK1.out;omega
         case rel=>exact ⟨(wrap64 (x13_1 + 1)),(by first|rfl|(simp;done)|(simp [*];done)),H',⟨by have:=HK1.out;omega⟩,by repeat (first|exact Drawn0.refl _|apply Drawn0.step)⟩
        ·rw [if_neg c8] at H
         have c8b0:((rd l0 x13_1) == (rd l1 x13_1))=false:=beq_eq_false_iff_ne.mpr c8
         have c8b1:((rd l0 x13_1) != (rd l1 x13_1))=true:=bne_iff_ne.mpr c8
         obtain rfl:=Option.some.inj H
         have p307:0≤(x13_1:Int):=of_decide_eq_true (by first|(with_reducible assumption)|assumption)
         have q307:x13_1 < (l0.length:Int):=of_decide_eq_true (by first|(with_reducible assumption)|assumption)
         obtain ⟨ad307,e307,hx307_0⟩:=Kd.at_int HR0.out x13_1 p307 q307
         cases e307
         replace p307:=eq_true p307
         replace q307:=eq_true q307
         have p308:0≤(x13_1:Int):=of_decide_eq_true (by first|(with_reducible assumption)|assumption)
         have q308:x13_1 < (l1.length:Int):=of_decide_eq_true (by first|(with_reducible assumption)|assumption)
         obtain ⟨ad308,e308,hx308_0⟩:=Kd.at_int HR1.out x13_1 p308 q308
         cases e308
         replace p308:=eq_true p308
         replace q308:=eq_true q308
         go_wp2
         repeat (go_quiet (fail);try go_wp2)
         go_ret
         exact ⟨by first|rfl|(simp;done)|(simp [*];done),by repeat (first|exact Drawn0.refl _|apply Drawn0.step)⟩
       ·rw [if_neg c7] at H
        exact absurd H (by simp)
      ·rw [if_neg c6] at H
       exact absurd H (by simp)
     ·rw [if_neg c5] at H
      exact absurd H (by simp)
    ·rw [if_neg c4] at H
     have c4b0:decide (x13_1 < (l0.length:Int))=false:=decide_eq_false c4
     clear c4
     obtain rfl:=Option.some.inj H
     go_wp2
     repeat (go_quiet (fail);try go_wp2)
     go_ret
     exact ⟨by first|rfl|(simp;done)|(simp [*];done),by repeat (first|exact Drawn0.refl _|apply Drawn0.step)⟩
 ·rw [if_neg c3] at H
  have c3b0:((l0.length:Int) == (l1.length:Int))=false:=beq_eq_false_iff_ne.mpr c3
  have c3b1:((l0.length:Int) != (l1.length:Int))=true:=bne_iff_ne.mpr c3
  have c3b2:(l0.length == l1.length)=false:=by first|simpa using c3|(simp at c3 ⊢;omega)
  obtain rfl:=Option.some.inj H
  go_enter Try.func51,Try.ntmps51
  go_wp2
  repeat (go_quiet (fail);try go_wp2)
  go_ret
  exact ⟨by first|rfl|(simp;done)|(simp [*];done),by repeat (first|exact Drawn0.refl _|apply Drawn0.step)⟩
def layout_DecodeDescs_1.f (a0:Int) (l1:List Int):Option (Int):=if 0≤(wrap64 (2 * a0)) then (if (wrap64 (2 * a0)) < (l1.length:Int) then (if 0≤(wrap64 ((wrap64 (2 * a0)) + 1)) then (if (wrap64 ((wrap64 (2 * a0)) + 1)) < (l1.length:Int) then (some (Go.bits .or .i64 (wrap64 ((wrap64 (rd l1 (wrap64 (2 * a0)))) * 256)) (wrap64 (rd l1 (wrap64 ((wrap64 (2 * a0)) + 1)))))) else (none)) else (none)) else (none)) else (none)
set_option maxHeartbeats 8000000 in
set_option maxRecDepth 100000 in
theorem layout_DecodeDescs_1.calls (g1:Nat) (a0:Int) (A1:Option Addr) (c1:Nat) (l1:List Int) (r:Int) (w:World) (hb1:w.heap[g1]?=some (.cells #[.slice A1 l1.length c1] 48 (0,0))) (hr1:Kd.C (Kd.int .u8) w A1 l1.length l1) (hc1:l1.length≤c1) (h:layout_DecodeDescs_1.f a0 l1=some r) :
  Calls Try.prog 50 #[.int .i64 a0,.pointer (some ⟨g1,0,none⟩)] w fun e w'=>e=.returned (.int .i64 r)∧Drawn0 w w':=by
 have hcz1_0:w.cell? ⟨g1,0,none⟩=some (.slice A1 l1.length c1):=(blk_cell hb1 0).trans rfl
 clear hb1
 have HR1:=Aside0.mk hr1
 have HC1:=Aside0.mk hc1
 clear hr1 hc1
 have H:(if 0≤(wrap64 (2 * a0)) then (if (wrap64 (2 * a0)) < (l1.length:Int) then (if 0≤(wrap64 ((wrap64 (2 * a0)) + 1)) then (if (wrap64 ((wrap64 (2 * a0)) + 1)) < (l1.length:Int) then (some (Go.bits .or .i64 (wrap64 ((wrap64 (rd l1 (wrap64 (2 * a0)))) * 256)) (wrap64 (rd l1 (wrap64 ((wrap64 (2 * a0)) + 1)))))) else (none)) else (none)) else (none)) else (none))=some r:=h
 clear h
 obtain ⟨ji3,hji3⟩:∃ j_:Int,(wrap64 (2 * a0))=j_:=⟨_,rfl⟩
 replace H:(if 0≤(ji3) then (if (ji3) < (l1.length:Int) then (if 0≤(wrap64 ((ji3) + 1)) then (if (wrap64 ((ji3) + 1)) < (l1.length:Int) then (some (Go.bits .or .i64 (wrap64 ((wrap64 (rd l1 (ji3))) * 256)) (wrap64 (rd l1 (wrap64 ((ji3) + 1)))))) else (none)) else (none)) else (none)) else (none))=some r:=by first|(rw [hji3] at H;exact H)|(simp only [hji3] at H ⊢;exact H)
 have hji3w:(IntKind.i64.wrap (2 * a0))=ji3:=(i64_w _).trans hji3
 by_cases c4:0≤(ji3)
 ·rw [if_pos c4] at H
  have c4b0:decide (0≤(ji3))=true:=decide_eq_true c4
  clear c4
  by_cases c5:(ji3) < (l1.length:Int)
  ·rw [if_pos c5] at H
   have c5b0:decide ((ji3) < (l1.length:Int))=true:=decide_eq_true c5
   clear c5
   obtain ⟨ji6,hji6⟩:∃ j_:Int,(wrap64 ((ji3) + 1))=j_:=⟨_,rfl⟩
   replace H:(if 0≤(ji6) then (if (ji6) < (l1.length:Int) then (some (Go.bits .or .i64 (wrap64 ((wrap64 (rd l1 (ji3))) * 256)) (wrap64 (rd l1 (ji6))))) else (none)) else (none))=some r:=by first|(rw [hji6] at H;exact H)|(simp only [hji6] at H ⊢;exact H)
   have hji6w:(IntKind.i64.wrap ((ji3) + 1))=ji6:=(i64_w _).trans hji6
   by_cases c7:0≤(ji6)
   ·rw [if_pos c7] at H
    have c7b0:decide (0≤(ji6))=true:=decide_eq_true c7
    clear c7
    by_cases c8:(ji6) < (l1.length:Int)
    ·rw [if_pos c8] at H
     have c8b0:decide ((ji6) < (l1.length:Int))=true:=decide_eq_true c8
     clear c8
     obtain rfl:=Option.some.inj H
     have p309:0≤((ji3):Int):=of_decide_eq_true (by first|(with_reducible assumption)|assumption)
     have q309:(ji3) < (l1.length:Int):=of_decide_eq_true (by first|(with_reducible assumption)|assumption)
     obtain ⟨ad309,e309,hx309_0⟩:=Kd.at_int HR1.out (ji3) p309 q309
     cases e309
     replace p309:=eq_true p309
     replace q309:=eq_true q309
     have p310:0≤((ji6):Int):=of_decide_eq_true (by first|(with_reducible assumption)|assumption)
     have q310:(ji6) < (l1.length:Int):=of_decide_eq_true (by first|(with_reducible assumption)|assumption)
     obtain ⟨ad310,e310,hx310_0⟩:=Kd.at_int HR1.out (ji6) p310 q310
     obtain rfl:ad309=ad310:=(by injection e310)
     replace p310:=eq_true p310
     replace q310:=eq_true q310
     go_enter Try.func50,Try.ntmps50
     go_wp2
     repeat (go_quiet (fail);try go_wp2)
     go_ret
     exact ⟨by first|rfl|(simp;done)|(simp only [← hji3,← hji6] <;> (first|rfl|simp))|(simp [*];done),by repeat (first|exact Drawn0.refl _|apply Drawn0.step)⟩
    ·rw [if_neg c8] at H
     exact absurd H (by simp)
   ·rw [if_neg c7] at H
    exact absurd H (by simp)
  ·rw [if_neg c5] at H
   exact absurd H (by simp)
 ·rw [if_neg c4] at H
  exact absurd H (by simp)
end Go.Proofs.Ytbdnmdmfnopihaa.Print
end
section
namespace Go.Proofs.Ytbdnmdmfnopihaa.Print
open Go.RowKit Go.Proofs.YtbdnmdmfnopihaaW.PrintWords Go.Proofs.YtbdnmdmfnopihaaW.PrintLast Go.Proofs.YtbdnmdmfnopihaaW.PrintMore
attribute [local go_sem] max2_int min2_int max_two min_two max_three min_three max_four min_four   -- for this text's walks alone
attribute [local go_sem ↓] Go.Proofs.Ytbdnmdmfnopihaa.Sem.isSome_setCell
attribute [local go_sem] Go.Instr.field Go.asAgg
set_option linter.unusedVariables false
set_option linter.unusedSimpArgs false
mutual
def layout_DecodeDescs.j0:Nat → List Int → Int → Bool → Option ((List (S57)) × Int)
 | 0,_,_,_=>none
 | k + 1,x0,x1,x17=>if x17=true then (some (([]:List (S57)),1)) else (if (x0.length:Int)=256 then (layout_DecodeDescs.l0 k x0 ([]:List (S57)) x1 0) else (some (([]:List (S57)),111)))
def layout_DecodeDescs.l0:Nat → List Int → List (S57) → Int → Int → Option ((List (S57)) × Int)
 | 0,_,_,_,_=>none
 | k + 1,x0,x6,x21,x22=>if x22 < x21 then (if 0≤(wrap64 (x22 * 16)) then (if (wrap64 (x22 * 16))≤(x0.length:Int) then ((layout_DecodeDescs_1.f 0 (x0.drop ((wrap64 (x22 * 16)):Int).toNat)).bind fun t313=>((layout_DecodeDescs_1.f 1 (x0.drop ((wrap64 (x22 * 16)):Int).toNat)).bind fun t314=>((layout_DecodeDescs_1.f 2 (x0.drop ((wrap64 (x22 * 16)):Int).toNat)).bind fun t315=>(if x6.length < 5864062014805 then (layout_DecodeDescs.l0 k x0 (x6 ++ [(⟨t313,t314,t315⟩:S57)]) x21 (wrap64 (x22 + 1))) else (none))))) else (none)) else (none)) else ((layout_EncodeDescs.f k x6).bind fun bt319=>(if bt319.2=0 then ((slices_Equal_byte_byte.f k bt319.1 x0).bind fun t323=>(if t323=true then (some (x6,0)) else (some (([]:List (S57)),111)))) else (some (([]:List (S57)),111))))
end
def layout_DecodeDescs.f (k:Nat) (l0:List Int) (a1:Int):Option ((List (S57)) × Int):=if a1 < 0 then (layout_DecodeDescs.j0 k l0 a1 true) else (layout_DecodeDescs.j0 k l0 a1 (decide (a1 > 16)))
set_option maxHeartbeats 8000000 in
set_option maxRecDepth 100000 in
theorem layout_DecodeDescs.calls (k:Nat) (A0:Option Addr) (c0:Nat) (l0:List Int) (a1:Int) (r1:List (S57)) (r2:Int) (w:World) (hr0:Kd.C (Kd.int .u8) w A0 l0.length l0) (hc0:l0.length≤c0) (h:layout_DecodeDescs.f k l0 a1=some (r1,r2)) :
  Calls Try.prog 31 #[.slice A0 l0.length c0,.int .i64 a1] w fun e w'=>∃ v0_:Value,e=.returned (.tuple #[v0_,.int .i64 r2])∧Kd.R k57 57 w' w.heap.size (fun _=>True) v0_ r1∧Below w.heap.size w w':=by
 have hu57:=Try.underlying57
 have HR0:=Aside0.mk hr0
 have HC0:=Aside0.mk hc0
 clear hr0 hc0
 have HB:=Aside0.mk (Below.refl w.heap.size w)
 have H:(if a1 < 0 then (layout_DecodeDescs.j0 k l0 a1 true) else (layout_DecodeDescs.j0 k l0 a1 (decide (a1 > 16))))=some (r1,r2):=h
 clear h
 have HC3:=Aside0.mk H
 clear H
 go_enter Try.func31,Try.ntmps31
 go_upto_region 1 with (fail)
 go_cut [17] (fun v17 wc=>∃ (kq:Nat) (x17_2:Bool),v17=.bool x17_2∧Aside0 (layout_DecodeDescs.j0 kq l0 a1 x17_2=some (r1,r2))∧Aside0 (kq≤k)∧Aside0 (Below w.heap.size w wc))
 case first =>
  have H:=HC3.out
  clear HC3
  by_cases c4:a1 < 0
  ·rw [if_pos c4] at H
   have c4b0:decide (a1 < 0)=true:=decide_eq_true c4
   clear c4
   (first|rw [c4b0]|(simp only [i64_w,i32_w];rw [c4b0])|skip)
   have H':=Aside0.mk H
   clear H
   go_wp2
   go_meet
   case rel=>exact ⟨_,(true),(by first|rfl|(simp;done)|(simp [*];done)),H',⟨by first|omega|exact Nat.le_refl _⟩,⟨by repeat (first|(with_reducible first|exact HB.out|apply below_alloc|apply pw_below_drewN|apply below_drew1)|exact HB.out)⟩⟩
  ·rw [if_neg c4] at H
   have c4b0:decide (a1 < 0)=false:=decide_eq_false c4
   clear c4
   (first|rw [c4b0]|(simp only [i64_w,i32_w];rw [c4b0])|skip)
   have H':=Aside0.mk H
   clear H
   go_wp2
   go_meet
   case rel=>exact ⟨_,(decide (a1 > 16)),(by first|rfl|(simp;done)|(simp [*];done)),H',⟨by first|omega|exact Nat.le_refl _⟩,⟨by repeat (first|(with_reducible first|exact HB.out|apply below_alloc|apply pw_below_drewN|apply below_drew1)|exact HB.out)⟩⟩
 case rest =>
  clear HC3
  try clear p2
  try clear c3
  try clear c4
  try clear c4b0
  obtain ⟨kq,x17_2,rfl,HA,HJ2,HB⟩:=hcut
  cases kq with
  | zero=>exact absurd HA.out (by simp [layout_DecodeDescs.j0])
  | succ kj2 =>
   have H:=HA.out
   clear HA
   simp only [layout_DecodeDescs.j0] at H
   by_cases c5:x17_2=true
   ·subst c5
    have H1:(some (([]:List (S57)),1))=some (r1,r2):=by rw [if_pos rfl] at H;exact H
    clear H
    have H:=H1
    clear H1
    simp only [Option.some.injEq,Prod.mk.injEq] at H
    obtain ⟨rfl,rfl⟩:=H
    go_wp2
    go_ret2
    exact ⟨_,by first|rfl|(simp [errW_none,errW_some] <;> rfl)|(simp [*,errW_none,errW_some] <;> rfl),by first|exact Kd.R_nil _ _ _ _ _|exact Kd.N_nil _ _ _ _ _|exact Kd.V_nil _ _ _ _ _|exact Kd.Q_nil _ _ _ _ _|exact Kd.S_nil _ _ _ _ _,by repeat (first|(with_reducible first|exact HB.out|apply below_alloc|apply pw_below_drewN|apply below_drew1)|exact HB.out)⟩
   ·replace c5:=Bool.eq_false_iff.mpr c5
    subst c5
    have H1:(if (l0.length:Int)=256 then (layout_DecodeDescs.l0 kj2 l0 ([]:List (S57)) a1 0) else (some (([]:List (S57)),111)))=some (r1,r2):=by rw [if_neg (show ¬ (false=true) by decide)] at H;exact H
    clear H
    have H:=H1
    clear H1
    by_cases c6:(l0.length:Int)=256
    ·rw [if_pos c6] at H
     have c6b0:((l0.length:Int) == 256)=true:=beq_iff_eq.mpr c6
     have c6b1:((l0.length:Int) != 256)=false:=bne_eq_false_iff_eq.mpr c6
     clear c6
     have H':=Aside0.mk H
     clear H
     go_wp2
     go_loopg [6,22] kj2 (fun kq v6 v22 w'=>∃ (x6_2:List (S57)) (x22_2:Int),v22=.int .i64 x22_2∧Aside0 (layout_DecodeDescs.l0 kq l0 x6_2 a1 x22_2=some (r1,r2))∧Aside0 (kq≤kj2)∧Aside0 (Kd.R k57 57 w' w.heap.size (fun _=>True) v6 x6_2)∧Aside0 (Below w.heap.size w w'))
     case atStart=>exact ⟨(([]:List (S57))),(0),(by first|rfl|(simp;done)|(simp [*];done)),H',⟨Nat.le_refl _⟩,⟨by first|exact Kd.R_nil _ _ _ _ _|exact Kd.N_nil _ _ _ _ _|exact Kd.V_nil _ _ _ _ _|exact Kd.Q_nil _ _ _ _ _|exact Kd.S_nil _ _ _ _ _⟩,⟨by repeat (first|(with_reducible first|exact HB.out|apply below_alloc|apply pw_below_drewN|apply below_drew1)|exact HB.out)⟩⟩
     case round =>
      clear H'
      try clear p2
      try clear c3
      try clear c4
      try clear c4b0
      try clear c5
      try clear c6
      try clear c6b0
      try clear c6b1
      try clear p2
      obtain ⟨x6_2,x22_2,rfl,HA,HK2,HO_6,HB⟩:=hrel
      cases gk with
      | zero=>exact absurd HA.out (by simp [layout_DecodeDescs.l0])
      | succ k2 =>
       have H:=HA.out
       clear HA
       simp only [layout_DecodeDescs.l0] at H
       by_cases c7:x22_2 < a1
       ·rw [if_pos c7] at H
        have c7b0:decide (x22_2 < a1)=true:=decide_eq_true c7
        clear c7
        obtain ⟨ji8,hji8⟩:∃ j_:Int,(wrap64 (x22_2 * 16))=j_:=⟨_,rfl⟩
        replace H:(if 0≤(ji8) then (if (ji8)≤(l0.length:Int) then ((layout_DecodeDescs_1.f 0 (l0.drop ((ji8):Int).toNat)).bind fun t313=>((layout_DecodeDescs_1.f 1 (l0.drop ((ji8):Int).toNat)).bind fun t314=>((layout_DecodeDescs_1.f 2 (l0.drop ((ji8):Int).toNat)).bind fun t315=>(if x6_2.length < 5864062014805 then (layout_DecodeDescs.l0 k2 l0 (x6_2 ++ [(⟨t313,t314,t315⟩:S57)]) a1 (wrap64 (x22_2 + 1))) else (none))))) else (none)) else (none))=some (r1,r2):=by first|(rw [hji8] at H;exact H)|(simp only [hji8] at H ⊢;exact H)
        have hji8w:(IntKind.i64.wrap (x22_2 * 16))=ji8:=(i64_w _).trans hji8
        by_cases c9:0≤(ji8)
        ·rw [if_pos c9] at H
         have c9b0:=eq_true c9
         have c9b1:decide (0≤(ji8))=true:=decide_eq_true c9
         clear c9
         by_cases c10:(ji8)≤(l0.length:Int)
         ·rw [if_pos c10] at H
          have c10b0:=eq_true c10
          have c10b1:decide ((ji8)≤(l0.length:Int))=true:=decide_eq_true c10
          clear c10
          replace H:=Option.bind_eq_some_iff.mp H
          obtain ⟨t313,A110,H⟩:=H
          replace H:((layout_DecodeDescs_1.f 1 (l0.drop ((ji8):Int).toNat)).bind fun t314=>((layout_DecodeDescs_1.f 2 (l0.drop ((ji8):Int).toNat)).bind fun t315=>(if x6_2.length < 5864062014805 then (layout_DecodeDescs.l0 k2 l0 (x6_2 ++ [(⟨t313,t314,t315⟩:S57)]) a1 (wrap64 (x22_2 + 1))) else (none))))=some (r1,r2):=H
          have A11:=Aside0.mk A110
          clear A110
          replace H:=Option.bind_eq_some_iff.mp H
          obtain ⟨t314,A120,H⟩:=H
          replace H:((layout_DecodeDescs_1.f 2 (l0.drop ((ji8):Int).toNat)).bind fun t315=>(if x6_2.length < 5864062014805 then (layout_DecodeDescs.l0 k2 l0 (x6_2 ++ [(⟨t313,t314,t315⟩:S57)]) a1 (wrap64 (x22_2 + 1))) else (none)))=some (r1,r2):=H
          have A12:=Aside0.mk A120
          clear A120
          replace H:=Option.bind_eq_some_iff.mp H
          obtain ⟨t315,A130,H⟩:=H
          replace H:(if x6_2.length < 5864062014805 then (layout_DecodeDescs.l0 k2 l0 (x6_2 ++ [(⟨t313,t314,t315⟩:S57)]) a1 (wrap64 (x22_2 + 1))) else (none))=some (r1,r2):=H
          have A13:=Aside0.mk A130
          clear A130
          by_cases c14:x6_2.length < 5864062014805
          ·rw [if_pos c14] at H
           have LMc14:=Aside0.mk c14
           clear c14
           obtain ⟨y316,hy316⟩:∃ y_:List (S57),y_=(x6_2 ++ [(⟨t313,t314,t315⟩:S57)]):=⟨_,rfl⟩
           replace H:(layout_DecodeDescs.l0 k2 l0 y316 a1 (wrap64 (x22_2 + 1)))=some (r1,r2):=by first|(rw [hy316];with_reducible exact H)|(have H2_:=(Option.bind_some _ _).symm.trans H;rw [hy316];with_reducible exact H2_)|(have H2_:=(Option.bind_some _ _).symm.trans H;with_reducible exact H2_)|with_reducible exact H|(rw [hy316];exact H)|exact H
           have Ny316:=Aside0.mk hy316
           clear hy316
           have H':=Aside0.mk H
           clear H
           obtain ⟨i015,hi015,_,hsz15,_⟩:=info_parts info5
           obtain ⟨A15,hcut15,hA15,hC15⟩:=print_drop_of (P:=Try.prog) (Value.int .u8) 0 48 5 .i64 Try.underlying48 hi015 hsz15 A0 c0 l0 (ji8) (of_decide_eq_true (by first|(with_reducible assumption)|assumption)) (of_decide_eq_true (by first|(with_reducible assumption)|assumption)) HC0.out
           have HR311:=Aside0.mk (Kd.C_of_reads (h1:=fun _=>rfl) (hA15 _ (Kd.reads_of_C HR0.out)))
           have HC311:=Aside0.mk hC15
           clear hA15 hC15 hi015 hsz15
           go_wp2_with (first|((with_reducible refine gate_dst (N:=8) rfl ?_);refine box_event ?hg (N:=8) ?hd (cs:=#[.slice none 0 0]) (t:=48) ?hr ?_;(case hd=>rfl);(case hg=>rfl);(case hr=>first|(go_simp;done)|(go_simp;rfl));intro gb312 hg w16 hbox hb;have n0_:=Aside0.mk (Kd.R_below (by (with_reducible repeat (first|apply Kd.R_alloc|apply Kd.R_drewN|apply Kd.R_drew));exact HO_6.out) hb);have n1_:=Aside0.mk (below_step (by repeat (first|(with_reducible first|exact HB.out|apply below_alloc|apply pw_below_drewN|apply below_drew1)|exact HB.out)) hb);have n2_:=Aside0.mk (hbox);have n3_:=Aside0.mk ((by rw [hg];exact (below_size (by repeat (first|(with_reducible first|exact HB.out|apply below_alloc|apply pw_below_drewN|apply below_drew1)|exact HB.out))):w.heap.size≤gb312));have n4_:=Aside0.mk ((by rw [hg];exact (below_size (by repeat (first|(with_reducible first|exact HB.out|apply below_alloc|apply pw_below_drewN|apply below_drew1)|exact HB.out))):w.heap.size≤gb312));clear HO_6 HB;have HO_6:=n0_;have HB:=n1_;have BK312:=n2_;have GW312:=n3_;have GE312:=n4_;clear n0_ n1_ n2_ n3_ n4_;clear hb hbox hg;have hcz17_0:w16.cell? ⟨gb312,0,none⟩=some (.slice none 0 0):=(blk_cell BK312.out 0).trans rfl;have hfz17_0:=blk_frozen BK312.out 0)|(go_at_call 50;(try rw [show l0.length - ji8.toNat=(l0.drop ji8.toNat).length from List.length_drop.symm]);(with_reducible refine (layout_DecodeDescs_1.calls gb312 0 _ _ (l0.drop ((ji8):Int).toNat) t313 _ (by (with_reducible repeat (first|refine blk_drewN ?_ _|refine blk_drew ?_|refine blk_alloc ?_ _));first|exact BK312.out|(refine blk_put (cs:=#[.slice none 0 0]) ?_ 0 _ rfl;(with_reducible repeat (first|refine blk_drewN ?_ _|refine blk_drew ?_|refine blk_alloc ?_ _));exact BK312.out)) ?side1 ?side2 A11.out).mono ?_);(case side1=>exact Kd.C_below HR311.out (by repeat (first|(with_reducible first|exact HB.out|apply below_alloc|apply pw_below_drewN|apply below_drew1|refine below_set ?_ GE312.out)|exact HB.out)));(case side2=>exact HC311.out);rintro e w' ⟨rfl,⟨nd,rfl⟩⟩)|(go_at_call 50;(try rw [show l0.length - ji8.toNat=(l0.drop ji8.toNat).length from List.length_drop.symm]);(with_reducible refine (layout_DecodeDescs_1.calls gb312 1 _ _ (l0.drop ((ji8):Int).toNat) t314 _ (by (with_reducible repeat (first|refine blk_drewN ?_ _|refine blk_drew ?_|refine blk_alloc ?_ _));first|exact BK312.out|(refine blk_put (cs:=#[.slice none 0 0]) ?_ 0 _ rfl;(with_reducible repeat (first|refine blk_drewN ?_ _|refine blk_drew ?_|refine blk_alloc ?_ _));exact BK312.out)) ?side1 ?side2 A12.out).mono ?_);(case side1=>exact Kd.C_below HR311.out (by repeat (first|(with_reducible first|exact HB.out|apply below_alloc|apply pw_below_drewN|apply below_drew1|refine below_set ?_ GE312.out)|exact HB.out)));(case side2=>exact HC311.out);rintro e w' ⟨rfl,⟨nd,rfl⟩⟩)|(go_at_call 50;(try rw [show l0.length - ji8.toNat=(l0.drop ji8.toNat).length from List.length_drop.symm]);(with_reducible refine (layout_DecodeDescs_1.calls gb312 2 _ _ (l0.drop ((ji8):Int).toNat) t315 _ (by (with_reducible repeat (first|refine blk_drewN ?_ _|refine blk_drew ?_|refine blk_alloc ?_ _));first|exact BK312.out|(refine blk_put (cs:=#[.slice none 0 0]) ?_ 0 _ rfl;(with_reducible repeat (first|refine blk_drewN ?_ _|refine blk_drew ?_|refine blk_alloc ?_ _));exact BK312.out)) ?side1 ?side2 A13.out).mono ?_);(case side1=>exact Kd.C_below HR311.out (by repeat (first|(with_reducible first|exact HB.out|apply below_alloc|apply pw_below_drewN|apply below_drew1|refine below_set ?_ GE312.out)|exact HB.out)));(case side2=>exact HC311.out);rintro e w' ⟨rfl,⟨nd,rfl⟩⟩)|((with_reducible refine gate_builtin (b:=.append) (xs:=#[.tmp 30,.tmp 38]) rfl ?_);at_builtin;(try rw [show l0.length - ji8.toNat=(l0.drop ji8.toNat).length from List.length_drop.symm]);refine Kd.R_append k57 (w0:=w) w.heap.size rfl (.tmp 30) (.tmp 38) 47 57 (.agg #[(.int .i64 0),(.int .i64 0),(.int .i64 0)]) 24 rfl Try.underlying47 info57 rfl (by decide) (by omega) u6 x6_2 (⟨t313,t314,t315⟩:S57) [.int .i64 t313,.int .i64 t314,.int .i64 t315] (fun _=>True) (fun _=>False) rfl (by first|(go_simp;done)|(go_simp;rfl)) ?aP (fun _ hk=>hk.elim) ?aF ?aO ?aB ?aS ?aL ?_;(case aP=>exact k57_mkM _ _ _ (⟨t313,t314,t315⟩:S57));(case aB=>exact (by repeat (first|(with_reducible first|exact HB.out|apply below_alloc|apply pw_below_drewN|apply below_drew1|refine below_set ?_ GE312.out)|exact HB.out)));(case aF=>exact (fun _ _=>trivial));(case aO=>exact (by (with_reducible repeat (first|apply Kd.R_alloc|apply Kd.R_drewN|apply Kd.R_drew));exact Kd.R_mono (Kd.R_far (p:=⟨gb312,0,none⟩) (Kd.R_types HO_6.out BK312.out (by decide)) (fun _ hk=>hk.2) (.slice A15 (l0.drop ((ji8):Int).toNat).length (c0 - (ji8).toNat))) (fun _ hk=>trivial)));(case aS=>exact (below_size (by repeat (first|(with_reducible first|exact HB.out|apply below_alloc|apply pw_below_drewN|apply below_drew1|refine below_set ?_ GE312.out)|exact HB.out))));(case aL=>have:=LMc14.out;omega);intro v317 w18 ho hb hg hat;rw [← Ny316.out] at ho;have n0_:=Aside0.mk (blk_grown (g:=gb312) (o:=.cells #[.slice A15 (l0.drop ((ji8):Int).toNat).length (c0 - (ji8).toNat)] 48 (0,0)) (by (with_reducible repeat (first|refine blk_drewN ?_ _|refine blk_drew ?_|refine blk_alloc ?_ _));refine blk_put (cs:=#[.slice none 0 0]) ?_ 0 _ rfl;(with_reducible repeat (first|refine blk_drewN ?_ _|refine blk_drew ?_|refine blk_alloc ?_ _));exact BK312.out) hg (Kd.R_ne HO_6.out BK312.out (by decide)));have n1_:=Aside0.mk (hb);have n2_:=Aside0.mk (ho);clear BK312 HB HO_6;have BK312:=n0_;have HB:=n1_;have HO318:=n2_;clear n0_ n1_ n2_;clear ho hb hg hat))
           go_roundg k2
           case measure=>have:=HJ2.out;have:=HK2.out;omega
           case rel=>exact ⟨(y316),(wrap64 (x22_2 + 1)),(by first|rfl|(simp;done)|(simp [*];done)),H',⟨by have:=HJ2.out;have:=HK2.out;omega⟩,⟨by (with_reducible repeat (first|apply Kd.R_alloc|apply Kd.R_drewN|apply Kd.R_drew));exact HO318.out⟩,⟨by repeat (first|(with_reducible first|exact HB.out|apply below_alloc|apply pw_below_drewN|apply below_drew1|refine below_set ?_ GE312.out)|exact HB.out)⟩⟩
          ·rw [if_neg c14] at H
           exact absurd H (by simp)
         ·rw [if_neg c10] at H
          exact absurd H (by simp)
        ·rw [if_neg c9] at H
         exact absurd H (by simp)
       ·rw [if_neg c7] at H
        have c7b0:decide (x22_2 < a1)=false:=decide_eq_false c7
        clear c7
        replace H:=Option.bind_eq_some_iff.mp H
        obtain ⟨⟨t319,t320⟩,A190,H⟩:=H
        replace H:(if t320=0 then ((slices_Equal_byte_byte.f k2 t319 l0).bind fun t323=>(if t323=true then (some (x6_2,0)) else (some (([]:List (S57)),111)))) else (some (([]:List (S57)),111)))=some (r1,r2):=H
        have A19:=Aside0.mk A190
        clear A190
        by_cases c20:t320=0
        ·rw [if_pos c20] at H
         have c20b0:(t320 == 0)=true:=beq_iff_eq.mpr c20
         have c20b1:(t320 != 0)=false:=bne_eq_false_iff_eq.mpr c20
         clear c20
         replace H:=Option.bind_eq_some_iff.mp H
         obtain ⟨t323,A210,H⟩:=H
         replace H:(if t323=true then (some (x6_2,0)) else (some (([]:List (S57)),111)))=some (r1,r2):=H
         have A21:=Aside0.mk A210
         clear A210
         by_cases c22:t323=true
         ·subst c22
          have H1:(some (x6_2,0))=some (r1,r2):=by rw [if_pos rfl] at H;exact H
          clear H
          have H:=H1
          clear H1
          simp only [Option.some.injEq,Prod.mk.injEq] at H
          obtain ⟨rfl,rfl⟩:=H
          obtain ⟨Ao23,co23,eo23⟩:=Kd.R_slice HO_6.out
          subst eo23
          go_wp2_with (first|((with_reducible refine gate_callee (f:=29) rfl ?_);refine goesL_ (some 43) rfl rfl Try.func29 (by kernel_rfl) rfl #[.slice Ao23 x6_2.length co23] rfl (by (try simp only [List.map_toArray,List.map_cons,List.map_nil]);first|done|rfl|(simp only [List.length_drop,List.length_take];rfl)) ?_;(with_reducible refine (layout_EncodeDescs.calls k2 _ _ x6_2 t319 t320 _ ?side1 ?side2 A19.out).mono ?_);(case side1=>repeat (first|exact (Kd.R_reads' HO_6.out).2.2|(with_reducible refine Kd.C_alloc ?_ _)|(with_reducible refine Kd.C_drewN ?_ _)|(with_reducible refine Kd.C_drew ?_)));(case side2=>exact (Kd.R_reads' HO_6.out).2.1);rintro e w24 ⟨v321,rfl,ho0,hb⟩;refine ⟨_,rfl,?_⟩;have n0_:=Aside0.mk (Kd.R_below (by (with_reducible repeat (first|apply Kd.R_alloc|apply Kd.R_drewN|apply Kd.R_drew));exact HO_6.out) hb);have n1_:=Aside0.mk (Kd.R_lower ho0 (below_size (by repeat (first|(with_reducible first|exact HB.out|apply below_alloc|apply pw_below_drewN|apply below_drew1)|exact HB.out))));have n2_:=Aside0.mk (below_step (by repeat (first|(with_reducible first|exact HB.out|apply below_alloc|apply pw_below_drewN|apply below_drew1)|exact HB.out)) hb);clear HO_6 HB;have HO_6:=n0_;have HO322:=n1_;have HB:=n2_;clear n0_ n1_ n2_;(try clear hb);(try clear hb2);(try clear hk);(try clear hi);(try clear ho0);obtain ⟨Ao25,co25,eo25⟩:=Kd.R_slice HO322.out;subst eo25)|(go_at_call 51;(with_reducible refine (slices_Equal_byte_byte.calls k2 _ _ t319 _ _ l0 true _ ?side1 ?side2 ?side3 ?side4 A21.out).mono ?_);(case side1=>repeat (first|exact (Kd.R_reads' HO322.out).2.2|(with_reducible refine Kd.C_alloc ?_ _)|(with_reducible refine Kd.C_drewN ?_ _)|(with_reducible refine Kd.C_drew ?_)));(case side2=>exact (Kd.R_reads' HO322.out).2.1);(case side3=>repeat (first|exact (Kd.C_below HR0.out HB.out)|(with_reducible refine Kd.C_alloc ?_ _)|(with_reducible refine Kd.C_drewN ?_ _)|(with_reducible refine Kd.C_drew ?_)));(case side4=>exact HC0.out);rintro e w' ⟨rfl,⟨nd,rfl⟩⟩))
          go_ret2
          exact ⟨_,by first|rfl|(simp [errW_none,errW_some] <;> rfl)|(simp [*,errW_none,errW_some] <;> rfl),by (with_reducible repeat (first|apply Kd.R_alloc|apply Kd.R_drewN|apply Kd.R_drew));exact HO_6.out,by repeat (first|(with_reducible first|exact HB.out|apply below_alloc|apply pw_below_drewN|apply below_drew1)|exact HB.out)⟩
         ·replace c22:=Bool.eq_false_iff.mpr c22
          subst c22
          have H1:(some (([]:List (S57)),111))=some (r1,r2):=by rw [if_neg (show ¬ (false=true) by decide)] at H;exact H
          clear H
          have H:=H1
          clear H1
          simp only [Option.some.injEq,Prod.mk.injEq] at H
          obtain ⟨rfl,rfl⟩:=H
          obtain ⟨Ao26,co26,eo26⟩:=Kd.R_slice HO_6.out
          subst eo26
          go_wp2_with (first|((with_reducible refine gate_callee (f:=29) rfl ?_);refine goesL_ (some 43) rfl rfl Try.func29 (by kernel_rfl) rfl #[.slice Ao26 x6_2.length co26] rfl (by (try simp only [List.map_toArray,List.map_cons,List.map_nil]);first|done|rfl|(simp only [List.length_drop,List.length_take];rfl)) ?_;(with_reducible refine (layout_EncodeDescs.calls k2 _ _ x6_2 t319 t320 _ ?side1 ?side2 A19.out).mono ?_);(case side1=>repeat (first|exact (Kd.R_reads' HO_6.out).2.2|(with_reducible refine Kd.C_alloc ?_ _)|(with_reducible refine Kd.C_drewN ?_ _)|(with_reducible refine Kd.C_drew ?_)));(case side2=>exact (Kd.R_reads' HO_6.out).2.1);rintro e w27 ⟨v321,rfl,ho0,hb⟩;refine ⟨_,rfl,?_⟩;have n0_:=Aside0.mk (Kd.R_below (by (with_reducible repeat (first|apply Kd.R_alloc|apply Kd.R_drewN|apply Kd.R_drew));exact HO_6.out) hb);have n1_:=Aside0.mk (Kd.R_lower ho0 (below_size (by repeat (first|(with_reducible first|exact HB.out|apply below_alloc|apply pw_below_drewN|apply below_drew1)|exact HB.out))));have n2_:=Aside0.mk (below_step (by repeat (first|(with_reducible first|exact HB.out|apply below_alloc|apply pw_below_drewN|apply below_drew1)|exact HB.out)) hb);clear HO_6 HB;have HO_6:=n0_;have HO322:=n1_;have HB:=n2_;clear n0_ n1_ n2_;(try clear hb);(try clear hb2);(try clear hk);(try clear hi);(try clear ho0);obtain ⟨Ao28,co28,eo28⟩:=Kd.R_slice HO322.out;subst eo28)|(go_at_call 51;(with_reducible refine (slices_Equal_byte_byte.calls k2 _ _ t319 _ _ l0 false _ ?side1 ?side2 ?side3 ?side4 A21.out).mono ?_);(case side1=>repeat (first|exact (Kd.R_reads' HO322.out).2.2|(with_reducible refine Kd.C_alloc ?_ _)|(with_reducible refine Kd.C_drewN ?_ _)|(with_reducible refine Kd.C_drew ?_)));(case side2=>exact (Kd.R_reads' HO322.out).2.1);(case side3=>repeat (first|exact (Kd.C_below HR0.out HB.out)|(with_reducible refine Kd.C_alloc ?_ _)|(with_reducible refine Kd.C_drewN ?_ _)|(with_reducible refine Kd.C_drew ?_)));(case side4=>exact HC0.out);rintro e w' ⟨rfl,⟨nd,rfl⟩⟩))
          go_ret2
          exact ⟨_,by first|rfl|(simp [errW_none,errW_some] <;> rfl)|(simp [*,errW_none,errW_some] <;> rfl),by first|exact Kd.R_nil _ _ _ _ _|exact Kd.N_nil _ _ _ _ _|exact Kd.V_nil _ _ _ _ _|exact Kd.Q_nil _ _ _ _ _|exact Kd.S_nil _ _ _ _ _,by repeat (first|(with_reducible first|exact HB.out|apply below_alloc|apply pw_below_drewN|apply below_drew1)|exact HB.out)⟩
        ·rw [if_neg c20] at H
         have c20b0:(t320 == 0)=false:=beq_eq_false_iff_ne.mpr c20
         have c20b1:(t320 != 0)=true:=bne_iff_ne.mpr c20
         simp only [Option.some.injEq,Prod.mk.injEq] at H
         obtain ⟨rfl,rfl⟩:=H
         obtain ⟨Ao29,co29,eo29⟩:=Kd.R_slice HO_6.out
         subst eo29
         go_wp2_with (first|((with_reducible refine gate_callee (f:=29) rfl ?_);refine goesL_ (some 43) rfl rfl Try.func29 (by kernel_rfl) rfl #[.slice Ao29 x6_2.length co29] rfl (by (try simp only [List.map_toArray,List.map_cons,List.map_nil]);first|done|rfl|(simp only [List.length_drop,List.length_take];rfl)) ?_;(with_reducible refine (layout_EncodeDescs.calls k2 _ _ x6_2 t319 t320 _ ?side1 ?side2 A19.out).mono ?_);(case side1=>repeat (first|exact (Kd.R_reads' HO_6.out).2.2|(with_reducible refine Kd.C_alloc ?_ _)|(with_reducible refine Kd.C_drewN ?_ _)|(with_reducible refine Kd.C_drew ?_)));(case side2=>exact (Kd.R_reads' HO_6.out).2.1);rintro e w30 ⟨v321,rfl,ho0,hb⟩;refine ⟨_,rfl,?_⟩;have n0_:=Aside0.mk (Kd.R_below (by (with_reducible repeat (first|apply Kd.R_alloc|apply Kd.R_drewN|apply Kd.R_drew));exact HO_6.out) hb);have n1_:=Aside0.mk (Kd.R_lower ho0 (below_size (by repeat (first|(with_reducible first|exact HB.out|apply below_alloc|apply pw_below_drewN|apply below_drew1)|exact HB.out))));have n2_:=Aside0.mk (below_step (by repeat (first|(with_reducible first|exact HB.out|apply below_alloc|apply pw_below_drewN|apply below_drew1)|exact HB.out)) hb);clear HO_6 HB;have HO_6:=n0_;have HO322:=n1_;have HB:=n2_;clear n0_ n1_ n2_;(try clear hb);(try clear hb2);(try clear hk);(try clear hi);(try clear ho0)))
         go_ret2
         exact ⟨_,by first|rfl|(simp [errW_none,errW_some] <;> rfl)|(simp [*,errW_none,errW_some] <;> rfl),by first|exact Kd.R_nil _ _ _ _ _|exact Kd.N_nil _ _ _ _ _|exact Kd.V_nil _ _ _ _ _|exact Kd.Q_nil _ _ _ _ _|exact Kd.S_nil _ _ _ _ _,by repeat (first|(with_reducible first|exact HB.out|apply below_alloc|apply pw_below_drewN|apply below_drew1)|exact HB.out)⟩
    ·rw [if_neg c6] at H
     have c6b0:((l0.length:Int) == 256)=false:=beq_eq_false_iff_ne.mpr c6
     have c6b1:((l0.length:Int) != 256)=true:=bne_iff_ne.mpr c6
     simp only [Option.some.injEq,Prod.mk.injEq] at H
     obtain ⟨rfl,rfl⟩:=H
     go_wp2
     go_ret2
     exact ⟨_,by first|rfl|(simp [errW_none,errW_some] <;> rfl)|(simp [*,errW_none,errW_some] <;> rfl),by first|exact Kd.R_nil _ _ _ _ _|exact Kd.N_nil _ _ _ _ _|exact Kd.V_nil _ _ _ _ _|exact Kd.Q_nil _ _ _ _ _|exact Kd.S_nil _ _ _ _ _,by repeat (first|(with_reducible first|exact HB.out|apply below_alloc|apply pw_below_drewN|apply below_drew1)|exact HB.out)⟩
end Go.Proofs.Ytbdnmdmfnopihaa.Print
end
section
namespace Go.Proofs.Ytbdnmdmfnopihaa.Print
open Go.RowKit Go.Proofs.YtbdnmdmfnopihaaW.PrintWords Go.Proofs.YtbdnmdmfnopihaaW.PrintLast Go.Proofs.YtbdnmdmfnopihaaW.PrintMore
attribute [local go_sem] max2_int min2_int max_two min_two max_three min_three max_four min_four   -- for this text's walks alone
attribute [local go_sem ↓] Go.Proofs.Ytbdnmdmfnopihaa.Sem.isSome_setCell
attribute [local go_sem] Go.Instr.field Go.asAgg
set_option linter.unusedVariables false
set_option linter.unusedSimpArgs false
theorem eqA57 (d:Nat) (w:World) (x0 y0:Int) (x1 y1:Int) (x2 y2:Int) :
  (Op.equalIn (d + 2) 57 (.agg #[.int .i64 x0,.int .i64 x1,.int .i64 x2]) (.agg #[.int .i64 y0,.int .i64 y1,.int .i64 y2])).run Try.prog w=.ok (x0 == y0 && (x1 == y1 && (x2 == y2))) w:=by
 refine eqA_of Try.underlying57 (by kernel_rfl) ?_
 refine eqf_cons (by rfl) (by go_simp;rfl) (by go_simp;rfl) (by go_simp) ?_
 refine eqf_cons (by rfl) (by go_simp;rfl) (by go_simp;rfl) (by go_simp) ?_
 exact eqf_last (by rfl) (by go_simp;rfl) (by go_simp;rfl) (by go_simp)
end Go.Proofs.Ytbdnmdmfnopihaa.Print
end
section
namespace Go.Proofs.Ytbdnmdmfnopihaa.Print
open Go.RowKit Go.Proofs.YtbdnmdmfnopihaaW.PrintWords Go.Proofs.YtbdnmdmfnopihaaW.PrintLast Go.Proofs.YtbdnmdmfnopihaaW.PrintMore
attribute [local go_sem] max2_int min2_int max_two min_two max_three min_three max_four min_four   -- for this text's walks alone
attribute [local go_sem ↓] Go.Proofs.Ytbdnmdmfnopihaa.Sem.isSome_setCell
attribute [local go_sem] Go.Instr.field Go.asAgg
set_option linter.unusedVariables false
set_option linter.unusedSimpArgs false
attribute [local go_sem high] eqA57
def bytes_Equal.f (l0:List Int) (l1:List Int):Option (Bool):=some ((strOfNums l0).toList == (strOfNums l1).toList)
set_option maxHeartbeats 8000000 in
set_option maxRecDepth 100000 in
theorem bytes_Equal.calls (A0:Option Addr) (c0:Nat) (l0:List Int) (A1:Option Addr) (c1:Nat) (l1:List Int) (r:Bool) (w:World) (hr0:Kd.C (Kd.int .u8) w A0 l0.length l0) (hc0:l0.length≤c0) (hr1:Kd.C (Kd.int .u8) w A1 l1.length l1) (hc1:l1.length≤c1) (h:bytes_Equal.f l0 l1=some r) :
  Calls Try.prog 33 #[.slice A0 l0.length c0,.slice A1 l1.length c1] w fun e w'=>e=.returned (.bool r)∧Drawn0 w w':=by
 have HR0:=Aside0.mk hr0
 have HC0:=Aside0.mk hc0
 clear hr0 hc0
 have HR1:=Aside0.mk hr1
 have HC1:=Aside0.mk hc1
 clear hr1 hc1
 have H:(some ((strOfNums l0).toList == (strOfNums l1).toList))=some r:=h
 clear h
 obtain rfl:=Option.some.inj H
 have hcv3:=Kd.C_string (P:=Try.prog) (A:=A0) (c:=c0) Try.underlying48 Try.underlying5 Try.underlying9 HR0.out
 have hcv4:=Kd.C_string (P:=Try.prog) (A:=A1) (c:=c1) Try.underlying48 Try.underlying5 Try.underlying9 HR1.out
 go_enter Try.func33,Try.ntmps33
 go_wp2
 go_ret
 exact ⟨by first|rfl|(simp;done)|(simp [*];done),by repeat (first|exact Drawn0.refl _|apply Drawn0.step)⟩
def api_Desc.l0:Nat → List (S57) → List (S57) → Int → Int → Option (Bool)
 | 0,_,_,_,_=>none
 | k + 1,x0,x1,x12,x13=>if x13 < x12 then (if 0≤x13 then (if x13 < (x0.length:Int) then (if x13 < (x1.length:Int) then (if (!(((rd_T57 x0 x13).f0) == ((rd_T57 x1 x13).f0)) || (!(((rd_T57 x0 x13).f1) == ((rd_T57 x1 x13).f1)) || (!(((rd_T57 x0 x13).f2) == ((rd_T57 x1 x13).f2)))))=true then (some false) else (api_Desc.l0 k x0 x1 x12 (wrap64 (x13 + 1)))) else (none)) else (none)) else (none)) else (some true)
def api_Desc.f (k:Nat) (l0:List (S57)) (l1:List (S57)):Option (Bool):=if (l0.length:Int)=(l1.length:Int) then (api_Desc.l0 k l0 l1 (l0.length:Int) 0) else (some false)
set_option maxHeartbeats 8000000 in
set_option maxRecDepth 100000 in
theorem api_Desc.calls (k:Nat) (A0:Option Addr) (c0:Nat) (l0:List (S57)) (A1:Option Addr) (c1:Nat) (l1:List (S57)) (r:Bool) (w:World) (hr0:Kd.C k57 w A0 l0.length l0) (hc0:l0.length≤c0) (hr1:Kd.C k57 w A1 l1.length l1) (hc1:l1.length≤c1) (h:api_Desc.f k l0 l1=some r) :
  Calls Try.prog 34 #[.slice A0 l0.length c0,.slice A1 l1.length c1] w fun e w'=>e=.returned (.bool r)∧Drawn0 w w':=by
 have hu57:=Try.underlying57
 have HR0:=Aside0.mk hr0
 have HC0:=Aside0.mk hc0
 clear hr0 hc0
 have HR1:=Aside0.mk hr1
 have HC1:=Aside0.mk hc1
 clear hr1 hc1
 have H:(if (l0.length:Int)=(l1.length:Int) then (api_Desc.l0 k l0 l1 (l0.length:Int) 0) else (some false))=some r:=h
 clear h
 by_cases c3:(l0.length:Int)=(l1.length:Int)
 ·rw [if_pos c3] at H
  have c3b0:((l0.length:Int) == (l1.length:Int))=true:=beq_iff_eq.mpr c3
  have c3b1:((l0.length:Int) != (l1.length:Int))=false:=bne_eq_false_iff_eq.mpr c3
  have c3b2:(l0.length == l1.length)=true:=by first|simpa using c3|(simp at c3 ⊢;omega)
  clear c3
  have H':=Aside0.mk H
  clear H
  go_enter Try.func34,Try.ntmps34
  go_wp2
  repeat (go_quiet (fail);try go_wp2)
  go_loopg [13] k (fun kq v13 w'=>∃ (x13_1:Int),v13=.int .i64 x13_1∧Aside0 (api_Desc.l0 kq l0 l1 (l0.length:Int) x13_1=some r)∧Aside0 (kq≤k)∧Drawn0 w w')
  case atStart=>exact ⟨(0),(by first|rfl|(simp;done)|(simp [*];done)),H',⟨Nat.le_refl _⟩,by repeat (first|exact Drawn0.refl _|apply Drawn0.step)⟩
  case round =>
   clear H'
   try clear c1
   try clear p2
   try clear c3
   try clear c3b0
   try clear c3b1
   try clear c3b2
   obtain ⟨x13_1,rfl,HA,HK1,⟨m1,rfl⟩⟩:=hrel
   cases gk with
   | zero=>exact absurd HA.out (by simp [api_Desc.l0])
   | succ k1 =>
    have H:=HA.out
    clear HA
    simp only [api_Desc.l0] at H
    by_cases c4:x13_1 < (l0.length:Int)
    ·rw [if_pos c4] at H
     have c4b0:decide (x13_1 < (l0.length:Int))=true:=decide_eq_true c4
     clear c4
     by_cases c5:0≤x13_1
     ·rw [if_pos c5] at H
      have c5b0:decide (0≤x13_1)=true:=decide_eq_true c5
      clear c5
      by_cases c6:x13_1 < (l0.length:Int)
      ·rw [if_pos c6] at H
       have c6b0:decide (x13_1 < (l0.length:Int))=true:=decide_eq_true c6
       clear c6
       by_cases c7:x13_1 < (l1.length:Int)
       ·rw [if_pos c7] at H
        have c7b0:decide (x13_1 < (l1.length:Int))=true:=decide_eq_true c7
        clear c7
        by_cases c8:(!(((rd_T57 l0 x13_1).f0) == ((rd_T57 l1 x13_1).f0)) || (!(((rd_T57 l0 x13_1).f1) == ((rd_T57 l1 x13_1).f1)) || (!(((rd_T57 l0 x13_1).f2) == ((rd_T57 l1 x13_1).f2)))))=true
        ·rw [if_pos c8] at H
         have c8b0:(!(((rd_T57 l0 x13_1).f0) == ((rd_T57 l1 x13_1).f0)) || (!(((rd_T57 l0 x13_1).f1) == ((rd_T57 l1 x13_1).f1)) || (!(((rd_T57 l0 x13_1).f2) == ((rd_T57 l1 x13_1).f2)))))=true:=c8
         clear c8
         obtain rfl:=Option.some.inj H
         have p350:0≤(x13_1:Int):=of_decide_eq_true (by first|(with_reducible assumption)|assumption)
         have q350:x13_1 < (l0.length:Int):=of_decide_eq_true (by first|(with_reducible assumption)|assumption)
         obtain ⟨ad350,e350,hx350_0,hx350_1,hx350_2⟩:=at_T57 HR0.out x13_1 p350 q350
         cases e350
         replace p350:=eq_true p350
         replace q350:=eq_true q350
         have p351:0≤(x13_1:Int):=of_decide_eq_true (by first|(with_reducible assumption)|assumption)
         have q351:x13_1 < (l1.length:Int):=of_decide_eq_true (by first|(with_reducible assumption)|assumption)
         obtain ⟨ad351,e351,hx351_0,hx351_1,hx351_2⟩:=at_T57 HR1.out x13_1 p351 q351
         cases e351
         replace p351:=eq_true p351
         replace q351:=eq_true q351
         go_wp2
         repeat (go_quiet (fail);try go_wp2)
         go_ret
         exact ⟨by first|rfl|(simp;done)|(simp [*];done),by repeat (first|exact Drawn0.refl _|apply Drawn0.step)⟩
        ·rw [if_neg c8] at H
         have c8b0:(!(((rd_T57 l0 x13_1).f0) == ((rd_T57 l1 x13_1).f0)) || (!(((rd_T57 l0 x13_1).f1) == ((rd_T57 l1 x13_1).f1)) || (!(((rd_T57 l0 x13_1).f2) == ((rd_T57 l1 x13_1).f2)))))=false:=by simpa using c8
         clear c8
         have H':=Aside0.mk H
         clear H
         have p350:0≤(x13_1:Int):=of_decide_eq_true (by first|(with_reducible assumption)|assumption)
         have q350:x13_1 < (l0.length:Int):=of_decide_eq_true (by first|(with_reducible assumption)|assumption)
         obtain ⟨ad350,e350,hx350_0,hx350_1,hx350_2⟩:=at_T57 HR0.out x13_1 p350 q350
         cases e350
         replace p350:=eq_true p350
         replace q350:=eq_true q350
         have p351:0≤(x13_1:Int):=of_decide_eq_true (by first|(with_reducible assumption)|assumption)
         have q351:x13_1 < (l1.length:Int):=of_decide_eq_true (by first|(with_reducible assumption)|assumption)
         obtain ⟨ad351,e351,hx351_0,hx351_1,hx351_2⟩:=at_T57 HR1.out x13_1 p351 q351
         cases e351
         replace p351:=eq_true p351
         replace q351:=eq_true q351
         go_wp2
         repeat (go_quiet (fail);try go_wp2)
         go_roundg k1
         case measure=>have:=HK1.out;omega
         case rel=>exact ⟨(wrap64 (x13_1 + 1)),(by first|rfl|(simp;done)|(simp [*];done)),H',⟨by have:=HK1.out;omega⟩,by repeat (first|exact Drawn0.refl _|apply Drawn0.step)⟩
       ·rw [if_neg c7] at H
        exact absurd H (by simp)
      ·rw [if_neg c6] at H
       exact absurd H (by simp)
     ·rw [if_neg c5] at H
      exact absurd H (by simp)
    ·rw [if_neg c4] at H
     have c4b0:decide (x13_1 < (l0.length:Int))=false:=decide_eq_false c4
     clear c4
     obtain rfl:=Option.some.inj H
     go_wp2
     repeat (go_quiet (fail);try go_wp2)
     go_ret
     exact ⟨by first|rfl|(simp;done)|(simp [*];done),by repeat (first|exact Drawn0.refl _|apply Drawn0.step)⟩
 ·rw [if_neg c3] at H
  have c3b0:((l0.length:Int) == (l1.length:Int))=false:=beq_eq_false_iff_ne.mpr c3
  have c3b1:((l0.length:Int) != (l1.length:Int))=true:=bne_iff_ne.mpr c3
  have c3b2:(l0.length == l1.length)=false:=by first|simpa using c3|(simp at c3 ⊢;omega)
  obtain rfl:=Option.some.inj H
  go_enter Try.func34,Try.ntmps34
  go_wp2
  repeat (go_quiet (fail);try go_wp2)
  go_ret
  exact ⟨by first|rfl|(simp;done)|(simp [*];done),by repeat (first|exact Drawn0.refl _|apply Drawn0.step)⟩
end Go.Proofs.Ytbdnmdmfnopihaa.Print
end
section
namespace Go.Proofs.Ytbdnmdmfnopihaa.Print
open Go.RowKit Go.Proofs.YtbdnmdmfnopihaaW.PrintWords Go.Proofs.YtbdnmdmfnopihaaW.PrintLast Go.Proofs.YtbdnmdmfnopihaaW.PrintMore
attribute [local go_sem] max2_int min2_int max_two min_two max_three min_three max_four min_four   -- for this text's walks alone
attribute [local go_sem ↓] Go.Proofs.Ytbdnmdmfnopihaa.Sem.isSome_setCell
attribute [local go_sem] Go.Instr.field Go.asAgg
set_option linter.unusedVariables false
set_option linter.unusedSimpArgs false
def layout_Inodes.f (k:Nat) (a0_0:Int) (a0_1:Int):Option (Int):=(layout_Groups.f k a0_0 a0_1).bind fun t178=>(some (wrap64 (t178 * 16)))
set_option maxHeartbeats 8000000 in
set_option maxRecDepth 100000 in
theorem layout_Inodes.calls (k:Nat) (a0_0:Int) (a0_1:Int) (r:Int) (w:World) (h:layout_Inodes.f k a0_0 a0_1=some r) :
  Calls Try.prog 23 #[.agg #[.int .i64 a0_0,.int .i64 a0_1]] w fun e w'=>e=.returned (.int .i64 r)∧Below w.heap.size w w':=by
 have hu24:=Try.underlying24
 have HB:=Aside0.mk (Below.refl w.heap.size w)
 have H:((layout_Groups.f k a0_0 a0_1).bind fun t178=>(some (wrap64 (t178 * 16))))=some r:=h
 clear h
 replace H:=Option.bind_eq_some_iff.mp H
 obtain ⟨t178,A20,H⟩:=H
 replace H:(some (wrap64 (t178 * 16)))=some r:=H
 have A2:=Aside0.mk A20
 clear A20
 obtain rfl:=Option.some.inj H
 go_enter Try.func23,Try.ntmps23
 go_wp2_with (first|((with_reducible refine gate_dst (N:=1) rfl ?_);refine box_event ?hg (N:=1) ?hd (cs:=#[.int .i64 a0_0,.int .i64 a0_1]) (t:=24) ?hr ?_;(case hd=>rfl);(case hg=>rfl);(case hr=>first|(go_simp;done)|(go_simp;rfl));intro gb177 hg w3 hbox hb;have n0_:=Aside0.mk (below_step (by repeat (first|(with_reducible first|exact HB.out|apply below_alloc|apply pw_below_drewN|apply below_drew1)|exact HB.out)) hb);have n1_:=Aside0.mk (hbox);have n2_:=Aside0.mk ((by rw [hg];exact (below_size (by repeat (first|(with_reducible first|exact HB.out|apply below_alloc|apply pw_below_drewN|apply below_drew1)|exact HB.out))):w.heap.size≤gb177));have n3_:=Aside0.mk ((by rw [hg];exact (below_size (by repeat (first|(with_reducible first|exact HB.out|apply below_alloc|apply pw_below_drewN|apply below_drew1)|exact HB.out))):w.heap.size≤gb177));clear HB;have HB:=n0_;have BK177:=n1_;have GW177:=n2_;have GE177:=n3_;clear n0_ n1_ n2_ n3_;clear hb hbox hg;have hcz4_0:w3.cell? ⟨gb177,0,none⟩=some (.int .i64 a0_0):=(blk_cell BK177.out 0).trans rfl;have hcz4_1:w3.cell? ⟨gb177,1,none⟩=some (.int .i64 a0_1):=(blk_cell BK177.out 1).trans rfl;have hfz4_0:=blk_frozen BK177.out 0;have hfz4_1:=blk_frozen BK177.out 1)|((with_reducible refine gate_callee (f:=17) rfl ?_);refine goesL_ (some 4) rfl rfl Try.func17 (by kernel_rfl) rfl #[.agg #[.int .i64 a0_0,.int .i64 a0_1]] rfl (by (try simp only [List.map_toArray,List.map_cons,List.map_nil]);first|done|rfl|(simp only [List.length_drop,List.length_take];rfl)) ?_;(with_reducible refine (layout_Groups.calls k a0_0 a0_1 t178 _ A2.out).mono ?_);rintro e w5 ⟨rfl,hb⟩;refine ⟨_,rfl,?_⟩;have n0_:=Aside0.mk (blk_below (g:=gb177) (o:=.cells #[.int .i64 a0_0,.int .i64 a0_1] 24 (0,0)) (by (with_reducible repeat (first|refine blk_drewN ?_ _|refine blk_drew ?_|refine blk_alloc ?_ _));exact BK177.out) hb);have n1_:=Aside0.mk (below_step (by repeat (first|(with_reducible first|exact HB.out|apply below_alloc|apply pw_below_drewN|apply below_drew1|refine below_set ?_ GE177.out)|exact HB.out)) hb);clear BK177 HB;have BK177:=n0_;have HB:=n1_;clear n0_ n1_;(try clear hb);(try clear hb2);(try clear hk);(try clear hi)))
 go_ret
 exact ⟨by first|rfl|(simp [errW_none,errW_some] <;> rfl)|(simp [*,errW_none,errW_some] <;> rfl),by repeat (first|(with_reducible first|exact HB.out|apply below_alloc|apply pw_below_drewN|apply below_drew1|refine below_set ?_ GE177.out)|exact HB.out)⟩
end Go.Proofs.Ytbdnmdmfnopihaa.Print
end
section
namespace Go.Proofs.Ytbdnmdmfnopihaa.Print
open Go.RowKit Go.Proofs.YtbdnmdmfnopihaaW.PrintWords Go.Proofs.YtbdnmdmfnopihaaW.PrintLast Go.Proofs.YtbdnmdmfnopihaaW.PrintMore
attribute [local go_sem] max2_int min2_int max_two min_two max_three min_three max_four min_four   -- for this text's walks alone
attribute [local go_sem ↓] Go.Proofs.Ytbdnmdmfnopihaa.Sem.isSome_setCell
attribute [local go_sem] Go.Instr.field Go.asAgg
set_option linter.unusedVariables false
set_option linter.unusedSimpArgs false
-- NOT PRINTED: function 7 (slipwaylaw11_LayoutAsks)
def seal_total.l0:Nat → Int → List Int → Int → Int → Option (Int × Int)
 | 0,_,_,_,_=>none
 | k + 1,x4,x10,x11,x12=>if x12 < x11 then (if 0≤x12 then (if x12 < (x10.length:Int) then (if (rd x10 x12) < 1 then (some (0,1)) else (if (rd x10 x12) > 64 then (some (0,1)) else (seal_total.l0 k (wrap64 (x4 + (rd x10 x12))) x10 x11 (wrap64 (x12 + 1))))) else (none)) else (none)) else (some (x4,0))
def seal_total.f (k:Nat) (l0:List Int):Option (Int × Int):=if (l0.length:Int) > 64 then (some (0,1)) else (seal_total.l0 k 0 l0 (l0.length:Int) 0)
set_option maxHeartbeats 8000000 in
set_option maxRecDepth 100000 in
theorem seal_total.calls (k:Nat) (A0:Option Addr) (c0:Nat) (l0:List Int) (r1:Int) (r2:Int) (w:World) (hr0:Kd.C (Kd.int .i64) w A0 l0.length l0) (hc0:l0.length≤c0) (h:seal_total.f k l0=some (r1,r2)) :
  Calls Try.prog 66 #[.slice A0 l0.length c0] w fun e w'=>e=.returned (.tuple #[.int .i64 r1,.int .i64 r2])∧Drawn0 w w':=by
 have HR0:=Aside0.mk hr0
 have HC0:=Aside0.mk hc0
 clear hr0 hc0
 have H:(if (l0.length:Int) > 64 then (some (0,1)) else (seal_total.l0 k 0 l0 (l0.length:Int) 0))=some (r1,r2):=h
 clear h
 by_cases c2:(l0.length:Int) > 64
 ·rw [if_pos c2] at H
  have c2b0:decide (64 < (l0.length:Int))=true:=decide_eq_true c2
  have c2b1:decide (64 < l0.length)=true:=decide_eq_true (by omega)
  clear c2
  simp only [Option.some.injEq,Prod.mk.injEq] at H
  obtain ⟨rfl,rfl⟩:=H
  go_enter Try.func66,Try.ntmps66
  go_wp2
  go_ret2
  exact ⟨by first|rfl|(simp;done)|(simp [*];done),by repeat (first|exact Drawn0.refl _|apply Drawn0.step)⟩
 ·rw [if_neg c2] at H
  have c2b0:decide (64 < (l0.length:Int))=false:=decide_eq_false c2
  have c2b1:decide (64 < l0.length)=false:=decide_eq_false (by omega)
  clear c2
  have H':=Aside0.mk H
  clear H
  go_enter Try.func66,Try.ntmps66
  go_wp2
  go_loopg [4,12] k (fun kq v4 v12 w'=>∃ (x4_1:Int) (x12_1:Int),v4=.int .i64 x4_1∧v12=.int .i64 x12_1∧Aside0 (seal_total.l0 kq x4_1 l0 (l0.length:Int) x12_1=some (r1,r2))∧Aside0 (kq≤k)∧Drawn0 w w')
  case atStart=>exact ⟨(0),(0),(by first|rfl|(simp;done)|(simp [*];done)),(by first|rfl|(simp;done)|(simp [*];done)),H',⟨Nat.le_refl _⟩,by repeat (first|exact Drawn0.refl _|apply Drawn0.step)⟩
  case round =>
   clear H'
   try clear c2
   try clear c2b0
   try clear c2b1
   try clear p2
   obtain ⟨x4_1,x12_1,rfl,rfl,HA,HK1,⟨m1,rfl⟩⟩:=hrel
   cases gk with
   | zero=>exact absurd HA.out (by simp [seal_total.l0])
   | succ k1 =>
    have H:=HA.out
    clear HA
    simp only [seal_total.l0] at H
    by_cases c3:x12_1 < (l0.length:Int)
    ·rw [if_pos c3] at H
     have c3b0:decide (x12_1 < (l0.length:Int))=true:=decide_eq_true c3
     clear c3
     by_cases c4:0≤x12_1
     ·rw [if_pos c4] at H
      have c4b0:decide (0≤x12_1)=true:=decide_eq_true c4
      clear c4
      by_cases c5:x12_1 < (l0.length:Int)
      ·rw [if_pos c5] at H
       have c5b0:decide (x12_1 < (l0.length:Int))=true:=decide_eq_true c5
       clear c5
       by_cases c6:(rd l0 x12_1) < 1
       ·rw [if_pos c6] at H
        have c6b0:decide ((rd l0 x12_1) < 1)=true:=decide_eq_true c6
        clear c6
        simp only [Option.some.injEq,Prod.mk.injEq] at H
        obtain ⟨rfl,rfl⟩:=H
        have p413:0≤(x12_1:Int):=of_decide_eq_true (by first|(with_reducible assumption)|assumption)
        have q413:x12_1 < (l0.length:Int):=of_decide_eq_true (by first|(with_reducible assumption)|assumption)
        obtain ⟨ad413,e413,hx413_0⟩:=Kd.at_int HR0.out x12_1 p413 q413
        cases e413
        replace p413:=eq_true p413
        replace q413:=eq_true q413
        go_wp2
        go_ret2
        exact ⟨by first|rfl|(simp;done)|(simp [*];done),by repeat (first|exact Drawn0.refl _|apply Drawn0.step)⟩
       ·rw [if_neg c6] at H
        have c6b0:decide ((rd l0 x12_1) < 1)=false:=decide_eq_false c6
        clear c6
        by_cases c7:(rd l0 x12_1) > 64
        ·rw [if_pos c7] at H
         have c7b0:decide (64 < (rd l0 x12_1))=true:=decide_eq_true c7
         clear c7
         simp only [Option.some.injEq,Prod.mk.injEq] at H
         obtain ⟨rfl,rfl⟩:=H
         have p413:0≤(x12_1:Int):=of_decide_eq_true (by first|(with_reducible assumption)|assumption)
         have q413:x12_1 < (l0.length:Int):=of_decide_eq_true (by first|(with_reducible assumption)|assumption)
         obtain ⟨ad413,e413,hx413_0⟩:=Kd.at_int HR0.out x12_1 p413 q413
         cases e413
         replace p413:=eq_true p413
         replace q413:=eq_true q413
         go_wp2
         go_ret2
         exact ⟨by first|rfl|(simp;done)|(simp [*];done),by repeat (first|exact Drawn0.refl _|apply Drawn0.step)⟩
        ·rw [if_neg c7] at H
         have c7b0:decide (64 < (rd l0 x12_1))=false:=decide_eq_false c7
         clear c7
         have H':=Aside0.mk H
         clear H
         have p413:0≤(x12_1:Int):=of_decide_eq_true (by first|(with_reducible assumption)|assumption)
         have q413:x12_1 < (l0.length:Int):=of_decide_eq_true (by first|(with_reducible assumption)|assumption)
         obtain ⟨ad413,e413,hx413_0⟩:=Kd.at_int HR0.out x12_1 p413 q413
         cases e413
         replace p413:=eq_true p413
         replace q413:=eq_true q413
         go_wp2
         go_roundg k1
         case measure=>have:=HK1.out;omega
         case rel=>exact ⟨(wrap64 (x4_1 + (rd l0 x12_1))),(wrap64 (x12_1 + 1)),(by first|rfl|(simp;done)|(simp [*];done)),(by first|rfl|(simp;done)|(simp [*];done)),H',⟨by have:=HK1.out;omega⟩,by repeat (first|exact Drawn0.refl _|apply Drawn0.step)⟩
      ·rw [if_neg c5] at H
       exact absurd H (by simp)
     ·rw [if_neg c4] at H
      exact absurd H (by simp)
    ·rw [if_neg c3] at H
     have c3b0:decide (x12_1 < (l0.length:Int))=false:=decide_eq_false c3
     clear c3
     simp only [Option.some.injEq,Prod.mk.injEq] at H
     obtain ⟨rfl,rfl⟩:=H
     go_wp2
     go_ret2
     exact ⟨by first|rfl|(simp;done)|(simp [*];done),by repeat (first|exact Drawn0.refl _|apply Drawn0.step)⟩
def seal_Width.f (k:Nat) (l0:List Int):Option (Int × Int):=(seal_total.f k l0).bind fun bt414=>(some (wrap64 (Int.tdiv (wrap64 (bt414.1 + 7)) 8),bt414.2))
set_option maxHeartbeats 8000000 in
set_option maxRecDepth 100000 in
theorem seal_Width.calls (k:Nat) (A0:Option Addr) (c0:Nat) (l0:List Int) (r1:Int) (r2:Int) (w:World) (hr0:Kd.C (Kd.int .i64) w A0 l0.length l0) (hc0:l0.length≤c0) (h:seal_Width.f k l0=some (r1,r2)) :
  Calls Try.prog 58 #[.slice A0 l0.length c0] w fun e w'=>e=.returned (.tuple #[.int .i64 r1,.int .i64 r2])∧Drawn0 w w':=by
 have HR0:=Aside0.mk hr0
 have HC0:=Aside0.mk hc0
 clear hr0 hc0
 have H:((seal_total.f k l0).bind fun bt414=>(some (wrap64 (Int.tdiv (wrap64 (bt414.1 + 7)) 8),bt414.2)))=some (r1,r2):=h
 clear h
 replace H:=Option.bind_eq_some_iff.mp H
 obtain ⟨⟨t414,t415⟩,A20,H⟩:=H
 replace H:(some (wrap64 (Int.tdiv (wrap64 (t414 + 7)) 8),t415))=some (r1,r2):=H
 have A2:=Aside0.mk A20
 clear A20
 simp only [Option.some.injEq,Prod.mk.injEq] at H
 obtain ⟨rfl,rfl⟩:=H
 go_enter Try.func58,Try.ntmps58
 go_wp2_with (first|((with_reducible refine gate_callee (f:=66) rfl ?_);refine goesL_ (some 8) rfl rfl Try.func66 (by kernel_rfl) rfl #[.slice A0 l0.length c0] rfl (by (try simp only [List.map_toArray,List.map_cons,List.map_nil]);first|done|rfl|(simp only [List.length_drop,List.length_take];rfl)) ?_;(with_reducible refine (seal_total.calls k _ _ l0 t414 t415 _ ?side1 ?side2 A2.out).mono ?_);(case side1=>repeat (first|exact HR0.out|(with_reducible refine Kd.C_alloc ?_ _)|(with_reducible refine Kd.C_drewN ?_ _)|(with_reducible refine Kd.C_drew ?_)));(case side2=>exact HC0.out);rintro e w' ⟨rfl,⟨nd,rfl⟩⟩;refine ⟨_,rfl,?_⟩))
 go_ret2
 exact ⟨by first|rfl|(simp;done)|(simp [*];done),by repeat (first|exact Drawn0.refl _|apply Drawn0.step)⟩
end Go.Proofs.Ytbdnmdmfnopihaa.Print
end
