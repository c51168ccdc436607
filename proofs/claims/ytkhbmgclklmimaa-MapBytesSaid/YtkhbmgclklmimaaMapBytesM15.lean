/- Texts of the proof of MapBytes, part 15. -/
import Derived.Test.YtkhbmgclklmimaaMapBytesMA
import Derived.Test.YtkhbmgclklmimaaProg
import Derived.Below
import Derived.Deep.Draws
import Derived.Deep.AppendLies
import Derived.Maps.AppendAt
import Derived.OwnWalk
import Derived.Laws.BytesArg
import Derived.Laws.MakeOwn
import Derived.Laws.OwnMore
import Derived.Deep.OwnRows
import Derived.Tactics
import Derived.Lib.ConvBytes
import Derived.Laws.Slices
import Derived.WalkKit
import Derived.KernelRfl
import Derived.RowKit3
import Derived.Deep.LoopGhost
import Derived.Deep.QuietTactic
import Derived.BigQuiet
import Derived.WideLaws
import Derived.Deep.DeepCutAuto
import Derived.Deep.CutBlock
import Derived.Deep.RegionHeld3
import Derived.Laws.Rows
import Derived.Lib.AppendStr
import Derived.ArgAppend
import Derived.Laws.IdiomCopy
import Derived.OrdersHeld
import Derived.Laws.BitsLemmas
import Derived.RowKit
import Derived.Lib.SliceRun
import Derived.Test.YtkhbmgclklmimaaMapBytesM1
import Derived.Test.YtkhbmgclklmimaaMapBytesM10
import Derived.Test.YtkhbmgclklmimaaMapBytesM0
import Derived.Test.YtkhbmgclklmimaaMapBytesM2
import Derived.Test.YtkhbmgclklmimaaMapBytesM11
import Derived.Test.YtkhbmgclklmimaaMapBytesM3
import Derived.Test.YtkhbmgclklmimaaMapBytesM4
import Derived.Test.YtkhbmgclklmimaaMapBytesM5
import Derived.Test.YtkhbmgclklmimaaMapBytesM6
import Derived.Test.YtkhbmgclklmimaaMapBytesM7
import Derived.Test.YtkhbmgclklmimaaMapBytesM12
import Derived.Test.YtkhbmgclklmimaaMapBytesM13
import Derived.Test.YtkhbmgclklmimaaMapBytesM14
import Derived.Test.YtkhbmgclklmimaaMapBytesM9
import Derived.Test.YtkhbmgclklmimaaMapBytesM8
section
namespace Go.Proofs.Ytkhbmgclklmimaa.Print
open Go.RowKit Go.Proofs.YtkhbmgclklmimaaW.PrintWords Go.Proofs.YtkhbmgclklmimaaW.PrintLast Go.Proofs.YtkhbmgclklmimaaW.PrintMore
attribute [local go_sem] max2_int min2_int max_two min_two max_three min_three max_four min_four   -- for this text's walks alone
attribute [local go_sem ↓] Go.Proofs.Ytkhbmgclklmimaa.Sem.isSome_setCell
attribute [local go_sem] Go.Instr.field Go.asAgg
set_option linter.unusedVariables false
set_option linter.unusedSimpArgs false
def errW:Option Int → Value
 | none=>.nilIface
 | some c=>.iface 0 (.int .i64 c)
theorem errW_none:errW none=.nilIface:=rfl
theorem errW_some (c:Int):errW (some c)=.iface 0 (.int .i64 c):=rfl
theorem info2:(Try.prog.info? 2).map (fun i=>(i.zero,i.size,i.bytes))=some (some (.int .i64 0),1,8):=by kernel_rfl
theorem info4:(Try.prog.info? 4).map (fun i=>(i.zero,i.size,i.bytes))=some (some (.bool false),1,1):=by kernel_rfl
theorem info5:(Try.prog.info? 5).map (fun i=>(i.zero,i.size,i.bytes))=some (some (.int .u8 0),1,1):=by kernel_rfl
theorem info55:(Try.prog.info? 55).map (fun i=>(i.zero,i.size,i.bytes))=some (some (.agg #[(.int .i64 0),(.int .i64 0),(.int .i64 0)]),3,24):=by kernel_rfl
-- the values' own types
structure S55 where
 f0:Int
 f1:Int
 f2:Int
def z55:S55:=⟨(0:Int),(0:Int),(0:Int)⟩
def k55:Kd S55:=Kd.iso (Kd.pair (Kd.int .i64) (Kd.pair (Kd.int .i64) (Kd.int .i64))) (fun x:S55=>(x.f0,x.f1,x.f2))
theorem k55_open {w:World} {x:S55} {cs:List Value} (h:k55.K w x cs):cs=[.int .i64 x.f0,.int .i64 x.f1,.int .i64 x.f2]:=by
 obtain ⟨_,_,rfl,rfl,⟨_,_,rfl,rfl,rfl⟩⟩:=h
 exact rfl
theorem k55_mkM (w:World) (base:Nat) (ok:Nat → Prop) (x:S55) :k55.M w base ok x [.int .i64 x.f0,.int .i64 x.f1,.int .i64 x.f2]:=⟨[.int .i64 x.f0],[.int .i64 x.f1,.int .i64 x.f2],rfl,rfl,⟨[.int .i64 x.f1],[.int .i64 x.f2],rfl,rfl,rfl⟩⟩
def rd_T55 (xs:List S55) (i:Int):S55:=xs.getD i.toNat z55
theorem at_T55 {w:World} {A:Option Addr} {n:Nat} {xs:List S55} (h:Kd.C k55 w A n xs) (i:Int) (h0:0≤i) (h1:i < n):∃ ad ,A=some ad∧w.cell? (ad.add (i.toNat * 3))=some (.int .i64 (rd_T55 xs i).f0)∧w.cell? ⟨(ad.add (i.toNat * 3)).block,(ad.add (i.toNat * 3)).off + 1,none⟩=some (.int .i64 (rd_T55 xs i).f1)∧w.cell? ⟨(ad.add (i.toNat * 3)).block,(ad.add (i.toNat * 3)).off + 2,none⟩=some (.int .i64 (rd_T55 xs i).f2):=by
 obtain ⟨ad,c,e,_,hK,hc0⟩:=Kd.C_get h z55 i h0 h1
 have hc:∀ j u,c[j]?=some u → w.cell? (ad.add (i.toNat * 3 + j))=some u:=hc0
 obtain rfl:=k55_open hK
 exact ⟨ad,e,hc 0 _ rfl,by rw [← add_field _ _ 1 (by omega)];exact hc 1 _ rfl,by rw [← add_field _ _ 2 (by omega)];exact hc 2 _ rfl⟩
structure S42 where
 f0:Int
 f1:Int
 f2:Int
 f3:Int
 f4:(List Bool)
 f5:(List Int)
 f6:(List S55)
def z42:S42:=⟨(0:Int),(0:Int),(0:Int),(0:Int),([]:List Bool),([]:List Int),([]:List S55)⟩
def k42:Kd S42:=Kd.iso (Kd.pair (Kd.int .i64) (Kd.pair (Kd.int .i64) (Kd.pair (Kd.int .i64) (Kd.pair (Kd.int .i64) (Kd.pair (Kd.slice 4 Kd.bool) (Kd.pair (Kd.slice 2 (Kd.int .i64)) (Kd.slice 55 k55))))))) (fun x:S42=>(x.f0,x.f1,x.f2,x.f3,x.f4,x.f5,x.f6))
theorem k42_open {w:World} {x:S42} {cs:List Value} (h:k42.K w x cs):∃ A4 c4 A5 c5 A6 c6,cs=[.int .i64 x.f0,.int .i64 x.f1,.int .i64 x.f2,.int .i64 x.f3,.slice A4 x.f4.length c4,.slice A5 x.f5.length c5,.slice A6 x.f6.length c6]∧x.f4.length≤c4∧Kd.bool.C w A4 x.f4.length x.f4∧x.f5.length≤c5∧(Kd.int .i64).C w A5 x.f5.length x.f5∧x.f6.length≤c6∧k55.C w A6 x.f6.length x.f6:=by
 obtain ⟨_,_,rfl,rfl,⟨_,_,rfl,rfl,⟨_,_,rfl,rfl,⟨_,_,rfl,rfl,⟨_,_,rfl,⟨A4,c4,rfl,l4,g4⟩,⟨_,_,rfl,⟨A5,c5,rfl,l5,g5⟩,⟨A6,c6,rfl,l6,g6⟩⟩⟩⟩⟩⟩⟩:=h
 exact ⟨A4,c4,A5,c5,A6,c6,rfl,l4,g4,l5,g5,l6,g6⟩
end Go.Proofs.Ytkhbmgclklmimaa.Print
end
section
namespace Go.Proofs.Ytkhbmgclklmimaa.Print
open Go.RowKit Go.Proofs.YtkhbmgclklmimaaW.PrintWords Go.Proofs.YtkhbmgclklmimaaW.PrintLast Go.Proofs.YtkhbmgclklmimaaW.PrintMore
attribute [local go_sem] max2_int min2_int max_two min_two max_three min_three max_four min_four   -- for this text's walks alone
attribute [local go_sem ↓] Go.Proofs.Ytkhbmgclklmimaa.Sem.isSome_setCell
attribute [local go_sem] Go.Instr.field Go.asAgg
set_option linter.unusedVariables false
set_option linter.unusedSimpArgs false
def mapjnl_seq.f (a0:Int):Option (Bool):=if a0 ≥ 0 then (some (decide (a0≤1152921504606846976))) else (some false)
set_option maxHeartbeats 8000000 in
set_option maxRecDepth 100000 in
theorem mapjnl_seq.calls (a0:Int) (r:Bool) (w:World) (h:mapjnl_seq.f a0=some r) :
  Calls Try.prog 55 #[.int .i64 a0] w fun e w'=>e=.returned (.bool r)∧Drawn0 w w':=by
 have H:(if a0 ≥ 0 then (some (decide (a0≤1152921504606846976))) else (some false))=some r:=h
 clear h
 by_cases c2:a0 ≥ 0
 ·rw [if_pos c2] at H
  have c2b0:decide (0≤a0)=true:=decide_eq_true c2
  clear c2
  obtain rfl:=Option.some.inj H
  go_enter Try.func55,Try.ntmps55
  go_wp2
  go_ret
  exact ⟨by first|rfl|(simp;done)|(simp [*];done),by repeat (first|exact Drawn0.refl _|apply Drawn0.step)⟩
 ·rw [if_neg c2] at H
  have c2b0:decide (0≤a0)=false:=decide_eq_false c2
  clear c2
  obtain rfl:=Option.some.inj H
  go_enter Try.func55,Try.ntmps55
  go_wp2
  go_ret
  exact ⟨by first|rfl|(simp;done)|(simp [*];done),by repeat (first|exact Drawn0.refl _|apply Drawn0.step)⟩
def mapjnl_worn.f (a0:Int):Option (Bool):=if a0 ≥ 0 then (some (decide (a0≤16777215))) else (some false)
set_option maxHeartbeats 8000000 in
set_option maxRecDepth 100000 in
theorem mapjnl_worn.calls (a0:Int) (r:Bool) (w:World) (h:mapjnl_worn.f a0=some r) :
  Calls Try.prog 58 #[.int .i64 a0] w fun e w'=>e=.returned (.bool r)∧Drawn0 w w':=by
 have H:(if a0 ≥ 0 then (some (decide (a0≤16777215))) else (some false))=some r:=h
 clear h
 by_cases c2:a0 ≥ 0
 ·rw [if_pos c2] at H
  have c2b0:decide (0≤a0)=true:=decide_eq_true c2
  clear c2
  obtain rfl:=Option.some.inj H
  go_enter Try.func58,Try.ntmps58
  go_wp2
  go_ret
  exact ⟨by first|rfl|(simp;done)|(simp [*];done),by repeat (first|exact Drawn0.refl _|apply Drawn0.step)⟩
 ·rw [if_neg c2] at H
  have c2b0:decide (0≤a0)=false:=decide_eq_false c2
  clear c2
  obtain rfl:=Option.some.inj H
  go_enter Try.func58,Try.ntmps58
  go_wp2
  go_ret
  exact ⟨by first|rfl|(simp;done)|(simp [*];done),by repeat (first|exact Drawn0.refl _|apply Drawn0.step)⟩
def mapjnl_record.j0:Nat → Bool → Int → Int → Int → Option (Bool)
 | 0,_,_,_,_=>none
 | k + 1,x3,x102000,x102001,x102002=>if x102000=1 then (if x3=true then (some (x102002 == 0)) else (some false)) else (if x102000=2 then (if x3=true then ((mapjnl_worn.f x102002).bind fun t102=>(some t102)) else (some false)) else (if x102000=3 then (if x102001=0 then ((mapjnl_seq.f x102002).bind fun t103=>(some t103)) else (some false)) else (some false)))
def mapjnl_record.f (k:Nat) (a0_0:Int) (a0_1:Int) (a0_2:Int):Option (Bool):=if a0_1 ≥ 0 then (mapjnl_record.j0 k (decide (a0_1 < 256)) a0_0 a0_1 a0_2) else (mapjnl_record.j0 k false a0_0 a0_1 a0_2)
theorem mapjnl_record.mono_l:∀ k,(∀ y0 y1 y2 y3,LeO (mapjnl_record.j0 k y0 y1 y2 y3) (mapjnl_record.j0 (k + 1) y0 y1 y2 y3))
 | 0=>fun _ _ _ _ r h=>by simp [mapjnl_record.j0] at h
 | k + 1=>by
  have ih0:=mapjnl_record.mono_l k
  ·intro y0 y1 y2 y3
   unfold mapjnl_record.j0
   repeat' first
   | (with_reducible exact ih0 _ _ _ _)
   | (with_reducible exact LeO.refl _)
   | (with_reducible exact LeO.none _)
   | (with_reducible refine LeO.ite ?_ ?_)
   | (with_reducible refine LeO.bind ?_ (fun _=>?_))
   | exact ih0 _ _ _ _
   | exact LeO.none _
   | refine LeO.ite ?_ ?_
   | refine LeO.bind ?_ (fun _=>?_)
theorem mapjnl_record.mono:∀ a0 a1 a2 k,LeO (mapjnl_record.f k a0 a1 a2) (mapjnl_record.f (k + 1) a0 a1 a2):=by
 intro a0 a1 a2 k
 have ih0:=mapjnl_record.mono_l k
 unfold mapjnl_record.f
 repeat' first
   | (with_reducible exact ih0 _ _ _ _)
   | (with_reducible exact LeO.refl _)
   | (with_reducible exact LeO.none _)
   | (with_reducible refine LeO.ite ?_ ?_)
   | (with_reducible refine LeO.bind ?_ (fun _=>?_))
   | exact ih0 _ _ _ _
   | exact LeO.none _
   | refine LeO.ite ?_ ?_
   | refine LeO.bind ?_ (fun _=>?_)
set_option maxHeartbeats 8000000 in
set_option maxRecDepth 100000 in
theorem mapjnl_record.calls (k:Nat) (a0_0:Int) (a0_1:Int) (a0_2:Int) (r:Bool) (w:World) (h:mapjnl_record.f k a0_0 a0_1 a0_2=some r) :
  Calls Try.prog 61 #[.agg #[.int .i64 a0_0,.int .i64 a0_1,.int .i64 a0_2]] w fun e w'=>e=.returned (.bool r)∧Below w.heap.size w w':=by
 have hu55:=Try.underlying55
 have HB:=zm (Below.refl w.heap.size w)
 have H:(if a0_1 ≥ 0 then (mapjnl_record.j0 k (decide (a0_1 < 256)) a0_0 a0_1 a0_2) else (mapjnl_record.j0 k false a0_0 a0_1 a0_2))=some r:=h
 clear h
 have HC2:=zm H
 clear H
 go_enter Try.func61,Try.ntmps61
 go_upto_region 1 with (first|((with_reducible refine gate_dst (N:=1) rfl ?_);refine box_event ?hg (N:=1) ?hd (cs:=#[.int .i64 a0_0,.int .i64 a0_1,.int .i64 a0_2]) (t:=55) ?hr ?_;(case hd=>rfl);(case hg=>rfl);(case hr=>first|(go_simp;done)|(go_simp;rfl));intro gb101 hg w3 hbox hb;have n0_:=zm (below_step (by repeat (first|(with_reducible first|exact HB.out|apply zlA|apply zlN|apply zlD)|exact HB.out)) hb);have n1_:=zm (hbox);have n2_:=zm ((by rw [hg];exact (below_size (by repeat (first|(with_reducible first|exact HB.out|apply zlA|apply zlN|apply zlD)|exact HB.out))):w.heap.size≤gb101));have n3_:=zm ((by rw [hg];exact (below_size (by repeat (first|(with_reducible first|exact HB.out|apply zlA|apply zlN|apply zlD)|exact HB.out))):w.heap.size≤gb101));clear HB;have HB:=n0_;have BK101:=n1_;have GW101:=n2_;have GE101:=n3_;clear n0_ n1_ n2_ n3_;clear hb hbox hg))
 (try simp only [Act.put,List.setIfInBounds_toArray,List.set_cons_zero,List.set_cons_succ])
 go_cut [3] (fun v3 wc=>∃ (kq:Nat) (x3_1:Bool),v3=.bool x3_1∧Aside0 (mapjnl_record.j0 kq x3_1 a0_0 a0_1 a0_2=some r)∧Aside0 (kq≤k)∧Aside0 (wc.heap[gb101]?=some (.cells #[.int .i64 a0_0,.int .i64 a0_1,.int .i64 a0_2] 55 (0,0)))∧Aside0 (Below w.heap.size w wc))
 case first =>
  have H:=HC2.out
  clear HC2
  by_cases c4:a0_1 ≥ 0
  ·rw [if_pos c4] at H
   have c4b0:decide (0≤a0_1)=true:=decide_eq_true c4
   clear c4
   (first|rw [c4b0]|(simp only [i64_w,i32_w];rw [c4b0])|skip)
   have H':=zm H
   clear H
   have hcz5_0:w3.cell? ⟨gb101,0,none⟩=some (.int .i64 a0_0):=(blk_cell BK101.out 0).trans rfl
   have hcz5_1:w3.cell? ⟨gb101,1,none⟩=some (.int .i64 a0_1):=(blk_cell BK101.out 1).trans rfl
   have hcz5_2:w3.cell? ⟨gb101,2,none⟩=some (.int .i64 a0_2):=(blk_cell BK101.out 2).trans rfl
   have hfz5_0:=blk_frozen BK101.out 0
   have hfz5_1:=blk_frozen BK101.out 1
   have hfz5_2:=blk_frozen BK101.out 2
   go_wp2
   go_meet
   case rel=>exact ⟨_,(decide (a0_1 < 256)),(by first|rfl|(simp;done)|(simp [*];done)),H',⟨by first|omega|exact Nat.le_refl _⟩,⟨by (with_reducible repeat (first|refine zbN ?_ _|refine zbD ?_|refine zbA ?_ _));exact BK101.out⟩,⟨by repeat (first|(with_reducible first|exact HB.out|apply zlA|apply zlN|apply zlD|refine zlS ?_ GE101.out)|exact HB.out)⟩⟩
  ·rw [if_neg c4] at H
   have c4b0:decide (0≤a0_1)=false:=decide_eq_false c4
   clear c4
   (first|rw [c4b0]|(simp only [i64_w,i32_w];rw [c4b0])|skip)
   have H':=zm H
   clear H
   have hcz6_0:w3.cell? ⟨gb101,0,none⟩=some (.int .i64 a0_0):=(blk_cell BK101.out 0).trans rfl
   have hcz6_1:w3.cell? ⟨gb101,1,none⟩=some (.int .i64 a0_1):=(blk_cell BK101.out 1).trans rfl
   have hcz6_2:w3.cell? ⟨gb101,2,none⟩=some (.int .i64 a0_2):=(blk_cell BK101.out 2).trans rfl
   have hfz6_0:=blk_frozen BK101.out 0
   have hfz6_1:=blk_frozen BK101.out 1
   have hfz6_2:=blk_frozen BK101.out 2
   go_wp2
   go_meet
   case rel=>exact ⟨_,(false),(by first|rfl|(simp;done)|(simp [*];done)),H',⟨by first|omega|exact Nat.le_refl _⟩,⟨by (with_reducible repeat (first|refine zbN ?_ _|refine zbD ?_|refine zbA ?_ _));exact BK101.out⟩,⟨by repeat (first|(with_reducible first|exact HB.out|apply zlA|apply zlN|apply zlD|refine zlS ?_ GE101.out)|exact HB.out)⟩⟩
 case rest =>
  clear HC2
  try clear p2
  try clear c4
  try clear c4b0
  try clear c6
  try clear hcz5_0
  try clear hcz5_1
  try clear hcz5_2
  try clear hcz6_0
  try clear hcz6_1
  try clear hcz6_2
  try clear hfz5_0
  try clear hfz5_1
  try clear hfz5_2
  try clear hfz6_0
  try clear hfz6_1
  try clear hfz6_2
  obtain ⟨kq,x3_1,rfl,HA,HJ1,BK101,HB⟩:=hcut
  cases kq with
  | zero=>exact absurd HA.out (by simp [mapjnl_record.j0])
  | succ kj1 =>
   have H:=HA.out
   clear HA
   simp only [mapjnl_record.j0] at H
   by_cases c7:a0_0=1
   ·rw [if_pos c7] at H
    have c7b0:(a0_0 == 1)=true:=beq_iff_eq.mpr c7
    have c7b1:(a0_0 != 1)=false:=bne_eq_false_iff_eq.mpr c7
    clear c7
    by_cases c8:x3_1=true
    ·subst c8
     have H1:(some (a0_2 == 0))=some r:=by rw [if_pos rfl] at H;exact H
     clear H
     have H:=H1
     clear H1
     obtain rfl:=Option.some.inj H
     have hcz9_0:wc.cell? ⟨gb101,0,none⟩=some (.int .i64 a0_0):=(blk_cell BK101.out 0).trans rfl
     have hcz9_1:wc.cell? ⟨gb101,1,none⟩=some (.int .i64 a0_1):=(blk_cell BK101.out 1).trans rfl
     have hcz9_2:wc.cell? ⟨gb101,2,none⟩=some (.int .i64 a0_2):=(blk_cell BK101.out 2).trans rfl
     have hfz9_0:=blk_frozen BK101.out 0
     have hfz9_1:=blk_frozen BK101.out 1
     have hfz9_2:=blk_frozen BK101.out 2
     go_wp2
     go_ret
     exact ⟨by first|rfl|(simp [errW_none,errW_some] <;> rfl)|(simp [*,errW_none,errW_some] <;> rfl),by repeat (first|(with_reducible first|exact HB.out|apply zlA|apply zlN|apply zlD|refine zlS ?_ GE101.out)|exact HB.out)⟩
    ·replace c8:=Bool.eq_false_iff.mpr c8
     subst c8
     have H1:(some false)=some r:=by rw [if_neg (show ¬ (false=true) by decide)] at H;exact H
     clear H
     have H:=H1
     clear H1
     obtain rfl:=Option.some.inj H
     have hcz10_0:wc.cell? ⟨gb101,0,none⟩=some (.int .i64 a0_0):=(blk_cell BK101.out 0).trans rfl
     have hcz10_1:wc.cell? ⟨gb101,1,none⟩=some (.int .i64 a0_1):=(blk_cell BK101.out 1).trans rfl
     have hcz10_2:wc.cell? ⟨gb101,2,none⟩=some (.int .i64 a0_2):=(blk_cell BK101.out 2).trans rfl
     have hfz10_0:=blk_frozen BK101.out 0
     have hfz10_1:=blk_frozen BK101.out 1
     have hfz10_2:=blk_frozen BK101.out 2
     go_wp2
     go_ret
     exact ⟨by first|rfl|(simp [errW_none,errW_some] <;> rfl)|(simp [*,errW_none,errW_some] <;> rfl),by repeat (first|(with_reducible first|exact HB.out|apply zlA|apply zlN|apply zlD|refine zlS ?_ GE101.out)|exact HB.out)⟩
   ·rw [if_neg c7] at H
    have c7b0:(a0_0 == 1)=false:=beq_eq_false_iff_ne.mpr c7
    have c7b1:(a0_0 != 1)=true:=bne_iff_ne.mpr c7
    by_cases c11:a0_0=2
    ·rw [if_pos c11] at H
     have c11b0:(a0_0 == 2)=true:=beq_iff_eq.mpr c11
     have c11b1:(a0_0 != 2)=false:=bne_eq_false_iff_eq.mpr c11
     clear c11
     by_cases c12:x3_1=true
     ·subst c12
      have H1:((mapjnl_worn.f a0_2).bind fun t102=>(some t102))=some r:=by rw [if_pos rfl] at H;exact H
      clear H
      have H:=H1
      clear H1
      replace H:=Option.bind_eq_some_iff.mp H
      obtain ⟨t102,A130,H⟩:=H
      replace H:(some t102)=some r:=H
      have A13:=zm A130
      clear A130
      obtain rfl:=Option.some.inj H
      have hcz14_0:wc.cell? ⟨gb101,0,none⟩=some (.int .i64 a0_0):=(blk_cell BK101.out 0).trans rfl
      have hcz14_1:wc.cell? ⟨gb101,1,none⟩=some (.int .i64 a0_1):=(blk_cell BK101.out 1).trans rfl
      have hcz14_2:wc.cell? ⟨gb101,2,none⟩=some (.int .i64 a0_2):=(blk_cell BK101.out 2).trans rfl
      have hfz14_0:=blk_frozen BK101.out 0
      have hfz14_1:=blk_frozen BK101.out 1
      have hfz14_2:=blk_frozen BK101.out 2
      go_wp2_with (first|(go_at_call 58;(with_reducible refine (mapjnl_worn.calls a0_2 t102 _ A13.out).mono ?_);rintro e w' ⟨rfl,⟨nd,rfl⟩⟩))
      go_ret
      exact ⟨by first|rfl|(simp [errW_none,errW_some] <;> rfl)|(simp [*,errW_none,errW_some] <;> rfl),by repeat (first|(with_reducible first|exact HB.out|apply zlA|apply zlN|apply zlD|refine zlS ?_ GE101.out)|exact HB.out)⟩
     ·replace c12:=Bool.eq_false_iff.mpr c12
      subst c12
      have H1:(some false)=some r:=by rw [if_neg (show ¬ (false=true) by decide)] at H;exact H
      clear H
      have H:=H1
      clear H1
      obtain rfl:=Option.some.inj H
      have hcz15_0:wc.cell? ⟨gb101,0,none⟩=some (.int .i64 a0_0):=(blk_cell BK101.out 0).trans rfl
      have hcz15_1:wc.cell? ⟨gb101,1,none⟩=some (.int .i64 a0_1):=(blk_cell BK101.out 1).trans rfl
      have hcz15_2:wc.cell? ⟨gb101,2,none⟩=some (.int .i64 a0_2):=(blk_cell BK101.out 2).trans rfl
      have hfz15_0:=blk_frozen BK101.out 0
      have hfz15_1:=blk_frozen BK101.out 1
      have hfz15_2:=blk_frozen BK101.out 2
      go_wp2
      go_ret
      exact ⟨by first|rfl|(simp [errW_none,errW_some] <;> rfl)|(simp [*,errW_none,errW_some] <;> rfl),by repeat (first|(with_reducible first|exact HB.out|apply zlA|apply zlN|apply zlD|refine zlS ?_ GE101.out)|exact HB.out)⟩
    ·rw [if_neg c11] at H
     have c11b0:(a0_0 == 2)=false:=beq_eq_false_iff_ne.mpr c11
     have c11b1:(a0_0 != 2)=true:=bne_iff_ne.mpr c11
     by_cases c16:a0_0=3
     ·rw [if_pos c16] at H
      have c16b0:(a0_0 == 3)=true:=beq_iff_eq.mpr c16
      have c16b1:(a0_0 != 3)=false:=bne_eq_false_iff_eq.mpr c16
      clear c16
      by_cases c17:a0_1=0
      ·rw [if_pos c17] at H
       have c17b0:(a0_1 == 0)=true:=beq_iff_eq.mpr c17
       have c17b1:(a0_1 != 0)=false:=bne_eq_false_iff_eq.mpr c17
       clear c17
       replace H:=Option.bind_eq_some_iff.mp H
       obtain ⟨t103,A180,H⟩:=H
       replace H:(some t103)=some r:=H
       have A18:=zm A180
       clear A180
       obtain rfl:=Option.some.inj H
       have hcz19_0:wc.cell? ⟨gb101,0,none⟩=some (.int .i64 a0_0):=(blk_cell BK101.out 0).trans rfl
       have hcz19_1:wc.cell? ⟨gb101,1,none⟩=some (.int .i64 a0_1):=(blk_cell BK101.out 1).trans rfl
       have hcz19_2:wc.cell? ⟨gb101,2,none⟩=some (.int .i64 a0_2):=(blk_cell BK101.out 2).trans rfl
       have hfz19_0:=blk_frozen BK101.out 0
       have hfz19_1:=blk_frozen BK101.out 1
       have hfz19_2:=blk_frozen BK101.out 2
       go_wp2_with (first|(go_at_call 55;(with_reducible refine (mapjnl_seq.calls a0_2 t103 _ A18.out).mono ?_);rintro e w' ⟨rfl,⟨nd,rfl⟩⟩))
       go_ret
       exact ⟨by first|rfl|(simp [errW_none,errW_some] <;> rfl)|(simp [*,errW_none,errW_some] <;> rfl),by repeat (first|(with_reducible first|exact HB.out|apply zlA|apply zlN|apply zlD|refine zlS ?_ GE101.out)|exact HB.out)⟩
      ·rw [if_neg c17] at H
       have c17b0:(a0_1 == 0)=false:=beq_eq_false_iff_ne.mpr c17
       have c17b1:(a0_1 != 0)=true:=bne_iff_ne.mpr c17
       obtain rfl:=Option.some.inj H
       have hcz20_0:wc.cell? ⟨gb101,0,none⟩=some (.int .i64 a0_0):=(blk_cell BK101.out 0).trans rfl
       have hcz20_1:wc.cell? ⟨gb101,1,none⟩=some (.int .i64 a0_1):=(blk_cell BK101.out 1).trans rfl
       have hcz20_2:wc.cell? ⟨gb101,2,none⟩=some (.int .i64 a0_2):=(blk_cell BK101.out 2).trans rfl
       have hfz20_0:=blk_frozen BK101.out 0
       have hfz20_1:=blk_frozen BK101.out 1
       have hfz20_2:=blk_frozen BK101.out 2
       go_wp2
       go_ret
       exact ⟨by first|rfl|(simp [errW_none,errW_some] <;> rfl)|(simp [*,errW_none,errW_some] <;> rfl),by repeat (first|(with_reducible first|exact HB.out|apply zlA|apply zlN|apply zlD|refine zlS ?_ GE101.out)|exact HB.out)⟩
     ·rw [if_neg c16] at H
      have c16b0:(a0_0 == 3)=false:=beq_eq_false_iff_ne.mpr c16
      have c16b1:(a0_0 != 3)=true:=bne_iff_ne.mpr c16
      obtain rfl:=Option.some.inj H
      have hcz21_0:wc.cell? ⟨gb101,0,none⟩=some (.int .i64 a0_0):=(blk_cell BK101.out 0).trans rfl
      have hcz21_1:wc.cell? ⟨gb101,1,none⟩=some (.int .i64 a0_1):=(blk_cell BK101.out 1).trans rfl
      have hcz21_2:wc.cell? ⟨gb101,2,none⟩=some (.int .i64 a0_2):=(blk_cell BK101.out 2).trans rfl
      have hfz21_0:=blk_frozen BK101.out 0
      have hfz21_1:=blk_frozen BK101.out 1
      have hfz21_2:=blk_frozen BK101.out 2
      go_wp2
      go_ret
      exact ⟨by first|rfl|(simp [errW_none,errW_some] <;> rfl)|(simp [*,errW_none,errW_some] <;> rfl),by repeat (first|(with_reducible first|exact HB.out|apply zlA|apply zlN|apply zlD|refine zlS ?_ GE101.out)|exact HB.out)⟩
def mapjnl_blocks.f (a0:Int):Option (Bool):=if a0 ≥ 16 then (some (decide (a0≤256))) else (some false)
set_option maxHeartbeats 8000000 in
set_option maxRecDepth 100000 in
theorem mapjnl_blocks.calls (a0:Int) (r:Bool) (w:World) (h:mapjnl_blocks.f a0=some r) :
  Calls Try.prog 49 #[.int .i64 a0] w fun e w'=>e=.returned (.bool r)∧Drawn0 w w':=by
 have H:(if a0 ≥ 16 then (some (decide (a0≤256))) else (some false))=some r:=h
 clear h
 by_cases c2:a0 ≥ 16
 ·rw [if_pos c2] at H
  have c2b0:decide (16≤a0)=true:=decide_eq_true c2
  clear c2
  obtain rfl:=Option.some.inj H
  go_enter Try.func49,Try.ntmps49
  go_wp2
  go_ret
  exact ⟨by first|rfl|(simp;done)|(simp [*];done),by repeat (first|exact Drawn0.refl _|apply Drawn0.step)⟩
 ·rw [if_neg c2] at H
  have c2b0:decide (16≤a0)=false:=decide_eq_false c2
  clear c2
  obtain rfl:=Option.some.inj H
  go_enter Try.func49,Try.ntmps49
  go_wp2
  go_ret
  exact ⟨by first|rfl|(simp;done)|(simp [*];done),by repeat (first|exact Drawn0.refl _|apply Drawn0.step)⟩
end Go.Proofs.Ytkhbmgclklmimaa.Print
end
section
namespace Go.Proofs.Ytkhbmgclklmimaa.Print
open Go.RowKit Go.Proofs.YtkhbmgclklmimaaW.PrintWords Go.Proofs.YtkhbmgclklmimaaW.PrintLast Go.Proofs.YtkhbmgclklmimaaW.PrintMore
attribute [local go_sem] max2_int min2_int max_two min_two max_three min_three max_four min_four   -- for this text's walks alone
attribute [local go_sem ↓] Go.Proofs.Ytkhbmgclklmimaa.Sem.isSome_setCell
attribute [local go_sem] Go.Instr.field Go.asAgg
set_option linter.unusedVariables false
set_option linter.unusedSimpArgs false
def mapjnl_New.f (a0:Int):Option (List Bool × List Int × Int × Int):=(mapjnl_blocks.f a0).bind fun t105=>(if t105=true then (if 0≤a0 then (if (a0:Int).toNat≤281474976710656 then (if (a0:Int).toNat≤35184372088832 then (some ((List.replicate (a0:Int).toNat false),(List.replicate (a0:Int).toNat 0),0,0)) else (none)) else (none)) else (none)) else (some (([]:List Bool),([]:List Int),0,20)))
set_option maxHeartbeats 8000000 in
set_option maxRecDepth 100000 in
theorem mapjnl_New.calls (a0:Int) (r1:List Bool) (r2:List Int) (r3:Int) (r4:Int) (w:World) (h:mapjnl_New.f a0=some (r1,r2,r3,r4)) :
  Calls Try.prog 11 #[.int .i64 a0] w fun e w'=>∃ v0_ v1_:Value,e=.returned (.tuple #[.agg #[v0_,v1_,.int .i64 r3],.int .i64 r4])∧Kd.R Kd.bool 4 w' w.heap.size (fun _=>True) v0_ r1∧Kd.R (Kd.int .i64) 2 w' w.heap.size (fun _=>True) v1_ r2∧Below w.heap.size w w':=by
 have hu25:=Try.underlying25
 have HB:=zm (Below.refl w.heap.size w)
 have H:((mapjnl_blocks.f a0).bind fun t105=>(if t105=true then (if 0≤a0 then (if (a0:Int).toNat≤281474976710656 then (if (a0:Int).toNat≤35184372088832 then (some ((List.replicate (a0:Int).toNat false),(List.replicate (a0:Int).toNat 0),0,0)) else (none)) else (none)) else (none)) else (some (([]:List Bool),([]:List Int),0,20))))=some (r1,r2,r3,r4):=h
 clear h
 replace H:=Option.bind_eq_some_iff.mp H
 obtain ⟨t105,A20,H⟩:=H
 replace H:(if t105=true then (if 0≤a0 then (if (a0:Int).toNat≤281474976710656 then (if (a0:Int).toNat≤35184372088832 then (some ((List.replicate (a0:Int).toNat false),(List.replicate (a0:Int).toNat 0),0,0)) else (none)) else (none)) else (none)) else (some (([]:List Bool),([]:List Int),0,20)))=some (r1,r2,r3,r4):=H
 have A2:=zm A20
 clear A20
 by_cases c3:t105=true
 ·subst c3
  have H1:(if 0≤a0 then (if (a0:Int).toNat≤281474976710656 then (if (a0:Int).toNat≤35184372088832 then (some ((List.replicate (a0:Int).toNat false),(List.replicate (a0:Int).toNat 0),0,0)) else (none)) else (none)) else (none))=some (r1,r2,r3,r4):=by rw [if_pos rfl] at H;exact H
  clear H
  have H:=H1
  clear H1
  by_cases c4:0≤a0
  ·rw [if_pos c4] at H
   have c4b0:=eq_true c4
   have c4b1:decide (0≤a0)=true:=decide_eq_true c4
   clear c4
   by_cases c5:(a0:Int).toNat≤281474976710656
   ·rw [if_pos c5] at H
    have c5b0:=eq_true c5
    have c5b1:decide ((a0:Int).toNat≤281474976710656)=true:=decide_eq_true c5
    clear c5
    obtain ⟨y106,hy106⟩:∃ y_:List Bool,y_=(List.replicate (a0:Int).toNat false):=⟨_,rfl⟩
    replace H:(if (a0:Int).toNat≤35184372088832 then (some (y106,(List.replicate (a0:Int).toNat 0),0,0)) else (none))=some (r1,r2,r3,r4):=by first|(rw [hy106];with_reducible exact H)|(have H2_:=(Option.bind_some _ _).symm.trans H;rw [hy106];with_reducible exact H2_)|(have H2_:=(Option.bind_some _ _).symm.trans H;with_reducible exact H2_)|with_reducible exact H|(rw [hy106];exact H)|exact H
    have Ny106:=zm hy106
    clear hy106
    by_cases c6:(a0:Int).toNat≤35184372088832
    ·rw [if_pos c6] at H
     have c6b0:=eq_true c6
     have c6b1:decide ((a0:Int).toNat≤35184372088832)=true:=decide_eq_true c6
     clear c6
     obtain ⟨y109,hy109⟩:∃ y_:List Int,y_=(List.replicate (a0:Int).toNat 0):=⟨_,rfl⟩
     replace H:(some (y106,y109,0,0))=some (r1,r2,r3,r4):=by first|(rw [hy109];with_reducible exact H)|(have H2_:=(Option.bind_some _ _).symm.trans H;rw [hy109];with_reducible exact H2_)|(have H2_:=(Option.bind_some _ _).symm.trans H;with_reducible exact H2_)|with_reducible exact H|(rw [hy109];exact H)|exact H
     have Ny109:=zm hy109
     clear hy109
     simp only [Option.some.injEq,Prod.mk.injEq] at H
     obtain ⟨rfl,rfl,rfl,rfl⟩:=H
     go_enter Try.func11,Try.ntmps11
     try go_wp2_with (first|((with_reducible refine gate_dst (N:=2) rfl ?_);refine box_event ?hg (N:=2) ?hd (cs:=#[.slice none 0 0,.slice none 0 0,.int .i64 0]) (t:=25) ?hr ?_;(case hd=>rfl);(case hg=>rfl);(case hr=>first|(go_simp;done)|(go_simp;rfl));intro gb104 hg w7 hbox hb;have n0_:=zm (below_step (by repeat (first|(with_reducible first|exact HB.out|apply zlA|apply zlN|apply zlD)|exact HB.out)) hb);have n1_:=zm (hbox);have n2_:=zm ((by rw [hg];exact (below_size (by repeat (first|(with_reducible first|exact HB.out|apply zlA|apply zlN|apply zlD)|exact HB.out))):w.heap.size≤gb104));have n3_:=zm ((by rw [hg];exact (below_size (by repeat (first|(with_reducible first|exact HB.out|apply zlA|apply zlN|apply zlD)|exact HB.out))):w.heap.size≤gb104));clear HB;have HB:=n0_;have BK104:=n1_;have GW104:=n2_;have GE104:=n3_;clear n0_ n1_ n2_ n3_;clear hb hbox hg)|((with_reducible refine gate_callee (f:=49) rfl ?_);refine goesL_ (some 5) rfl rfl Try.func49 (by kernel_rfl) rfl #[.int .i64 a0] rfl (by (try simp only [List.map_toArray,List.map_cons,List.map_nil]);first|done|rfl|(simp only [List.length_drop,List.length_take];rfl)) ?_;(with_reducible refine (mapjnl_blocks.calls a0 true _ A2.out).mono ?_);rintro e w' ⟨rfl,⟨nd,rfl⟩⟩;refine ⟨_,rfl,?_⟩;(try (rw [drewN_self w7];generalize hq_:World.drewN w7 _=w7;have n0_:Aside0 (w7.heap[gb104]?=some (.cells #[.slice none 0 0,.slice none 0 0,.int .i64 0] 25 (0,0))):=⟨by rw [← hq_];exact (by (with_reducible repeat (first|refine zbN ?_ _|refine zbD ?_|refine zbA ?_ _));exact BK104.out)⟩;have n1_:Aside0 (Below w.heap.size w w7):=⟨by rw [← hq_];exact (by repeat (first|(with_reducible first|exact HB.out|apply zlA|apply zlN|apply zlD|refine zlS ?_ GE104.out)|exact HB.out))⟩;clear BK104 HB hq_;have BK104:=n0_;have HB:=n1_;clear n0_ n1_))))
     have n0_:=zm (zbD BK104.out)
     have n1_:=zm (zlD HB.out)
     clear BK104 HB
     have BK104:=n0_
     have HB:=n1_
     clear n0_ n1_
     refine start_ (n:=7) (S:=fun w'=>True) (ds:=[]) #[false,false,false,false,false,false,false] (by kernel_rfl) rfl rfl trivial (fun hHeld=>?_)
     generalize w7.drew=w8 at BK104 HB hHeld ⊢
     refine pure_ (i:=0) (N:=some 8) (v:=?_) (a':=?_) #[true,false,false,false,false,false,false] rfl rfl (by kernel_rfl) (fun _ _ _ h=>h) (Or.inl ⟨by rfl,?_⟩) ?_ ?_
     rotate_left
     ·intro w'
      go_simp
      with_reducible rfl
     rotate_left
     ·simp only [Act.put,List.setIfInBounds_toArray,List.set_cons_zero,List.set_cons_succ,i64_w,i32_w]
      rfl
     refine pure_ (i:=2) (N:=some 10) (v:=?_) (a':=?_) #[true,false,true,false,false,false,false] rfl rfl (by kernel_rfl) (fun _ _ _ h=>h) (Or.inl ⟨by rfl,?_⟩) ?_ ?_
     rotate_left
     ·intro w'
      go_simp
      with_reducible rfl
     rotate_left
     ·simp only [Act.put,List.setIfInBounds_toArray,List.set_cons_zero,List.set_cons_succ,i64_w,i32_w]
      rfl
     refine join_ (σ:=Value × Value) 3 #[true,true,true,true,false,false,false] (fun s_=>[(9,s_.1),(11,s_.2)]) (fun s_ w'=>(Kd.R Kd.bool 4 w' w.heap.size (fun _=>True) s_.1 y106)∧(Kd.R (Kd.int .i64) 2 w' w.heap.size (fun _=>True) s_.2 y109)∧(w'.heap[gb104]?=some (.cells #[.slice none 0 0,.slice none 0 0,.int .i64 0] 25 (0,0)))∧(Below w.heap.size w w')) ?_ ?_
     rotate_left
     ·intro hCont
      refine two_ (i:=1) (j:=3) (Ni:=some 9) (Nj:=some 11) #[true,true,true,false,false,false,false] #[true,false,true,true,false,false,false] rfl rfl rfl rfl (by kernel_rfl) (by decide) (by decide) (fun K hK=>?_) (fun K hK=>?_)
      ·skip
       refine Kd.R_make_step Kd.bool _ 4 (by rfl) (N:=9) rfl 22 _ _ rfl a0 rfl rfl Try.underlying22 (.bool false) 1 info4 rfl (by decide) (by omega) false (ok:=fun _=>True) (okp:=fun _=>True) rfl (fun _ hk=>hk) trivial (of_decide_eq_true (by first|(with_reducible assumption)|assumption)) (Nat.le_trans (Nat.mul_le_mul_right _ (of_decide_eq_true (by first|(with_reducible assumption)|assumption):a0.toNat≤281474976710656)) (by omega)) (Below.refl _ _) (Nat.le_refl _) ?_
       intro v107 w9 ho10 hb hg_ hnew_
       clear hg_ hnew_
       (first|rw [← Ny106.out] at ho10|(simp only [Int.reduceToNat] at ho10;rw [← Ny106.out] at ho10))
       have n0_:=zm (Kd.R_lower ho10 (below_size (by repeat (first|(with_reducible first|exact HB.out|apply zlA|apply zlN|apply zlD|refine zlS ?_ GE104.out)|exact HB.out))))
       have n1_:=zm (zbB (g:=gb104) (o:=.cells #[.slice none 0 0,.slice none 0 0,.int .i64 0] 25 (0,0)) (by (with_reducible repeat (first|refine zbN ?_ _|refine zbD ?_|refine zbA ?_ _));exact BK104.out) hb)
       have n2_:=zm (below_step (by repeat (first|(with_reducible first|exact HB.out|apply zlA|apply zlN|apply zlD|refine zlS ?_ GE104.out)|exact HB.out)) hb)
       clear BK104 HB
       have HO108:=n0_
       have BK104:=n1_
       have HB:=n2_
       clear n0_ n1_ n2_ hb ho10
       refine hK.out _ _ trivial (fun hHeld=>?_)
       clear hK K
       refine norm_ (a':=?_) ?_ ?_
       rotate_left
       ·show Act.put _ (some 9) _=_
        simp only [Act.put,List.setIfInBounds_toArray,List.set_cons_zero,List.set_cons_succ,i64_w,i32_w]
        rfl
       refine one_ (i:=3) (N:=some 11) #[true,true,true,true,false,false,false] rfl rfl (by kernel_rfl) (by decide) (fun K hK=>?_)
       refine Kd.R_make_step (Kd.int .i64) _ 2 (by rfl) (N:=11) rfl 23 _ _ rfl a0 rfl rfl Try.underlying23 (.int .i64 0) 8 info2 rfl (by decide) (by omega) 0 (ok:=fun _=>True) (okp:=fun _=>True) rfl (fun _ hk=>hk) trivial (of_decide_eq_true (by first|(with_reducible assumption)|assumption)) (Nat.le_trans (Nat.mul_le_mul_right _ (of_decide_eq_true (by first|(with_reducible assumption)|assumption):a0.toNat≤35184372088832)) (by omega)) (Below.refl _ _) (Nat.le_refl _) ?_
       intro v110 w11 ho12 hb hg_ hnew_
       clear hg_ hnew_
       (first|rw [← Ny109.out] at ho12|(simp only [Int.reduceToNat] at ho12;rw [← Ny109.out] at ho12))
       have n0_:=zm (Kd.R_below (by (with_reducible repeat (first|apply zrA|apply zrN|apply zrD));exact HO108.out) hb)
       have n1_:=zm (Kd.R_lower ho12 (below_size (by repeat (first|(with_reducible first|exact HB.out|apply zlA|apply zlN|apply zlD|refine zlS ?_ GE104.out)|exact HB.out))))
       have n2_:=zm (zbB (g:=gb104) (o:=.cells #[.slice none 0 0,.slice none 0 0,.int .i64 0] 25 (0,0)) (by (with_reducible repeat (first|refine zbN ?_ _|refine zbD ?_|refine zbA ?_ _));exact BK104.out) hb)
       have n3_:=zm (below_step (by repeat (first|(with_reducible first|exact HB.out|apply zlA|apply zlN|apply zlD|refine zlS ?_ GE104.out)|exact HB.out)) hb)
       clear HO108 BK104 HB
       have HO108:=n0_
       have HO111:=n1_
       have BK104:=n2_
       have HB:=n3_
       clear n0_ n1_ n2_ n3_ hb ho12
       obtain ⟨Ao13,co13,eo13⟩:=Kd.R_slice HO111.out
       (first|subst eo13|(injection eo13 with f1_ f2_ f3_;have f4_:=f1_.symm;have f5_:=f3_.symm;clear f1_ f2_ f3_;subst f4_;subst f5_))
       obtain ⟨Ao14,co14,eo14⟩:=Kd.R_slice HO108.out
       (first|subst eo14|(injection eo14 with f1_ f2_ f3_;have f4_:=f1_.symm;have f5_:=f3_.symm;clear f1_ f2_ f3_;subst f4_;subst f5_))
       refine hK.out _ _ trivial (fun hHeld=>?_)
       clear hK K
       refine norm_ (a':=?_) ?_ ?_
       rotate_left
       ·show Act.put _ (some 11) _=_
        simp only [Act.put,List.setIfInBounds_toArray,List.set_cons_zero,List.set_cons_succ,i64_w,i32_w]
        rfl
       exact norm_ (by simp only [putAll,Act.put,List.setIfInBounds_toArray,List.set_cons_zero,List.set_cons_succ]) (hCont (.slice Ao14 y106.length co14,.slice Ao13 y109.length co13) _ ⟨(by (with_reducible repeat (first|apply zrA|apply zrN|apply zrD));exact HO108.out),(by (with_reducible repeat (first|apply zrA|apply zrN|apply zrD));exact HO111.out),(by (with_reducible repeat (first|refine zbN ?_ _|refine zbD ?_|refine zbA ?_ _));exact BK104.out),(by repeat (first|(with_reducible first|exact HB.out|apply zlA|apply zlN|apply zlD|refine zlS ?_ GE104.out)|exact HB.out))⟩)
      ·skip
       refine Kd.R_make_step (Kd.int .i64) _ 2 (by rfl) (N:=11) rfl 23 _ _ rfl a0 rfl rfl Try.underlying23 (.int .i64 0) 8 info2 rfl (by decide) (by omega) 0 (ok:=fun _=>True) (okp:=fun _=>True) rfl (fun _ hk=>hk) trivial (of_decide_eq_true (by first|(with_reducible assumption)|assumption)) (Nat.le_trans (Nat.mul_le_mul_right _ (of_decide_eq_true (by first|(with_reducible assumption)|assumption):a0.toNat≤35184372088832)) (by omega)) (Below.refl _ _) (Nat.le_refl _) ?_
       intro v110 w9 ho10 hb hg_ hnew_
       clear hg_ hnew_
       (first|rw [← Ny109.out] at ho10|(simp only [Int.reduceToNat] at ho10;rw [← Ny109.out] at ho10))
       have n0_:=zm (Kd.R_lower ho10 (below_size (by repeat (first|(with_reducible first|exact HB.out|apply zlA|apply zlN|apply zlD|refine zlS ?_ GE104.out)|exact HB.out))))
       have n1_:=zm (zbB (g:=gb104) (o:=.cells #[.slice none 0 0,.slice none 0 0,.int .i64 0] 25 (0,0)) (by (with_reducible repeat (first|refine zbN ?_ _|refine zbD ?_|refine zbA ?_ _));exact BK104.out) hb)
       have n2_:=zm (below_step (by repeat (first|(with_reducible first|exact HB.out|apply zlA|apply zlN|apply zlD|refine zlS ?_ GE104.out)|exact HB.out)) hb)
       clear BK104 HB
       have HO111:=n0_
       have BK104:=n1_
       have HB:=n2_
       clear n0_ n1_ n2_ hb ho10
       refine hK.out _ _ trivial (fun hHeld=>?_)
       clear hK K
       refine norm_ (a':=?_) ?_ ?_
       rotate_left
       ·show Act.put _ (some 11) _=_
        simp only [Act.put,List.setIfInBounds_toArray,List.set_cons_zero,List.set_cons_succ,i64_w,i32_w]
        rfl
       refine one_ (i:=1) (N:=some 9) #[true,true,true,true,false,false,false] rfl rfl (by kernel_rfl) (by decide) (fun K hK=>?_)
       refine Kd.R_make_step Kd.bool _ 4 (by rfl) (N:=9) rfl 22 _ _ rfl a0 rfl rfl Try.underlying22 (.bool false) 1 info4 rfl (by decide) (by omega) false (ok:=fun _=>True) (okp:=fun _=>True) rfl (fun _ hk=>hk) trivial (of_decide_eq_true (by first|(with_reducible assumption)|assumption)) (Nat.le_trans (Nat.mul_le_mul_right _ (of_decide_eq_true (by first|(with_reducible assumption)|assumption):a0.toNat≤281474976710656)) (by omega)) (Below.refl _ _) (Nat.le_refl _) ?_
       intro v107 w11 ho12 hb hg_ hnew_
       clear hg_ hnew_
       (first|rw [← Ny106.out] at ho12|(simp only [Int.reduceToNat] at ho12;rw [← Ny106.out] at ho12))
       have n0_:=zm (Kd.R_below (by (with_reducible repeat (first|apply zrA|apply zrN|apply zrD));exact HO111.out) hb)
       have n1_:=zm (Kd.R_lower ho12 (below_size (by repeat (first|(with_reducible first|exact HB.out|apply zlA|apply zlN|apply zlD|refine zlS ?_ GE104.out)|exact HB.out))))
       have n2_:=zm (zbB (g:=gb104) (o:=.cells #[.slice none 0 0,.slice none 0 0,.int .i64 0] 25 (0,0)) (by (with_reducible repeat (first|refine zbN ?_ _|refine zbD ?_|refine zbA ?_ _));exact BK104.out) hb)
       have n3_:=zm (below_step (by repeat (first|(with_reducible first|exact HB.out|apply zlA|apply zlN|apply zlD|refine zlS ?_ GE104.out)|exact HB.out)) hb)
       clear HO111 BK104 HB
       have HO111:=n0_
       have HO108:=n1_
       have BK104:=n2_
       have HB:=n3_
       clear n0_ n1_ n2_ n3_ hb ho12
       obtain ⟨Ao13,co13,eo13⟩:=Kd.R_slice HO111.out
       (first|subst eo13|(injection eo13 with f1_ f2_ f3_;have f4_:=f1_.symm;have f5_:=f3_.symm;clear f1_ f2_ f3_;subst f4_;subst f5_))
       obtain ⟨Ao14,co14,eo14⟩:=Kd.R_slice HO108.out
       (first|subst eo14|(injection eo14 with f1_ f2_ f3_;have f4_:=f1_.symm;have f5_:=f3_.symm;clear f1_ f2_ f3_;subst f4_;subst f5_))
       refine hK.out _ _ trivial (fun hHeld=>?_)
       clear hK K
       refine norm_ (a':=?_) ?_ ?_
       rotate_left
       ·show Act.put _ (some 9) _=_
        simp only [Act.put,List.setIfInBounds_toArray,List.set_cons_zero,List.set_cons_succ,i64_w,i32_w]
        rfl
       exact norm_ (by simp only [putAll,Act.put,List.setIfInBounds_toArray,List.set_cons_zero,List.set_cons_succ]) (hCont (.slice Ao14 y106.length co14,.slice Ao13 y109.length co13) _ ⟨(by (with_reducible repeat (first|apply zrA|apply zrN|apply zrD));exact HO108.out),(by (with_reducible repeat (first|apply zrA|apply zrN|apply zrD));exact HO111.out),(by (with_reducible repeat (first|refine zbN ?_ _|refine zbD ?_|refine zbA ?_ _));exact BK104.out),(by repeat (first|(with_reducible first|exact HB.out|apply zlA|apply zlN|apply zlD|refine zlS ?_ GE104.out)|exact HB.out))⟩)
     rintro ⟨v107,v110⟩ w15 ⟨h0_,h1_,h2_,h3_⟩
     have n0_:Aside0 (Kd.R Kd.bool 4 w15 w.heap.size (fun _=>True) v107 y106):=⟨h0_⟩
     have n1_:Aside0 (Kd.R (Kd.int .i64) 2 w15 w.heap.size (fun _=>True) v110 y109):=⟨h1_⟩
     have n2_:Aside0 (w15.heap[gb104]?=some (.cells #[.slice none 0 0,.slice none 0 0,.int .i64 0] 25 (0,0))):=⟨h2_⟩
     have n3_:Aside0 (Below w.heap.size w w15):=⟨h3_⟩
     clear BK104 HB h0_ h1_ h2_ h3_
     have HO108:=n0_
     have HO111:=n1_
     have BK104:=n2_
     have HB:=n3_
     clear n0_ n1_ n2_ n3_
     have hHeld:=trivial
     obtain ⟨Ao16,co16,eo16⟩:=Kd.R_slice HO111.out
     (first|subst eo16|(injection eo16 with f1_ f2_ f3_;have f4_:=f1_.symm;have f5_:=f3_.symm;clear f1_ f2_ f3_;subst f4_;subst f5_))
     obtain ⟨Ao17,co17,eo17⟩:=Kd.R_slice HO108.out
     (first|subst eo17|(injection eo17 with f1_ f2_ f3_;have f4_:=f1_.symm;have f5_:=f3_.symm;clear f1_ f2_ f3_;subst f4_;subst f5_))
     refine norm_ (a':=?_) ?_ ?_
     rotate_left
     ·simp only [putAll,Act.put,List.setIfInBounds_toArray,List.set_cons_zero,List.set_cons_succ]
      rfl
     refine pure_ (i:=4) (N:=some 12) (v:=?_) (a':=?_) #[true,true,true,true,true,false,false] rfl rfl (by kernel_rfl) (fun _ _ _ h=>h) (Or.inl ⟨by rfl,?_⟩) ?_ ?_
     rotate_left
     ·intro w'
      go_simp
      with_reducible rfl
     rotate_left
     ·simp only [Act.put,List.setIfInBounds_toArray,List.set_cons_zero,List.set_cons_succ,i64_w,i32_w]
      rfl
     refine one_ (i:=5) (N:=none) #[true,true,true,true,true,true,false] rfl rfl (by kernel_rfl) (by decide) (fun K hK=>?_)
     have hs18:w15.cell? ⟨gb104,0,none⟩=some (.slice none 0 0):=(blk_cell BK104.out 0).trans rfl
     have hfs18:=blk_frozen BK104.out 0
     have hs19:w15.cell? ⟨gb104,1,none⟩=some (.slice none 0 0):=(blk_cell BK104.out 1).trans rfl
     have hfs19:=blk_frozen BK104.out 1
     have hs20:w15.cell? ⟨gb104,2,none⟩=some (.int .i64 0):=(blk_cell BK104.out 2).trans rfl
     have hfs20:=blk_frozen BK104.out 2
     refine skip_ (w1:=?_) (by rfl) rfl ?_ ?_
     rotate_left
     ·go_simp
      rfl
     refine hK.out _ _ trivial (fun hHeld=>?_)
     clear hK K
     refine pure_ (i:=6) (N:=some 3) (v:=?_) (a':=?_) #[true,true,true,true,true,true,true] rfl rfl (by kernel_rfl) (fun _ _ _ h=>h) (Or.inl ⟨by rfl,?_⟩) ?_ ?_
     rotate_left
     ·intro w'
      go_simp
      with_reducible rfl
     rotate_left
     ·simp only [Act.put,List.setIfInBounds_toArray,List.set_cons_zero,List.set_cons_succ,i64_w,i32_w]
      rfl
     refine done_ (by kernel_rfl) ?_
     try go_wp2
     refine bodyPost_ret (results_ct rfl _ _ gb104 25 #[.slice Ao17 y106.length co17,.slice Ao16 y109.length co16,.int .i64 0] (0,0) _ rfl (by (with_reducible repeat (first|refine zbN ?_ _|refine zbD ?_|refine zbA ?_ _));refine blk_put (cs:=#[.slice Ao17 y106.length co17,.slice Ao16 y109.length co16,.int .i64 0]) ?_ 2 _ rfl;(with_reducible repeat (first|refine zbN ?_ _|refine zbD ?_|refine zbA ?_ _));refine blk_put (cs:=#[.slice Ao17 y106.length co17,.slice none 0 0,.int .i64 0]) ?_ 1 _ rfl;(with_reducible repeat (first|refine zbN ?_ _|refine zbD ?_|refine zbA ?_ _));refine blk_put (cs:=#[.slice none 0 0,.slice none 0 0,.int .i64 0]) ?_ 0 _ rfl;(with_reducible repeat (first|refine zbN ?_ _|refine zbD ?_|refine zbA ?_ _));exact BK104.out) Try.underlying25 rfl (by kernel_rfl)) rfl ?_
     exact ⟨_,_,by first|rfl|(simp [errW_none,errW_some] <;> rfl)|(simp [*,errW_none,errW_some] <;> rfl),by (with_reducible repeat (first|apply zrA|apply zrN|apply zrD));exact Kd.R_mono (Kd.R_far (p:=⟨gb104,2,none⟩) (Kd.R_far (p:=⟨gb104,1,none⟩) (Kd.R_far (p:=⟨gb104,0,none⟩) (Kd.R_types HO108.out BK104.out (by decide)) (fun _ hk=>hk.2) (.slice Ao17 y106.length co17)) (fun _ hk=>hk.2) (.slice Ao16 y109.length co16)) (fun _ hk=>hk.2) (.int .i64 0)) (fun _ hk=>trivial),by (with_reducible repeat (first|apply zrA|apply zrN|apply zrD));exact Kd.R_mono (Kd.R_far (p:=⟨gb104,2,none⟩) (Kd.R_far (p:=⟨gb104,1,none⟩) (Kd.R_far (p:=⟨gb104,0,none⟩) (Kd.R_types HO111.out BK104.out (by decide)) (fun _ hk=>hk.2) (.slice Ao17 y106.length co17)) (fun _ hk=>hk.2) (.slice Ao16 y109.length co16)) (fun _ hk=>hk.2) (.int .i64 0)) (fun _ hk=>trivial),by repeat (first|(with_reducible first|exact HB.out|apply zlA|apply zlN|apply zlD|refine zlS ?_ GE104.out)|exact HB.out)⟩
    ·rw [if_neg c6] at H
     exact absurd H (by simp)
   ·rw [if_neg c5] at H
    exact absurd H (by simp)
  ·rw [if_neg c4] at H
   exact absurd H (by simp)
 ·replace c3:=Bool.eq_false_iff.mpr c3
  subst c3
  have H1:(some (([]:List Bool),([]:List Int),0,20))=some (r1,r2,r3,r4):=by rw [if_neg (show ¬ (false=true) by decide)] at H;exact H
  clear H
  have H:=H1
  clear H1
  simp only [Option.some.injEq,Prod.mk.injEq] at H
  obtain ⟨rfl,rfl,rfl,rfl⟩:=H
  go_enter Try.func11,Try.ntmps11
  go_wp2_with (first|((with_reducible refine gate_dst (N:=2) rfl ?_);refine box_event ?hg (N:=2) ?hd (cs:=#[.slice none 0 0,.slice none 0 0,.int .i64 0]) (t:=25) ?hr ?_;(case hd=>rfl);(case hg=>rfl);(case hr=>first|(go_simp;done)|(go_simp;rfl));intro gb104 hg w21 hbox hb;have n0_:=zm (below_step (by repeat (first|(with_reducible first|exact HB.out|apply zlA|apply zlN|apply zlD)|exact HB.out)) hb);have n1_:=zm (hbox);have n2_:=zm ((by rw [hg];exact (below_size (by repeat (first|(with_reducible first|exact HB.out|apply zlA|apply zlN|apply zlD)|exact HB.out))):w.heap.size≤gb104));have n3_:=zm ((by rw [hg];exact (below_size (by repeat (first|(with_reducible first|exact HB.out|apply zlA|apply zlN|apply zlD)|exact HB.out))):w.heap.size≤gb104));clear HB;have HB:=n0_;have BK104:=n1_;have GW104:=n2_;have GE104:=n3_;clear n0_ n1_ n2_ n3_;clear hb hbox hg)|((with_reducible refine gate_callee (f:=49) rfl ?_);refine goesL_ (some 5) rfl rfl Try.func49 (by kernel_rfl) rfl #[.int .i64 a0] rfl (by (try simp only [List.map_toArray,List.map_cons,List.map_nil]);first|done|rfl|(simp only [List.length_drop,List.length_take];rfl)) ?_;(with_reducible refine (mapjnl_blocks.calls a0 false _ A2.out).mono ?_);rintro e w' ⟨rfl,⟨nd,rfl⟩⟩;refine ⟨_,rfl,?_⟩;(try (rw [drewN_self w21];generalize hq_:World.drewN w21 _=w21;have n0_:Aside0 (w21.heap[gb104]?=some (.cells #[.slice none 0 0,.slice none 0 0,.int .i64 0] 25 (0,0))):=⟨by rw [← hq_];exact (by (with_reducible repeat (first|refine zbN ?_ _|refine zbD ?_|refine zbA ?_ _));exact BK104.out)⟩;have n1_:Aside0 (Below w.heap.size w w21):=⟨by rw [← hq_];exact (by repeat (first|(with_reducible first|exact HB.out|apply zlA|apply zlN|apply zlD|refine zlS ?_ GE104.out)|exact HB.out))⟩;clear BK104 HB hq_;have BK104:=n0_;have HB:=n1_;clear n0_ n1_));have hcz22_0:w21.cell? ⟨gb104,0,none⟩=some (.slice none 0 0):=(blk_cell BK104.out 0).trans rfl;have hcz22_1:w21.cell? ⟨gb104,1,none⟩=some (.slice none 0 0):=(blk_cell BK104.out 1).trans rfl;have hcz22_2:w21.cell? ⟨gb104,2,none⟩=some (.int .i64 0):=(blk_cell BK104.out 2).trans rfl;have hfz22_0:=blk_frozen BK104.out 0;have hfz22_1:=blk_frozen BK104.out 1;have hfz22_2:=blk_frozen BK104.out 2))
  refine bodyPost_ret (results_ct rfl _ _ gb104 25 #[.slice none 0 0,.slice none 0 0,.int .i64 0] (0,0) _ rfl (by (with_reducible repeat (first|refine zbN ?_ _|refine zbD ?_|refine zbA ?_ _));refine blk_put (cs:=#[.slice none 0 0,.slice none 0 0,.int .i64 0]) ?_ 2 _ rfl;(with_reducible repeat (first|refine zbN ?_ _|refine zbD ?_|refine zbA ?_ _));refine blk_put (cs:=#[.slice none 0 0,.slice none 0 0,.int .i64 0]) ?_ 1 _ rfl;(with_reducible repeat (first|refine zbN ?_ _|refine zbD ?_|refine zbA ?_ _));refine blk_put (cs:=#[.slice none 0 0,.slice none 0 0,.int .i64 0]) ?_ 0 _ rfl;(with_reducible repeat (first|refine zbN ?_ _|refine zbD ?_|refine zbA ?_ _));exact BK104.out) Try.underlying25 rfl (by kernel_rfl)) rfl ?_
  exact ⟨_,_,by first|rfl|(simp [errW_none,errW_some] <;> rfl)|(simp [*,errW_none,errW_some] <;> rfl),by first|exact Kd.R_nil _ _ _ _ _|exact Kd.N_nil _ _ _ _ _|exact Kd.V_nil _ _ _ _ _|exact Kd.Q_nil _ _ _ _ _|exact Kd.S_nil _ _ _ _ _,by first|exact Kd.R_nil _ _ _ _ _|exact Kd.N_nil _ _ _ _ _|exact Kd.V_nil _ _ _ _ _|exact Kd.Q_nil _ _ _ _ _|exact Kd.S_nil _ _ _ _ _,by repeat (first|(with_reducible first|exact HB.out|apply zlA|apply zlN|apply zlD|refine zlS ?_ GE104.out)|exact HB.out)⟩
end Go.Proofs.Ytkhbmgclklmimaa.Print
end
section
namespace Go.Proofs.Ytkhbmgclklmimaa.Print
open Go.RowKit Go.Proofs.YtkhbmgclklmimaaW.PrintWords Go.Proofs.YtkhbmgclklmimaaW.PrintLast Go.Proofs.YtkhbmgclklmimaaW.PrintMore
attribute [local go_sem] max2_int min2_int max_two min_two max_three min_three max_four min_four   -- for this text's walks alone
attribute [local go_sem ↓] Go.Proofs.Ytkhbmgclklmimaa.Sem.isSome_setCell
attribute [local go_sem] Go.Instr.field Go.asAgg
set_option linter.unusedVariables false
set_option linter.unusedSimpArgs false
def mapjnl_Check_1.f (a0:Int):Option (Bool):=(mapjnl_worn.f a0).bind fun t119=>(some (!t119))
set_option maxHeartbeats 8000000 in
set_option maxRecDepth 100000 in
theorem mapjnl_Check_1.calls (a0:Int) (r:Bool) (w:World) (h:mapjnl_Check_1.f a0=some r) :
  Calls Try.prog 57 #[.int .i64 a0] w fun e w'=>e=.returned (.bool r)∧Drawn0 w w':=by
 have H:((mapjnl_worn.f a0).bind fun t119=>(some (!t119)))=some r:=h
 clear h
 replace H:=Option.bind_eq_some_iff.mp H
 obtain ⟨t119,A20,H⟩:=H
 replace H:(some (!t119))=some r:=H
 have A2:=zm A20
 clear A20
 obtain rfl:=Option.some.inj H
 go_enter Try.func57,Try.ntmps57
 go_wp2_with (first|((with_reducible refine gate_callee (f:=58) rfl ?_);refine goesL_ (some 4) rfl rfl Try.func58 (by kernel_rfl) rfl #[.int .i64 a0] rfl (by (try simp only [List.map_toArray,List.map_cons,List.map_nil]);first|done|rfl|(simp only [List.length_drop,List.length_take];rfl)) ?_;(with_reducible refine (mapjnl_worn.calls a0 t119 _ A2.out).mono ?_);rintro e w' ⟨rfl,⟨nd,rfl⟩⟩;refine ⟨_,rfl,?_⟩))
 go_ret
 exact ⟨by first|rfl|(simp;done)|(simp [*];done),by repeat (first|exact Drawn0.refl _|apply Drawn0.step)⟩
def slices_IndexFunc_int64_int64_57.l0:Nat → List Int → Int → Int → Option (Int)
 | 0,_,_,_=>none
 | k + 1,x0,x7,x8=>if x8 < x7 then (if 0≤x8 then (if x8 < (x0.length:Int) then ((mapjnl_Check_1.f (rd x0 x8)).bind fun t121=>(if t121=true then (some x8) else (slices_IndexFunc_int64_int64_57.l0 k x0 x7 (wrap64 (x8 + 1))))) else (none)) else (none)) else (some (-1))
def slices_IndexFunc_int64_int64_57.f (k:Nat) (l0:List Int) :Option (Int):=slices_IndexFunc_int64_int64_57.l0 k l0 (l0.length:Int) 0
theorem slices_IndexFunc_int64_int64_57.mono_l:∀ k,(∀ y0 y1 y2,LeO (slices_IndexFunc_int64_int64_57.l0 k y0 y1 y2) (slices_IndexFunc_int64_int64_57.l0 (k + 1) y0 y1 y2))
 | 0=>fun _ _ _ r h=>by simp [slices_IndexFunc_int64_int64_57.l0] at h
 | k + 1=>by
  have ih0:=slices_IndexFunc_int64_int64_57.mono_l k
  ·intro y0 y1 y2
   unfold slices_IndexFunc_int64_int64_57.l0
   repeat' first
   | (with_reducible exact ih0 _ _ _)
   | (with_reducible exact LeO.refl _)
   | (with_reducible exact LeO.none _)
   | (with_reducible refine LeO.ite ?_ ?_)
   | (with_reducible refine LeO.bind ?_ (fun _=>?_))
   | exact ih0 _ _ _
   | exact LeO.none _
   | refine LeO.ite ?_ ?_
   | refine LeO.bind ?_ (fun _=>?_)
theorem slices_IndexFunc_int64_int64_57.mono:∀ a0 k,LeO (slices_IndexFunc_int64_int64_57.f k a0) (slices_IndexFunc_int64_int64_57.f (k + 1) a0):=by
 intro a0 k
 have ih0:=slices_IndexFunc_int64_int64_57.mono_l k
 unfold slices_IndexFunc_int64_int64_57.f
 repeat' first
   | (with_reducible exact ih0 _ _ _)
   | (with_reducible exact LeO.refl _)
   | (with_reducible exact LeO.none _)
   | (with_reducible refine LeO.ite ?_ ?_)
   | (with_reducible refine LeO.bind ?_ (fun _=>?_))
   | exact ih0 _ _ _
   | exact LeO.none _
   | refine LeO.ite ?_ ?_
   | refine LeO.bind ?_ (fun _=>?_)
set_option maxHeartbeats 8000000 in
set_option maxRecDepth 100000 in
theorem slices_IndexFunc_int64_int64_57.calls (k:Nat) (A0:Option Addr) (c0:Nat) (l0:List Int)  (r:Int) (w:World) (hr0:Kd.C (Kd.int .i64) w A0 l0.length l0) (hc0:l0.length≤c0) (h:slices_IndexFunc_int64_int64_57.f k l0=some r) :
  Calls Try.prog 80 #[.slice A0 l0.length c0,.func (.func 57) #[] #[]] w fun e w'=>e=.returned (.int .i64 r)∧Below w.heap.size w w':=by
 have HR0:=zm hr0
 have HC0:=zm hc0
 clear hr0 hc0
 have HB:=zm (Below.refl w.heap.size w)
 have H:(slices_IndexFunc_int64_int64_57.l0 k l0 (l0.length:Int) 0)=some r:=h
 clear h
 have H':=zm H
 clear H
 go_enter Try.func80,Try.ntmps80
 go_wp2
 go_loopg [8] k (fun kq v8 w'=>∃ (x8_1:Int),v8=.int .i64 x8_1∧Aside0 (slices_IndexFunc_int64_int64_57.l0 kq l0 (l0.length:Int) x8_1=some r)∧Aside0 (kq≤k)∧Aside0 (Below w.heap.size w w'))
 case atStart=>exact ⟨(0),(by first|rfl|(simp;done)|(simp [*];done)),H',⟨Nat.le_refl _⟩,⟨by repeat (first|(with_reducible first|exact HB.out|apply zlA|apply zlN|apply zlD)|exact HB.out)⟩⟩
 case round =>
  clear H'
  try clear p2
  obtain ⟨x8_1,rfl,HA,HK1,HB⟩:=hrel
  cases gk with
  | zero=>exact absurd HA.out (by simp [slices_IndexFunc_int64_int64_57.l0])
  | succ k1 =>
   have H:=HA.out
   clear HA
   simp only [slices_IndexFunc_int64_int64_57.l0] at H
   by_cases c3:x8_1 < (l0.length:Int)
   ·rw [if_pos c3] at H
    have c3b0:decide (x8_1 < (l0.length:Int))=true:=decide_eq_true c3
    clear c3
    by_cases c4:0≤x8_1
    ·rw [if_pos c4] at H
     have c4b0:decide (0≤x8_1)=true:=decide_eq_true c4
     clear c4
     by_cases c5:x8_1 < (l0.length:Int)
     ·rw [if_pos c5] at H
      have c5b0:decide (x8_1 < (l0.length:Int))=true:=decide_eq_true c5
      clear c5
      replace H:=Option.bind_eq_some_iff.mp H
      obtain ⟨t121,A60,H⟩:=H
      replace H:(if t121=true then (some x8_1) else (slices_IndexFunc_int64_int64_57.l0 k1 l0 (l0.length:Int) (wrap64 (x8_1 + 1))))=some r:=H
      have A6:=zm A60
      clear A60
      by_cases c7:t121=true
      ·subst c7
       have H1:(some x8_1)=some r:=by rw [if_pos rfl] at H;exact H
       clear H
       have H:=H1
       clear H1
       obtain rfl:=Option.some.inj H
       have p120:0≤(x8_1:Int):=of_decide_eq_true (by first|(with_reducible assumption)|assumption)
       have q120:x8_1 < (l0.length:Int):=of_decide_eq_true (by first|(with_reducible assumption)|assumption)
       obtain ⟨ad120,e120,hx120_0⟩:=Kd.at_int HR0.out x8_1 p120 q120
       cases e120
       replace hx120_0:=(HB.out.cell (World.block_lt_of_cell? w _ hx120_0)).trans hx120_0
       replace p120:=eq_true p120
       replace q120:=eq_true q120
       go_wp2_with (first|(go_at_call 57;(with_reducible refine (mapjnl_Check_1.calls  (rd l0 x8_1) true _ A6.out).mono ?_);rintro e w' ⟨rfl,⟨nd,rfl⟩⟩))
       go_ret
       exact ⟨by first|rfl|(simp [errW_none,errW_some] <;> rfl)|(simp [*,errW_none,errW_some] <;> rfl),by repeat (first|(with_reducible first|exact HB.out|apply zlA|apply zlN|apply zlD)|exact HB.out)⟩
      ·replace c7:=Bool.eq_false_iff.mpr c7
       subst c7
       have H1:(slices_IndexFunc_int64_int64_57.l0 k1 l0 (l0.length:Int) (wrap64 (x8_1 + 1)))=some r:=by rw [if_neg (show ¬ (false=true) by decide)] at H;exact H
       clear H
       have H:=H1
       clear H1
       have H':=zm H
       clear H
       have p120:0≤(x8_1:Int):=of_decide_eq_true (by first|(with_reducible assumption)|assumption)
       have q120:x8_1 < (l0.length:Int):=of_decide_eq_true (by first|(with_reducible assumption)|assumption)
       obtain ⟨ad120,e120,hx120_0⟩:=Kd.at_int HR0.out x8_1 p120 q120
       cases e120
       replace hx120_0:=(HB.out.cell (World.block_lt_of_cell? w _ hx120_0)).trans hx120_0
       replace p120:=eq_true p120
       replace q120:=eq_true q120
       go_wp2_with (first|(go_at_call 57;(with_reducible refine (mapjnl_Check_1.calls  (rd l0 x8_1) false _ A6.out).mono ?_);rintro e w' ⟨rfl,⟨nd,rfl⟩⟩))
       go_roundg k1
       case measure=>have:=HK1.out;omega
       case rel=>exact ⟨(wrap64 (x8_1 + 1)),(by first|rfl|(simp;done)|(simp [*];done)),H',⟨by have:=HK1.out;omega⟩,⟨by repeat (first|(with_reducible first|exact HB.out|apply zlA|apply zlN|apply zlD)|exact HB.out)⟩⟩
     ·rw [if_neg c5] at H
      exact absurd H (by simp)
    ·rw [if_neg c4] at H
     exact absurd H (by simp)
   ·rw [if_neg c3] at H
    have c3b0:decide (x8_1 < (l0.length:Int))=false:=decide_eq_false c3
    clear c3
    obtain rfl:=Option.some.inj H
    go_wp2
    go_ret
    exact ⟨by first|rfl|(simp [errW_none,errW_some] <;> rfl)|(simp [*,errW_none,errW_some] <;> rfl),by repeat (first|(with_reducible first|exact HB.out|apply zlA|apply zlN|apply zlD)|exact HB.out)⟩
end Go.Proofs.Ytkhbmgclklmimaa.Print
end
section
namespace Go.Proofs.Ytkhbmgclklmimaa.Print
open Go.RowKit Go.Proofs.YtkhbmgclklmimaaW.PrintWords Go.Proofs.YtkhbmgclklmimaaW.PrintLast Go.Proofs.YtkhbmgclklmimaaW.PrintMore
attribute [local go_sem] max2_int min2_int max_two min_two max_three min_three max_four min_four   -- for this text's walks alone
attribute [local go_sem ↓] Go.Proofs.Ytkhbmgclklmimaa.Sem.isSome_setCell
attribute [local go_sem] Go.Instr.field Go.asAgg
set_option linter.unusedVariables false
set_option linter.unusedSimpArgs false
def slices_ContainsFunc_int64_int64_57.f (k:Nat) (l0:List Int) :Option (Bool):=(slices_IndexFunc_int64_int64_57.f k l0).bind fun t122=>(some (decide (t122 ≥ 0)))
theorem slices_ContainsFunc_int64_int64_57.mono:∀ a0 k,LeO (slices_ContainsFunc_int64_int64_57.f k a0) (slices_ContainsFunc_int64_int64_57.f (k + 1) a0):=by
 intro a0 k
 unfold slices_ContainsFunc_int64_int64_57.f
 repeat' first
   | (with_reducible exact slices_IndexFunc_int64_int64_57.mono _ _)
   | (with_reducible exact LeO.refl _)
   | (with_reducible exact LeO.none _)
   | (with_reducible refine LeO.ite ?_ ?_)
   | (with_reducible refine LeO.bind ?_ (fun _=>?_))
   | exact slices_IndexFunc_int64_int64_57.mono _ _
   | exact LeO.none _
   | refine LeO.ite ?_ ?_
   | refine LeO.bind ?_ (fun _=>?_)
set_option maxHeartbeats 8000000 in
set_option maxRecDepth 100000 in
theorem slices_ContainsFunc_int64_int64_57.calls (k:Nat) (A0:Option Addr) (c0:Nat) (l0:List Int)  (r:Bool) (w:World) (hr0:Kd.C (Kd.int .i64) w A0 l0.length l0) (hc0:l0.length≤c0) (h:slices_ContainsFunc_int64_int64_57.f k l0=some r) :
  Calls Try.prog 56 #[.slice A0 l0.length c0,.func (.func 57) #[] #[]] w fun e w'=>e=.returned (.bool r)∧Below w.heap.size w w':=by
 have HR0:=zm hr0
 have HC0:=zm hc0
 clear hr0 hc0
 have HB:=zm (Below.refl w.heap.size w)
 have H:((slices_IndexFunc_int64_int64_57.f k l0).bind fun t122=>(some (decide (t122 ≥ 0))))=some r:=h
 clear h
 replace H:=Option.bind_eq_some_iff.mp H
 obtain ⟨t122,A30,H⟩:=H
 replace H:(some (decide (t122 ≥ 0)))=some r:=H
 have A3:=zm A30
 clear A30
 obtain rfl:=Option.some.inj H
 go_enter Try.func56,Try.ntmps56
 go_wp2_with (first|((with_reducible refine gate_callee (f:=80) rfl ?_);refine goesL_ (some 7) rfl rfl Try.func80 (by kernel_rfl) rfl #[.slice A0 l0.length c0,.func (.func 57) #[] #[]] rfl (by (try simp only [List.map_toArray,List.map_cons,List.map_nil]);first|done|rfl|(simp only [List.length_drop,List.length_take];rfl)) ?_;(with_reducible refine (slices_IndexFunc_int64_int64_57.calls k _ _ l0  t122 _ ?side1 ?side2 A3.out).mono ?_);(case side1=>repeat (first|exact HR0.out|(with_reducible refine Kd.C_alloc ?_ _)|(with_reducible refine Kd.C_drewN ?_ _)|(with_reducible refine Kd.C_drew ?_)));(case side2=>exact HC0.out);rintro e w4 ⟨rfl,hb⟩;refine ⟨_,rfl,?_⟩;have n0_:=zm (below_step (by repeat (first|(with_reducible first|exact HB.out|apply zlA|apply zlN|apply zlD)|exact HB.out)) hb);clear HB;have HB:=n0_;clear n0_;(try clear hb);(try clear hb2);(try clear hk);(try clear hi)))
 go_ret
 exact ⟨by first|rfl|(simp [errW_none,errW_some] <;> rfl)|(simp [*,errW_none,errW_some] <;> rfl),by repeat (first|(with_reducible first|exact HB.out|apply zlA|apply zlN|apply zlD)|exact HB.out)⟩
def mapjnl_Check.f (k:Nat) (l0_0:List Bool) (l0_1:List Int) (a0_2:Int):Option (Int):=(mapjnl_blocks.f (l0_0.length:Int)).bind fun t124=>(if t124=true then (if (l0_1.length:Int)=(l0_0.length:Int) then ((mapjnl_seq.f a0_2).bind fun t125=>(if t125=true then ((slices_ContainsFunc_int64_int64_57.f k l0_1).bind fun t126=>(if t126=true then (some 60) else (some 0))) else (some 60))) else (some 60)) else (some 60))
theorem mapjnl_Check.mono:∀ a0 a1 a2 k,LeO (mapjnl_Check.f k a0 a1 a2) (mapjnl_Check.f (k + 1) a0 a1 a2):=by
 intro a0 a1 a2 k
 unfold mapjnl_Check.f
 repeat' first
   | (with_reducible exact slices_ContainsFunc_int64_int64_57.mono _ _)
   | (with_reducible exact LeO.refl _)
   | (with_reducible exact LeO.none _)
   | (with_reducible refine LeO.ite ?_ ?_)
   | (with_reducible refine LeO.bind ?_ (fun _=>?_))
   | exact slices_ContainsFunc_int64_int64_57.mono _ _
   | exact LeO.none _
   | refine LeO.ite ?_ ?_
   | refine LeO.bind ?_ (fun _=>?_)
set_option maxHeartbeats 8000000 in
set_option maxRecDepth 100000 in
theorem mapjnl_Check.calls (k:Nat) (A0_0:Option Addr) (c0_0:Nat) (l0_0:List Bool) (A0_1:Option Addr) (c0_1:Nat) (l0_1:List Int) (a0_2:Int) (r:Int) (w:World) (hr0_0:Kd.C Kd.bool w A0_0 l0_0.length l0_0) (hc0_0:l0_0.length≤c0_0) (hr0_1:Kd.C (Kd.int .i64) w A0_1 l0_1.length l0_1) (hc0_1:l0_1.length≤c0_1) (h:mapjnl_Check.f k l0_0 l0_1 a0_2=some r) :
  Calls Try.prog 17 #[.agg #[.slice A0_0 l0_0.length c0_0,.slice A0_1 l0_1.length c0_1,.int .i64 a0_2]] w fun e w'=>e=.returned (.int .i64 r)∧Below w.heap.size w w':=by
 have hu25:=Try.underlying25
 have HR0_0:=zm hr0_0
 have HC0_0:=zm hc0_0
 clear hr0_0 hc0_0
 have HR0_1:=zm hr0_1
 have HC0_1:=zm hc0_1
 clear hr0_1 hc0_1
 have HB:=zm (Below.refl w.heap.size w)
 have H:((mapjnl_blocks.f (l0_0.length:Int)).bind fun t124=>(if t124=true then (if (l0_1.length:Int)=(l0_0.length:Int) then ((mapjnl_seq.f a0_2).bind fun t125=>(if t125=true then ((slices_ContainsFunc_int64_int64_57.f k l0_1).bind fun t126=>(if t126=true then (some 60) else (some 0))) else (some 60))) else (some 60)) else (some 60)))=some r:=h
 clear h
 replace H:=Option.bind_eq_some_iff.mp H
 obtain ⟨t124,A20,H⟩:=H
 replace H:(if t124=true then (if (l0_1.length:Int)=(l0_0.length:Int) then ((mapjnl_seq.f a0_2).bind fun t125=>(if t125=true then ((slices_ContainsFunc_int64_int64_57.f k l0_1).bind fun t126=>(if t126=true then (some 60) else (some 0))) else (some 60))) else (some 60)) else (some 60))=some r:=H
 have A2:=zm A20
 clear A20
 by_cases c3:t124=true
 ·subst c3
  have H1:(if (l0_1.length:Int)=(l0_0.length:Int) then ((mapjnl_seq.f a0_2).bind fun t125=>(if t125=true then ((slices_ContainsFunc_int64_int64_57.f k l0_1).bind fun t126=>(if t126=true then (some 60) else (some 0))) else (some 60))) else (some 60))=some r:=by rw [if_pos rfl] at H;exact H
  clear H
  have H:=H1
  clear H1
  by_cases c4:(l0_1.length:Int)=(l0_0.length:Int)
  ·rw [if_pos c4] at H
   have c4b0:((l0_1.length:Int) == (l0_0.length:Int))=true:=beq_iff_eq.mpr c4
   have c4b1:((l0_1.length:Int) != (l0_0.length:Int))=false:=bne_eq_false_iff_eq.mpr c4
   have c4b2:(l0_1.length == l0_0.length)=true:=by first|simpa using c4|(simp at c4 ⊢;omega)
   clear c4
   replace H:=Option.bind_eq_some_iff.mp H
   obtain ⟨t125,A50,H⟩:=H
   replace H:(if t125=true then ((slices_ContainsFunc_int64_int64_57.f k l0_1).bind fun t126=>(if t126=true then (some 60) else (some 0))) else (some 60))=some r:=H
   have A5:=zm A50
   clear A50
   by_cases c6:t125=true
   ·subst c6
    have H1:((slices_ContainsFunc_int64_int64_57.f k l0_1).bind fun t126=>(if t126=true then (some 60) else (some 0)))=some r:=by rw [if_pos rfl] at H;exact H
    clear H
    have H:=H1
    clear H1
    replace H:=Option.bind_eq_some_iff.mp H
    obtain ⟨t126,A70,H⟩:=H
    replace H:(if t126=true then (some 60) else (some 0))=some r:=H
    have A7:=zm A70
    clear A70
    by_cases c8:t126=true
    ·subst c8
     have H1:(some 60)=some r:=by rw [if_pos rfl] at H;exact H
     clear H
     have H:=H1
     clear H1
     obtain rfl:=Option.some.inj H
     go_enter Try.func17,Try.ntmps17
     go_wp2_with (first|((with_reducible refine gate_dst (N:=1) rfl ?_);(try (refine gate_guard (by rfl) ?_;dsimp only));refine box_event ?hg (N:=1) ?hd (cs:=#[.slice A0_0 l0_0.length c0_0,.slice A0_1 l0_1.length c0_1,.int .i64 a0_2]) (t:=25) ?hr ?_;(case hd=>rfl);(case hg=>rfl);(case hr=>first|(go_simp;done)|(go_simp;rfl));intro gb123 hg w9 hbox hb;have n0_:=zm (below_step (by repeat (first|(with_reducible first|exact HB.out|apply zlA|apply zlN|apply zlD)|exact HB.out)) hb);have n1_:=zm (hbox);have n2_:=zm ((by rw [hg];exact (below_size (by repeat (first|(with_reducible first|exact HB.out|apply zlA|apply zlN|apply zlD)|exact HB.out))):w.heap.size≤gb123));have n3_:=zm ((by rw [hg];exact (below_size (by repeat (first|(with_reducible first|exact HB.out|apply zlA|apply zlN|apply zlD)|exact HB.out))):w.heap.size≤gb123));clear HB;have HB:=n0_;have BK123:=n1_;have GW123:=n2_;have GE123:=n3_;clear n0_ n1_ n2_ n3_;clear hb hbox hg;have hcz10_0:w9.cell? ⟨gb123,0,none⟩=some (.slice A0_0 l0_0.length c0_0):=(blk_cell BK123.out 0).trans rfl;have hcz10_1:w9.cell? ⟨gb123,1,none⟩=some (.slice A0_1 l0_1.length c0_1):=(blk_cell BK123.out 1).trans rfl;have hcz10_2:w9.cell? ⟨gb123,2,none⟩=some (.int .i64 a0_2):=(blk_cell BK123.out 2).trans rfl;have hfz10_0:=blk_frozen BK123.out 0;have hfz10_1:=blk_frozen BK123.out 1;have hfz10_2:=blk_frozen BK123.out 2)|((with_reducible refine gate_callee (f:=49) rfl ?_);refine goesL_ (some 6) rfl rfl Try.func49 (by kernel_rfl) rfl #[.int .i64 (l0_0.length:Int)] rfl (by (try simp only [List.map_toArray,List.map_cons,List.map_nil]);first|done|rfl|(simp only [List.length_drop,List.length_take];rfl)) ?_;(with_reducible refine (mapjnl_blocks.calls (l0_0.length:Int) true _ A2.out).mono ?_);rintro e w' ⟨rfl,⟨nd,rfl⟩⟩;refine ⟨_,rfl,?_⟩)|(go_at_call 55;(with_reducible refine (mapjnl_seq.calls a0_2 true _ A5.out).mono ?_);rintro e w' ⟨rfl,⟨nd,rfl⟩⟩)|(go_at_call 56;(with_reducible refine (slices_ContainsFunc_int64_int64_57.calls k _ _ l0_1  true _ ?side1 ?side2 A7.out).mono ?_);(case side1=>repeat (first|exact (Kd.C_below HR0_1.out (by repeat (first|(with_reducible first|exact HB.out|apply zlA|apply zlN|apply zlD|refine zlS ?_ GE123.out)|exact HB.out)))|(with_reducible refine Kd.C_alloc ?_ _)|(with_reducible refine Kd.C_drewN ?_ _)|(with_reducible refine Kd.C_drew ?_)));(case side2=>exact HC0_1.out);rintro e w11 ⟨rfl,hb⟩;have n0_:=zm (zbB (g:=gb123) (o:=.cells #[.slice A0_0 l0_0.length c0_0,.slice A0_1 l0_1.length c0_1,.int .i64 a0_2] 25 (0,0)) (by (with_reducible repeat (first|refine zbN ?_ _|refine zbD ?_|refine zbA ?_ _));exact BK123.out) hb);have n1_:=zm (below_step (by repeat (first|(with_reducible first|exact HB.out|apply zlA|apply zlN|apply zlD|refine zlS ?_ GE123.out)|exact HB.out)) hb);clear BK123 HB;have BK123:=n0_;have HB:=n1_;clear n0_ n1_;(try clear hb);(try clear hb2);(try clear hk);(try clear hi)))
     go_ret
     exact ⟨by first|rfl|(simp [errW_none,errW_some] <;> rfl)|(simp [*,errW_none,errW_some] <;> rfl),by repeat (first|(with_reducible first|exact HB.out|apply zlA|apply zlN|apply zlD|refine zlS ?_ GE123.out)|exact HB.out)⟩
    ·replace c8:=Bool.eq_false_iff.mpr c8
     subst c8
     have H1:(some 0)=some r:=by rw [if_neg (show ¬ (false=true) by decide)] at H;exact H
     clear H
     have H:=H1
     clear H1
     obtain rfl:=Option.some.inj H
     go_enter Try.func17,Try.ntmps17
     go_wp2_with (first|((with_reducible refine gate_dst (N:=1) rfl ?_);(try (refine gate_guard (by rfl) ?_;dsimp only));refine box_event ?hg (N:=1) ?hd (cs:=#[.slice A0_0 l0_0.length c0_0,.slice A0_1 l0_1.length c0_1,.int .i64 a0_2]) (t:=25) ?hr ?_;(case hd=>rfl);(case hg=>rfl);(case hr=>first|(go_simp;done)|(go_simp;rfl));intro gb123 hg w12 hbox hb;have n0_:=zm (below_step (by repeat (first|(with_reducible first|exact HB.out|apply zlA|apply zlN|apply zlD)|exact HB.out)) hb);have n1_:=zm (hbox);have n2_:=zm ((by rw [hg];exact (below_size (by repeat (first|(with_reducible first|exact HB.out|apply zlA|apply zlN|apply zlD)|exact HB.out))):w.heap.size≤gb123));have n3_:=zm ((by rw [hg];exact (below_size (by repeat (first|(with_reducible first|exact HB.out|apply zlA|apply zlN|apply zlD)|exact HB.out))):w.heap.size≤gb123));clear HB;have HB:=n0_;have BK123:=n1_;have GW123:=n2_;have GE123:=n3_;clear n0_ n1_ n2_ n3_;clear hb hbox hg;have hcz13_0:w12.cell? ⟨gb123,0,none⟩=some (.slice A0_0 l0_0.length c0_0):=(blk_cell BK123.out 0).trans rfl;have hcz13_1:w12.cell? ⟨gb123,1,none⟩=some (.slice A0_1 l0_1.length c0_1):=(blk_cell BK123.out 1).trans rfl;have hcz13_2:w12.cell? ⟨gb123,2,none⟩=some (.int .i64 a0_2):=(blk_cell BK123.out 2).trans rfl;have hfz13_0:=blk_frozen BK123.out 0;have hfz13_1:=blk_frozen BK123.out 1;have hfz13_2:=blk_frozen BK123.out 2)|((with_reducible refine gate_callee (f:=49) rfl ?_);refine goesL_ (some 6) rfl rfl Try.func49 (by kernel_rfl) rfl #[.int .i64 (l0_0.length:Int)] rfl (by (try simp only [List.map_toArray,List.map_cons,List.map_nil]);first|done|rfl|(simp only [List.length_drop,List.length_take];rfl)) ?_;(with_reducible refine (mapjnl_blocks.calls (l0_0.length:Int) true _ A2.out).mono ?_);rintro e w' ⟨rfl,⟨nd,rfl⟩⟩;refine ⟨_,rfl,?_⟩)|(go_at_call 55;(with_reducible refine (mapjnl_seq.calls a0_2 true _ A5.out).mono ?_);rintro e w' ⟨rfl,⟨nd,rfl⟩⟩)|(go_at_call 56;(with_reducible refine (slices_ContainsFunc_int64_int64_57.calls k _ _ l0_1  false _ ?side1 ?side2 A7.out).mono ?_);(case side1=>repeat (first|exact (Kd.C_below HR0_1.out (by repeat (first|(with_reducible first|exact HB.out|apply zlA|apply zlN|apply zlD|refine zlS ?_ GE123.out)|exact HB.out)))|(with_reducible refine Kd.C_alloc ?_ _)|(with_reducible refine Kd.C_drewN ?_ _)|(with_reducible refine Kd.C_drew ?_)));(case side2=>exact HC0_1.out);rintro e w14 ⟨rfl,hb⟩;have n0_:=zm (zbB (g:=gb123) (o:=.cells #[.slice A0_0 l0_0.length c0_0,.slice A0_1 l0_1.length c0_1,.int .i64 a0_2] 25 (0,0)) (by (with_reducible repeat (first|refine zbN ?_ _|refine zbD ?_|refine zbA ?_ _));exact BK123.out) hb);have n1_:=zm (below_step (by repeat (first|(with_reducible first|exact HB.out|apply zlA|apply zlN|apply zlD|refine zlS ?_ GE123.out)|exact HB.out)) hb);clear BK123 HB;have BK123:=n0_;have HB:=n1_;clear n0_ n1_;(try clear hb);(try clear hb2);(try clear hk);(try clear hi)))
     go_ret
     exact ⟨by first|rfl|(simp [errW_none,errW_some] <;> rfl)|(simp [*,errW_none,errW_some] <;> rfl),by repeat (first|(with_reducible first|exact HB.out|apply zlA|apply zlN|apply zlD|refine zlS ?_ GE123.out)|exact HB.out)⟩
   ·replace c6:=Bool.eq_false_iff.mpr c6
    subst c6
    have H1:(some 60)=some r:=by rw [if_neg (show ¬ (false=true) by decide)] at H;exact H
    clear H
    have H:=H1
    clear H1
    obtain rfl:=Option.some.inj H
    go_enter Try.func17,Try.ntmps17
    go_wp2_with (first|((with_reducible refine gate_dst (N:=1) rfl ?_);(try (refine gate_guard (by rfl) ?_;dsimp only));refine box_event ?hg (N:=1) ?hd (cs:=#[.slice A0_0 l0_0.length c0_0,.slice A0_1 l0_1.length c0_1,.int .i64 a0_2]) (t:=25) ?hr ?_;(case hd=>rfl);(case hg=>rfl);(case hr=>first|(go_simp;done)|(go_simp;rfl));intro gb123 hg w15 hbox hb;have n0_:=zm (below_step (by repeat (first|(with_reducible first|exact HB.out|apply zlA|apply zlN|apply zlD)|exact HB.out)) hb);have n1_:=zm (hbox);have n2_:=zm ((by rw [hg];exact (below_size (by repeat (first|(with_reducible first|exact HB.out|apply zlA|apply zlN|apply zlD)|exact HB.out))):w.heap.size≤gb123));have n3_:=zm ((by rw [hg];exact (below_size (by repeat (first|(with_reducible first|exact HB.out|apply zlA|apply zlN|apply zlD)|exact HB.out))):w.heap.size≤gb123));clear HB;have HB:=n0_;have BK123:=n1_;have GW123:=n2_;have GE123:=n3_;clear n0_ n1_ n2_ n3_;clear hb hbox hg;have hcz16_0:w15.cell? ⟨gb123,0,none⟩=some (.slice A0_0 l0_0.length c0_0):=(blk_cell BK123.out 0).trans rfl;have hcz16_1:w15.cell? ⟨gb123,1,none⟩=some (.slice A0_1 l0_1.length c0_1):=(blk_cell BK123.out 1).trans rfl;have hcz16_2:w15.cell? ⟨gb123,2,none⟩=some (.int .i64 a0_2):=(blk_cell BK123.out 2).trans rfl;have hfz16_0:=blk_frozen BK123.out 0;have hfz16_1:=blk_frozen BK123.out 1;have hfz16_2:=blk_frozen BK123.out 2)|((with_reducible refine gate_callee (f:=49) rfl ?_);refine goesL_ (some 6) rfl rfl Try.func49 (by kernel_rfl) rfl #[.int .i64 (l0_0.length:Int)] rfl (by (try simp only [List.map_toArray,List.map_cons,List.map_nil]);first|done|rfl|(simp only [List.length_drop,List.length_take];rfl)) ?_;(with_reducible refine (mapjnl_blocks.calls (l0_0.length:Int) true _ A2.out).mono ?_);rintro e w' ⟨rfl,⟨nd,rfl⟩⟩;refine ⟨_,rfl,?_⟩)|(go_at_call 55;(with_reducible refine (mapjnl_seq.calls a0_2 false _ A5.out).mono ?_);rintro e w' ⟨rfl,⟨nd,rfl⟩⟩))
    go_ret
    exact ⟨by first|rfl|(simp [errW_none,errW_some] <;> rfl)|(simp [*,errW_none,errW_some] <;> rfl),by repeat (first|(with_reducible first|exact HB.out|apply zlA|apply zlN|apply zlD|refine zlS ?_ GE123.out)|exact HB.out)⟩
  ·rw [if_neg c4] at H
   have c4b0:((l0_1.length:Int) == (l0_0.length:Int))=false:=beq_eq_false_iff_ne.mpr c4
   have c4b1:((l0_1.length:Int) != (l0_0.length:Int))=true:=bne_iff_ne.mpr c4
   have c4b2:(l0_1.length == l0_0.length)=false:=by first|simpa using c4|(simp at c4 ⊢;omega)
   obtain rfl:=Option.some.inj H
   go_enter Try.func17,Try.ntmps17
   go_wp2_with (first|((with_reducible refine gate_dst (N:=1) rfl ?_);(try (refine gate_guard (by rfl) ?_;dsimp only));refine box_event ?hg (N:=1) ?hd (cs:=#[.slice A0_0 l0_0.length c0_0,.slice A0_1 l0_1.length c0_1,.int .i64 a0_2]) (t:=25) ?hr ?_;(case hd=>rfl);(case hg=>rfl);(case hr=>first|(go_simp;done)|(go_simp;rfl));intro gb123 hg w17 hbox hb;have n0_:=zm (below_step (by repeat (first|(with_reducible first|exact HB.out|apply zlA|apply zlN|apply zlD)|exact HB.out)) hb);have n1_:=zm (hbox);have n2_:=zm ((by rw [hg];exact (below_size (by repeat (first|(with_reducible first|exact HB.out|apply zlA|apply zlN|apply zlD)|exact HB.out))):w.heap.size≤gb123));have n3_:=zm ((by rw [hg];exact (below_size (by repeat (first|(with_reducible first|exact HB.out|apply zlA|apply zlN|apply zlD)|exact HB.out))):w.heap.size≤gb123));clear HB;have HB:=n0_;have BK123:=n1_;have GW123:=n2_;have GE123:=n3_;clear n0_ n1_ n2_ n3_;clear hb hbox hg;have hcz18_0:w17.cell? ⟨gb123,0,none⟩=some (.slice A0_0 l0_0.length c0_0):=(blk_cell BK123.out 0).trans rfl;have hcz18_1:w17.cell? ⟨gb123,1,none⟩=some (.slice A0_1 l0_1.length c0_1):=(blk_cell BK123.out 1).trans rfl;have hcz18_2:w17.cell? ⟨gb123,2,none⟩=some (.int .i64 a0_2):=(blk_cell BK123.out 2).trans rfl;have hfz18_0:=blk_frozen BK123.out 0;have hfz18_1:=blk_frozen BK123.out 1;have hfz18_2:=blk_frozen BK123.out 2)|((with_reducible refine gate_callee (f:=49) rfl ?_);refine goesL_ (some 6) rfl rfl Try.func49 (by kernel_rfl) rfl #[.int .i64 (l0_0.length:Int)] rfl (by (try simp only [List.map_toArray,List.map_cons,List.map_nil]);first|done|rfl|(simp only [List.length_drop,List.length_take];rfl)) ?_;(with_reducible refine (mapjnl_blocks.calls (l0_0.length:Int) true _ A2.out).mono ?_);rintro e w' ⟨rfl,⟨nd,rfl⟩⟩;refine ⟨_,rfl,?_⟩))
   go_ret
   exact ⟨by first|rfl|(simp [errW_none,errW_some] <;> rfl)|(simp [*,errW_none,errW_some] <;> rfl),by repeat (first|(with_reducible first|exact HB.out|apply zlA|apply zlN|apply zlD|refine zlS ?_ GE123.out)|exact HB.out)⟩
 ·replace c3:=Bool.eq_false_iff.mpr c3
  subst c3
  have H1:(some 60)=some r:=by rw [if_neg (show ¬ (false=true) by decide)] at H;exact H
  clear H
  have H:=H1
  clear H1
  obtain rfl:=Option.some.inj H
  go_enter Try.func17,Try.ntmps17
  go_wp2_with (first|((with_reducible refine gate_dst (N:=1) rfl ?_);(try (refine gate_guard (by rfl) ?_;dsimp only));refine box_event ?hg (N:=1) ?hd (cs:=#[.slice A0_0 l0_0.length c0_0,.slice A0_1 l0_1.length c0_1,.int .i64 a0_2]) (t:=25) ?hr ?_;(case hd=>rfl);(case hg=>rfl);(case hr=>first|(go_simp;done)|(go_simp;rfl));intro gb123 hg w19 hbox hb;have n0_:=zm (below_step (by repeat (first|(with_reducible first|exact HB.out|apply zlA|apply zlN|apply zlD)|exact HB.out)) hb);have n1_:=zm (hbox);have n2_:=zm ((by rw [hg];exact (below_size (by repeat (first|(with_reducible first|exact HB.out|apply zlA|apply zlN|apply zlD)|exact HB.out))):w.heap.size≤gb123));have n3_:=zm ((by rw [hg];exact (below_size (by repeat (first|(with_reducible first|exact HB.out|apply zlA|apply zlN|apply zlD)|exact HB.out))):w.heap.size≤gb123));clear HB;have HB:=n0_;have BK123:=n1_;have GW123:=n2_;have GE123:=n3_;clear n0_ n1_ n2_ n3_;clear hb hbox hg;have hcz20_0:w19.cell? ⟨gb123,0,none⟩=some (.slice A0_0 l0_0.length c0_0):=(blk_cell BK123.out 0).trans rfl;have hcz20_1:w19.cell? ⟨gb123,1,none⟩=some (.slice A0_1 l0_1.length c0_1):=(blk_cell BK123.out 1).trans rfl;have hcz20_2:w19.cell? ⟨gb123,2,none⟩=some (.int .i64 a0_2):=(blk_cell BK123.out 2).trans rfl;have hfz20_0:=blk_frozen BK123.out 0;have hfz20_1:=blk_frozen BK123.out 1;have hfz20_2:=blk_frozen BK123.out 2)|((with_reducible refine gate_callee (f:=49) rfl ?_);refine goesL_ (some 6) rfl rfl Try.func49 (by kernel_rfl) rfl #[.int .i64 (l0_0.length:Int)] rfl (by (try simp only [List.map_toArray,List.map_cons,List.map_nil]);first|done|rfl|(simp only [List.length_drop,List.length_take];rfl)) ?_;(with_reducible refine (mapjnl_blocks.calls (l0_0.length:Int) false _ A2.out).mono ?_);rintro e w' ⟨rfl,⟨nd,rfl⟩⟩;refine ⟨_,rfl,?_⟩))
  go_ret
  exact ⟨by first|rfl|(simp [errW_none,errW_some] <;> rfl)|(simp [*,errW_none,errW_some] <;> rfl),by repeat (first|(with_reducible first|exact HB.out|apply zlA|apply zlN|apply zlD|refine zlS ?_ GE123.out)|exact HB.out)⟩
def mapjnl_both.j0:Nat → Bool → List Bool → List Int → Int → List Bool → List Int → Int → Option (Int)
 | 0,_,_,_,_,_,_,_=>none
 | k + 1,x5,x128000,x128001,x128002,x129000,x129001,x129002=>if x5=true then (some 60) else (if (x128000.length:Int)=(x129000.length:Int) then (some 0) else (some 1))
def mapjnl_both.f (k:Nat) (l0_0:List Bool) (l0_1:List Int) (a0_2:Int) (l1_0:List Bool) (l1_1:List Int) (a1_2:Int):Option (Int):=(mapjnl_Check.f k l0_0 l0_1 a0_2).bind fun t129=>(if t129=0 then ((mapjnl_Check.f k l1_0 l1_1 a1_2).bind fun t130=>(mapjnl_both.j0 k (t130 != 0) l0_0 l0_1 a0_2 l1_0 l1_1 a1_2)) else (mapjnl_both.j0 k true l0_0 l0_1 a0_2 l1_0 l1_1 a1_2))
theorem mapjnl_both.mono_l:∀ k,(∀ y0 y1 y2 y3 y4 y5 y6,LeO (mapjnl_both.j0 k y0 y1 y2 y3 y4 y5 y6) (mapjnl_both.j0 (k + 1) y0 y1 y2 y3 y4 y5 y6))
 | 0=>fun _ _ _ _ _ _ _ r h=>by simp [mapjnl_both.j0] at h
 | k + 1=>by
  have ih0:=mapjnl_both.mono_l k
  ·intro y0 y1 y2 y3 y4 y5 y6
   unfold mapjnl_both.j0
   repeat' first
   | (with_reducible exact ih0 _ _ _ _ _ _ _)
   | (with_reducible exact mapjnl_Check.mono _ _ _ _)
   | (with_reducible exact LeO.refl _)
   | (with_reducible exact LeO.none _)
   | (with_reducible refine LeO.ite ?_ ?_)
   | (with_reducible refine LeO.bind ?_ (fun _=>?_))
   | exact ih0 _ _ _ _ _ _ _
   | exact mapjnl_Check.mono _ _ _ _
   | exact LeO.none _
   | refine LeO.ite ?_ ?_
   | refine LeO.bind ?_ (fun _=>?_)
theorem mapjnl_both.mono:∀ a0 a1 a2 a3 a4 a5 k,LeO (mapjnl_both.f k a0 a1 a2 a3 a4 a5) (mapjnl_both.f (k + 1) a0 a1 a2 a3 a4 a5):=by
 intro a0 a1 a2 a3 a4 a5 k
 have ih0:=mapjnl_both.mono_l k
 unfold mapjnl_both.f
 repeat' first
   | (with_reducible exact ih0 _ _ _ _ _ _ _)
   | (with_reducible exact mapjnl_Check.mono _ _ _ _)
   | (with_reducible exact LeO.refl _)
   | (with_reducible exact LeO.none _)
   | (with_reducible refine LeO.ite ?_ ?_)
   | (with_reducible refine LeO.bind ?_ (fun _=>?_))
   | exact ih0 _ _ _ _ _ _ _
   | exact mapjnl_Check.mono _ _ _ _
   | exact LeO.none _
   | refine LeO.ite ?_ ?_
   | refine LeO.bind ?_ (fun _=>?_)
set_option maxHeartbeats 8000000 in
set_option maxRecDepth 100000 in
theorem mapjnl_both.calls (k:Nat) (A0_0:Option Addr) (c0_0:Nat) (l0_0:List Bool) (A0_1:Option Addr) (c0_1:Nat) (l0_1:List Int) (a0_2:Int) (A1_0:Option Addr) (c1_0:Nat) (l1_0:List Bool) (A1_1:Option Addr) (c1_1:Nat) (l1_1:List Int) (a1_2:Int) (r:Int) (w:World) (hr0_0:Kd.C Kd.bool w A0_0 l0_0.length l0_0) (hc0_0:l0_0.length≤c0_0) (hr0_1:Kd.C (Kd.int .i64) w A0_1 l0_1.length l0_1) (hc0_1:l0_1.length≤c0_1) (hr1_0:Kd.C Kd.bool w A1_0 l1_0.length l1_0) (hc1_0:l1_0.length≤c1_0) (hr1_1:Kd.C (Kd.int .i64) w A1_1 l1_1.length l1_1) (hc1_1:l1_1.length≤c1_1) (h:mapjnl_both.f k l0_0 l0_1 a0_2 l1_0 l1_1 a1_2=some r) :
  Calls Try.prog 50 #[.agg #[.slice A0_0 l0_0.length c0_0,.slice A0_1 l0_1.length c0_1,.int .i64 a0_2],.agg #[.slice A1_0 l1_0.length c1_0,.slice A1_1 l1_1.length c1_1,.int .i64 a1_2]] w fun e w'=>e=.returned (.int .i64 r)∧Below w.heap.size w w':=by
 have hu25:=Try.underlying25
 have HR0_0:=zm hr0_0
 have HC0_0:=zm hc0_0
 clear hr0_0 hc0_0
 have HR0_1:=zm hr0_1
 have HC0_1:=zm hc0_1
 clear hr0_1 hc0_1
 have HR1_0:=zm hr1_0
 have HC1_0:=zm hc1_0
 clear hr1_0 hc1_0
 have HR1_1:=zm hr1_1
 have HC1_1:=zm hc1_1
 clear hr1_1 hc1_1
 have HB:=zm (Below.refl w.heap.size w)
 have H:((mapjnl_Check.f k l0_0 l0_1 a0_2).bind fun t129=>(if t129=0 then ((mapjnl_Check.f k l1_0 l1_1 a1_2).bind fun t130=>(mapjnl_both.j0 k (t130 != 0) l0_0 l0_1 a0_2 l1_0 l1_1 a1_2)) else (mapjnl_both.j0 k true l0_0 l0_1 a0_2 l1_0 l1_1 a1_2)))=some r:=h
 clear h
 have HC3:=zm H
 clear H
 go_enter Try.func50,Try.ntmps50
 go_upto_region 1 with (first|((with_reducible refine gate_dst (N:=2) rfl ?_);refine box_event ?hg (N:=2) ?hd (cs:=#[.slice A0_0 l0_0.length c0_0,.slice A0_1 l0_1.length c0_1,.int .i64 a0_2]) (t:=25) ?hr ?_;(case hd=>rfl);(case hg=>rfl);(case hr=>first|(go_simp;done)|(go_simp;rfl));intro gb127 hg w4 hbox hb;have n0_:=zm (below_step (by repeat (first|(with_reducible first|exact HB.out|apply zlA|apply zlN|apply zlD)|exact HB.out)) hb);have n1_:=zm (hbox);have n2_:=zm ((by rw [hg];exact (below_size (by repeat (first|(with_reducible first|exact HB.out|apply zlA|apply zlN|apply zlD)|exact HB.out))):w.heap.size≤gb127));have n3_:=zm ((by rw [hg];exact (below_size (by repeat (first|(with_reducible first|exact HB.out|apply zlA|apply zlN|apply zlD)|exact HB.out))):w.heap.size≤gb127));clear HB;have HB:=n0_;have BK127:=n1_;have GW127:=n2_;have GE127:=n3_;clear n0_ n1_ n2_ n3_;clear hb hbox hg)|((with_reducible refine gate_dst (N:=3) rfl ?_);refine box_event ?hg (N:=3) ?hd (cs:=#[.slice A1_0 l1_0.length c1_0,.slice A1_1 l1_1.length c1_1,.int .i64 a1_2]) (t:=25) ?hr ?_;(case hd=>rfl);(case hg=>rfl);(case hr=>first|(go_simp;done)|(go_simp;rfl));intro gb128 hg w5 hbox hb;have n0_:=zm (zbB (g:=gb127) (o:=.cells #[.slice A0_0 l0_0.length c0_0,.slice A0_1 l0_1.length c0_1,.int .i64 a0_2] 25 (0,0)) (by (with_reducible repeat (first|refine zbN ?_ _|refine zbD ?_|refine zbA ?_ _));exact BK127.out) hb);have n1_:=zm (below_step (by repeat (first|(with_reducible first|exact HB.out|apply zlA|apply zlN|apply zlD|refine zlS ?_ GE127.out)|exact HB.out)) hb);have n2_:=zm (hbox);have n3_:=zm ((by rw [hg];exact (below_size (by repeat (first|(with_reducible first|exact HB.out|apply zlA|apply zlN|apply zlD|refine zlS ?_ GE127.out)|exact HB.out))):w.heap.size≤gb128));have n4_:=zm ((by rw [hg];exact (below_size (by repeat (first|(with_reducible first|exact HB.out|apply zlA|apply zlN|apply zlD|refine zlS ?_ GE127.out)|exact HB.out))):w.heap.size≤gb128));have n5_:=zm ((by rw [hg];exact Nat.ne_of_lt (blk_lt (g:=gb127) (o:=.cells #[.slice A0_0 l0_0.length c0_0,.slice A0_1 l0_1.length c0_1,.int .i64 a0_2] 25 (0,0)) (by (with_reducible repeat (first|refine zbN ?_ _|refine zbD ?_|refine zbA ?_ _));exact BK127.out)):gb127≠gb128));have n6_:=zm ((by rw [hg];exact Nat.ne_of_gt (blk_lt (g:=gb127) (o:=.cells #[.slice A0_0 l0_0.length c0_0,.slice A0_1 l0_1.length c0_1,.int .i64 a0_2] 25 (0,0)) (by (with_reducible repeat (first|refine zbN ?_ _|refine zbD ?_|refine zbA ?_ _));exact BK127.out)):gb128≠gb127));clear BK127 HB;have BK127:=n0_;have HB:=n1_;have BK128:=n2_;have GW128:=n3_;have GE128:=n4_;have NB127_128:=n5_;have NB128_127:=n6_;clear n0_ n1_ n2_ n3_ n4_ n5_ n6_;clear hb hbox hg))
 (try simp only [Act.put,List.setIfInBounds_toArray,List.set_cons_zero,List.set_cons_succ])
 go_cut [5] (fun v5 wc=>∃ (kq:Nat) (x5_2:Bool),v5=.bool x5_2∧Aside0 (mapjnl_both.j0 kq x5_2 l0_0 l0_1 a0_2 l1_0 l1_1 a1_2=some r)∧Aside0 (kq≤k)∧Aside0 (wc.heap[gb127]?=some (.cells #[(.slice A0_0 l0_0.length c0_0),(.slice A0_1 l0_1.length c0_1),.int .i64 a0_2] 25 (0,0)))∧Aside0 (wc.heap[gb128]?=some (.cells #[(.slice A1_0 l1_0.length c1_0),(.slice A1_1 l1_1.length c1_1),.int .i64 a1_2] 25 (0,0)))∧Aside0 (Below w.heap.size w wc))
 case first =>
  have H:=HC3.out
  clear HC3
  replace H:=Option.bind_eq_some_iff.mp H
  obtain ⟨t129,A60,H⟩:=H
  replace H:(if t129=0 then ((mapjnl_Check.f k l1_0 l1_1 a1_2).bind fun t130=>(mapjnl_both.j0 k (t130 != 0) l0_0 l0_1 a0_2 l1_0 l1_1 a1_2)) else (mapjnl_both.j0 k true l0_0 l0_1 a0_2 l1_0 l1_1 a1_2))=some r:=H
  have A6:=zm A60
  clear A60
  by_cases c7:t129=0
  ·rw [if_pos c7] at H
   have c7b0:(t129 == 0)=true:=beq_iff_eq.mpr c7
   have c7b1:(t129 != 0)=false:=bne_eq_false_iff_eq.mpr c7
   clear c7
   (first|rw [c7b0]|(simp only [i64_w,i32_w];rw [c7b0])|skip)
   replace H:=Option.bind_eq_some_iff.mp H
   obtain ⟨t130,A80,H⟩:=H
   replace H:(mapjnl_both.j0 k (t130 != 0) l0_0 l0_1 a0_2 l1_0 l1_1 a1_2)=some r:=H
   have A8:=zm A80
   clear A80
   have H':=zm H
   clear H
   have hnb9:=NB127_128.out
   have hnc9:=NB128_127.out
   have hcz10_0:w5.cell? ⟨gb127,0,none⟩=some (.slice A0_0 l0_0.length c0_0):=(blk_cell BK127.out 0).trans rfl
   have hcz10_1:w5.cell? ⟨gb127,1,none⟩=some (.slice A0_1 l0_1.length c0_1):=(blk_cell BK127.out 1).trans rfl
   have hcz10_2:w5.cell? ⟨gb127,2,none⟩=some (.int .i64 a0_2):=(blk_cell BK127.out 2).trans rfl
   have hfz10_0:=blk_frozen BK127.out 0
   have hfz10_1:=blk_frozen BK127.out 1
   have hfz10_2:=blk_frozen BK127.out 2
   go_wp2_with (first|((with_reducible refine gate_callee (f:=17) rfl ?_);refine goesL_ (some 7) rfl rfl Try.func17 (by kernel_rfl) rfl #[.agg #[.slice A0_0 l0_0.length c0_0,.slice A0_1 l0_1.length c0_1,.int .i64 a0_2]] rfl (by (try simp only [List.map_toArray,List.map_cons,List.map_nil]);first|done|rfl|(simp only [List.length_drop,List.length_take];rfl)) ?_;(with_reducible refine (mapjnl_Check.calls k _ _ l0_0 _ _ l0_1 a0_2 t129 _ ?side1 ?side2 ?side3 ?side4 A6.out).mono ?_);(case side1=>repeat (first|exact (Kd.C_below HR0_0.out HB.out)|(with_reducible refine Kd.C_alloc ?_ _)|(with_reducible refine Kd.C_drewN ?_ _)|(with_reducible refine Kd.C_drew ?_)));(case side2=>exact HC0_0.out);(case side3=>repeat (first|exact (Kd.C_below HR0_1.out HB.out)|(with_reducible refine Kd.C_alloc ?_ _)|(with_reducible refine Kd.C_drewN ?_ _)|(with_reducible refine Kd.C_drew ?_)));(case side4=>exact HC0_1.out);rintro e w11 ⟨rfl,hb⟩;refine ⟨_,rfl,?_⟩;have n0_:=zm (zbB (g:=gb127) (o:=.cells #[.slice A0_0 l0_0.length c0_0,.slice A0_1 l0_1.length c0_1,.int .i64 a0_2] 25 (0,0)) (by (with_reducible repeat (first|refine zbN ?_ _|refine zbD ?_|refine zbA ?_ _));exact BK127.out) hb);have n1_:=zm (zbB (g:=gb128) (o:=.cells #[.slice A1_0 l1_0.length c1_0,.slice A1_1 l1_1.length c1_1,.int .i64 a1_2] 25 (0,0)) (by (with_reducible repeat (first|refine zbN ?_ _|refine zbD ?_|refine zbA ?_ _));exact BK128.out) hb);have n2_:=zm (below_step (by repeat (first|(with_reducible first|exact HB.out|apply zlA|apply zlN|apply zlD|refine zlS ?_ GE127.out|refine zlS ?_ GE128.out)|exact HB.out)) hb);clear BK127 BK128 HB;have BK127:=n0_;have BK128:=n1_;have HB:=n2_;clear n0_ n1_ n2_;(try clear hb);(try clear hb2);(try clear hk);(try clear hi);have hcz12_0:w11.cell? ⟨gb128,0,none⟩=some (.slice A1_0 l1_0.length c1_0):=(blk_cell BK128.out 0).trans rfl;have hcz12_1:w11.cell? ⟨gb128,1,none⟩=some (.slice A1_1 l1_1.length c1_1):=(blk_cell BK128.out 1).trans rfl;have hcz12_2:w11.cell? ⟨gb128,2,none⟩=some (.int .i64 a1_2):=(blk_cell BK128.out 2).trans rfl;have hfz12_0:=blk_frozen BK128.out 0;have hfz12_1:=blk_frozen BK128.out 1;have hfz12_2:=blk_frozen BK128.out 2)|(go_at_call 17;(with_reducible refine (mapjnl_Check.calls k _ _ l1_0 _ _ l1_1 a1_2 t130 _ ?side1 ?side2 ?side3 ?side4 A8.out).mono ?_);(case side1=>repeat (first|exact (Kd.C_below HR1_0.out HB.out)|(with_reducible refine Kd.C_alloc ?_ _)|(with_reducible refine Kd.C_drewN ?_ _)|(with_reducible refine Kd.C_drew ?_)));(case side2=>exact HC1_0.out);(case side3=>repeat (first|exact (Kd.C_below HR1_1.out HB.out)|(with_reducible refine Kd.C_alloc ?_ _)|(with_reducible refine Kd.C_drewN ?_ _)|(with_reducible refine Kd.C_drew ?_)));(case side4=>exact HC1_1.out);rintro e w13 ⟨rfl,hb⟩;have n0_:=zm (zbB (g:=gb127) (o:=.cells #[.slice A0_0 l0_0.length c0_0,.slice A0_1 l0_1.length c0_1,.int .i64 a0_2] 25 (0,0)) (by (with_reducible repeat (first|refine zbN ?_ _|refine zbD ?_|refine zbA ?_ _));exact BK127.out) hb);have n1_:=zm (zbB (g:=gb128) (o:=.cells #[.slice A1_0 l1_0.length c1_0,.slice A1_1 l1_1.length c1_1,.int .i64 a1_2] 25 (0,0)) (by (with_reducible repeat (first|refine zbN ?_ _|refine zbD ?_|refine zbA ?_ _));exact BK128.out) hb);have n2_:=zm (below_step (by repeat (first|(with_reducible first|exact HB.out|apply zlA|apply zlN|apply zlD|refine zlS ?_ GE127.out|refine zlS ?_ GE128.out)|exact HB.out)) hb);clear BK127 BK128 HB;have BK127:=n0_;have BK128:=n1_;have HB:=n2_;clear n0_ n1_ n2_;(try clear hb);(try clear hb2);(try clear hk);(try clear hi)))
   go_meet
   case rel=>exact ⟨_,((t130 != 0)),(by first|rfl|(simp;done)|(simp [*];done)),H',⟨by first|omega|exact Nat.le_refl _⟩,⟨by (with_reducible repeat (first|refine zbN ?_ _|refine zbD ?_|refine zbA ?_ _));exact BK127.out⟩,⟨by (with_reducible repeat (first|refine zbN ?_ _|refine zbD ?_|refine zbA ?_ _));exact BK128.out⟩,⟨by repeat (first|(with_reducible first|exact HB.out|apply zlA|apply zlN|apply zlD|refine zlS ?_ GE127.out|refine zlS ?_ GE128.out)|exact HB.out)⟩⟩
  ·rw [if_neg c7] at H
   have c7b0:(t129 == 0)=false:=beq_eq_false_iff_ne.mpr c7
   have c7b1:(t129 != 0)=true:=bne_iff_ne.mpr c7
   (first|rw [c7b0]|(simp only [i64_w,i32_w];rw [c7b0])|skip)
   have H':=zm H
   clear H
   have hnb14:=NB127_128.out
   have hnc14:=NB128_127.out
   have hcz15_0:w5.cell? ⟨gb127,0,none⟩=some (.slice A0_0 l0_0.length c0_0):=(blk_cell BK127.out 0).trans rfl
   have hcz15_1:w5.cell? ⟨gb127,1,none⟩=some (.slice A0_1 l0_1.length c0_1):=(blk_cell BK127.out 1).trans rfl
   have hcz15_2:w5.cell? ⟨gb127,2,none⟩=some (.int .i64 a0_2):=(blk_cell BK127.out 2).trans rfl
   have hfz15_0:=blk_frozen BK127.out 0
   have hfz15_1:=blk_frozen BK127.out 1
   have hfz15_2:=blk_frozen BK127.out 2
   go_wp2_with (first|((with_reducible refine gate_callee (f:=17) rfl ?_);refine goesL_ (some 7) rfl rfl Try.func17 (by kernel_rfl) rfl #[.agg #[.slice A0_0 l0_0.length c0_0,.slice A0_1 l0_1.length c0_1,.int .i64 a0_2]] rfl (by (try simp only [List.map_toArray,List.map_cons,List.map_nil]);first|done|rfl|(simp only [List.length_drop,List.length_take];rfl)) ?_;(with_reducible refine (mapjnl_Check.calls k _ _ l0_0 _ _ l0_1 a0_2 t129 _ ?side1 ?side2 ?side3 ?side4 A6.out).mono ?_);(case side1=>repeat (first|exact (Kd.C_below HR0_0.out HB.out)|(with_reducible refine Kd.C_alloc ?_ _)|(with_reducible refine Kd.C_drewN ?_ _)|(with_reducible refine Kd.C_drew ?_)));(case side2=>exact HC0_0.out);(case side3=>repeat (first|exact (Kd.C_below HR0_1.out HB.out)|(with_reducible refine Kd.C_alloc ?_ _)|(with_reducible refine Kd.C_drewN ?_ _)|(with_reducible refine Kd.C_drew ?_)));(case side4=>exact HC0_1.out);rintro e w16 ⟨rfl,hb⟩;refine ⟨_,rfl,?_⟩;have n0_:=zm (zbB (g:=gb127) (o:=.cells #[.slice A0_0 l0_0.length c0_0,.slice A0_1 l0_1.length c0_1,.int .i64 a0_2] 25 (0,0)) (by (with_reducible repeat (first|refine zbN ?_ _|refine zbD ?_|refine zbA ?_ _));exact BK127.out) hb);have n1_:=zm (zbB (g:=gb128) (o:=.cells #[.slice A1_0 l1_0.length c1_0,.slice A1_1 l1_1.length c1_1,.int .i64 a1_2] 25 (0,0)) (by (with_reducible repeat (first|refine zbN ?_ _|refine zbD ?_|refine zbA ?_ _));exact BK128.out) hb);have n2_:=zm (below_step (by repeat (first|(with_reducible first|exact HB.out|apply zlA|apply zlN|apply zlD|refine zlS ?_ GE127.out|refine zlS ?_ GE128.out)|exact HB.out)) hb);clear BK127 BK128 HB;have BK127:=n0_;have BK128:=n1_;have HB:=n2_;clear n0_ n1_ n2_;(try clear hb);(try clear hb2);(try clear hk);(try clear hi)))
   go_meet
   case rel=>exact ⟨_,(true),(by first|rfl|(simp;done)|(simp [*];done)),H',⟨by first|omega|exact Nat.le_refl _⟩,⟨by (with_reducible repeat (first|refine zbN ?_ _|refine zbD ?_|refine zbA ?_ _));exact BK127.out⟩,⟨by (with_reducible repeat (first|refine zbN ?_ _|refine zbD ?_|refine zbA ?_ _));exact BK128.out⟩,⟨by repeat (first|(with_reducible first|exact HB.out|apply zlA|apply zlN|apply zlD|refine zlS ?_ GE127.out|refine zlS ?_ GE128.out)|exact HB.out)⟩⟩
 case rest =>
  clear HC3
  try clear c1
  try clear p2
  try clear c5
  try clear c7
  try clear c7b0
  try clear c7b1
  try clear c9
  try clear c14
  try clear hcz10_0
  try clear hcz10_1
  try clear hcz10_2
  try clear hcz12_0
  try clear hcz12_1
  try clear hcz12_2
  try clear hcz15_0
  try clear hcz15_1
  try clear hcz15_2
  try clear hfz10_0
  try clear hfz10_1
  try clear hfz10_2
  try clear hfz12_0
  try clear hfz12_1
  try clear hfz12_2
  try clear hfz15_0
  try clear hfz15_1
  try clear hfz15_2
  obtain ⟨kq,x5_2,rfl,HA,HJ2,BK127,BK128,HB⟩:=hcut
  cases kq with
  | zero=>exact absurd HA.out (by simp [mapjnl_both.j0])
  | succ kj2 =>
   have H:=HA.out
   clear HA
   simp only [mapjnl_both.j0] at H
   by_cases c17:x5_2=true
   ·subst c17
    have H1:(some 60)=some r:=by rw [if_pos rfl] at H;exact H
    clear H
    have H:=H1
    clear H1
    obtain rfl:=Option.some.inj H
    go_wp2
    go_ret
    exact ⟨by first|rfl|(simp [errW_none,errW_some] <;> rfl)|(simp [*,errW_none,errW_some] <;> rfl),by repeat (first|(with_reducible first|exact HB.out|apply zlA|apply zlN|apply zlD|refine zlS ?_ GE127.out|refine zlS ?_ GE128.out)|exact HB.out)⟩
   ·replace c17:=Bool.eq_false_iff.mpr c17
    subst c17
    have H1:(if (l0_0.length:Int)=(l1_0.length:Int) then (some 0) else (some 1))=some r:=by rw [if_neg (show ¬ (false=true) by decide)] at H;exact H
    clear H
    have H:=H1
    clear H1
    by_cases c18:(l0_0.length:Int)=(l1_0.length:Int)
    ·rw [if_pos c18] at H
     have c18b0:((l0_0.length:Int) == (l1_0.length:Int))=true:=beq_iff_eq.mpr c18
     have c18b1:((l0_0.length:Int) != (l1_0.length:Int))=false:=bne_eq_false_iff_eq.mpr c18
     have c18b2:(l0_0.length == l1_0.length)=true:=by first|simpa using c18|(simp at c18 ⊢;omega)
     clear c18
     obtain rfl:=Option.some.inj H
     have hnb19:=NB127_128.out
     have hnc19:=NB128_127.out
     have hcz20_0:wc.cell? ⟨gb127,0,none⟩=some (.slice A0_0 l0_0.length c0_0):=(blk_cell BK127.out 0).trans rfl
     have hcz20_1:wc.cell? ⟨gb127,1,none⟩=some (.slice A0_1 l0_1.length c0_1):=(blk_cell BK127.out 1).trans rfl
     have hcz20_2:wc.cell? ⟨gb127,2,none⟩=some (.int .i64 a0_2):=(blk_cell BK127.out 2).trans rfl
     have hfz20_0:=blk_frozen BK127.out 0
     have hfz20_1:=blk_frozen BK127.out 1
     have hfz20_2:=blk_frozen BK127.out 2
     have hcz21_0:wc.cell? ⟨gb128,0,none⟩=some (.slice A1_0 l1_0.length c1_0):=(blk_cell BK128.out 0).trans rfl
     have hcz21_1:wc.cell? ⟨gb128,1,none⟩=some (.slice A1_1 l1_1.length c1_1):=(blk_cell BK128.out 1).trans rfl
     have hcz21_2:wc.cell? ⟨gb128,2,none⟩=some (.int .i64 a1_2):=(blk_cell BK128.out 2).trans rfl
     have hfz21_0:=blk_frozen BK128.out 0
     have hfz21_1:=blk_frozen BK128.out 1
     have hfz21_2:=blk_frozen BK128.out 2
     go_wp2
     go_ret
     exact ⟨by first|rfl|(simp [errW_none,errW_some] <;> rfl)|(simp [*,errW_none,errW_some] <;> rfl),by repeat (first|(with_reducible first|exact HB.out|apply zlA|apply zlN|apply zlD|refine zlS ?_ GE127.out|refine zlS ?_ GE128.out)|exact HB.out)⟩
    ·rw [if_neg c18] at H
     have c18b0:((l0_0.length:Int) == (l1_0.length:Int))=false:=beq_eq_false_iff_ne.mpr c18
     have c18b1:((l0_0.length:Int) != (l1_0.length:Int))=true:=bne_iff_ne.mpr c18
     have c18b2:(l0_0.length == l1_0.length)=false:=by first|simpa using c18|(simp at c18 ⊢;omega)
     obtain rfl:=Option.some.inj H
     have hnb22:=NB127_128.out
     have hnc22:=NB128_127.out
     have hcz23_0:wc.cell? ⟨gb127,0,none⟩=some (.slice A0_0 l0_0.length c0_0):=(blk_cell BK127.out 0).trans rfl
     have hcz23_1:wc.cell? ⟨gb127,1,none⟩=some (.slice A0_1 l0_1.length c0_1):=(blk_cell BK127.out 1).trans rfl
     have hcz23_2:wc.cell? ⟨gb127,2,none⟩=some (.int .i64 a0_2):=(blk_cell BK127.out 2).trans rfl
     have hfz23_0:=blk_frozen BK127.out 0
     have hfz23_1:=blk_frozen BK127.out 1
     have hfz23_2:=blk_frozen BK127.out 2
     have hcz24_0:wc.cell? ⟨gb128,0,none⟩=some (.slice A1_0 l1_0.length c1_0):=(blk_cell BK128.out 0).trans rfl
     have hcz24_1:wc.cell? ⟨gb128,1,none⟩=some (.slice A1_1 l1_1.length c1_1):=(blk_cell BK128.out 1).trans rfl
     have hcz24_2:wc.cell? ⟨gb128,2,none⟩=some (.int .i64 a1_2):=(blk_cell BK128.out 2).trans rfl
     have hfz24_0:=blk_frozen BK128.out 0
     have hfz24_1:=blk_frozen BK128.out 1
     have hfz24_2:=blk_frozen BK128.out 2
     go_wp2
     go_ret
     exact ⟨by first|rfl|(simp [errW_none,errW_some] <;> rfl)|(simp [*,errW_none,errW_some] <;> rfl),by repeat (first|(with_reducible first|exact HB.out|apply zlA|apply zlN|apply zlD|refine zlS ?_ GE127.out|refine zlS ?_ GE128.out)|exact HB.out)⟩
end Go.Proofs.Ytkhbmgclklmimaa.Print
end
section
namespace Go.Proofs.Ytkhbmgclklmimaa.Print
open Go.RowKit Go.Proofs.YtkhbmgclklmimaaW.PrintWords Go.Proofs.YtkhbmgclklmimaaW.PrintLast Go.Proofs.YtkhbmgclklmimaaW.PrintMore
attribute [local go_sem] max2_int min2_int max_two min_two max_three min_three max_four min_four   -- for this text's walks alone
attribute [local go_sem ↓] Go.Proofs.Ytkhbmgclklmimaa.Sem.isSome_setCell
attribute [local go_sem] Go.Instr.field Go.asAgg
set_option linter.unusedVariables false
set_option linter.unusedSimpArgs false
def slices_Clone_bool_bool.f (l0:List Bool):Option (List Bool):=(some (([]:List Bool):List Bool)).bind fun y131=>(if y131.length + l0.length < 140737488355328 then (some (y131 ++ l0)) else (none))
set_option maxHeartbeats 8000000 in
set_option maxRecDepth 100000 in
theorem slices_Clone_bool_bool.calls_some (a0:Addr) (c0:Nat) (l0:List Bool) (r:List Bool) (w:World) (hr0:Kd.C Kd.bool w (some a0) l0.length l0) (hc0:l0.length≤c0) (h:slices_Clone_bool_bool.f l0=some r) :
  Calls Try.prog 66 #[.slice (some a0) l0.length c0] w fun e w'=>∃ v0_:Value,e=.returned (v0_)∧Kd.R Kd.bool 4 w' w.heap.size (fun _=>True) v0_ r∧Below w.heap.size w w':=by
 have HR0:=zm hr0
 have HC0:=zm hc0
 clear hr0 hc0
 have HB:=zm (Below.refl w.heap.size w)
 have H:((some (([]:List Bool):List Bool)).bind fun y131=>(if y131.length + l0.length < 140737488355328 then (some (y131 ++ l0)) else (none)))=some r:=h
 clear h
 obtain ⟨y131,hy131⟩:∃ y_:List Bool,y_=(([]:List Bool)):=⟨_,rfl⟩
 replace H:(if y131.length + l0.length < 140737488355328 then (some (y131 ++ l0)) else (none))=some r:=by first|(rw [hy131];with_reducible exact H)|(have H2_:=(Option.bind_some _ _).symm.trans H;rw [hy131];with_reducible exact H2_)|(have H2_:=(Option.bind_some _ _).symm.trans H;with_reducible exact H2_)|with_reducible exact H|(rw [hy131];exact H)|exact H
 have Ny131:=zm hy131
 clear hy131
 by_cases c2:y131.length + l0.length < 140737488355328
 ·rw [if_pos c2] at H
  have LMc2:=zm c2
  clear c2
  obtain ⟨y134,hy134⟩:∃ y_:List Bool,y_=(y131 ++ l0):=⟨_,rfl⟩
  replace H:(some y134)=some r:=by first|(rw [hy134];with_reducible exact H)|(have H2_:=(Option.bind_some _ _).symm.trans H;rw [hy134];with_reducible exact H2_)|(have H2_:=(Option.bind_some _ _).symm.trans H;with_reducible exact H2_)|with_reducible exact H|(rw [hy134];exact H)|exact H
  have Ny134:=zm hy134
  clear hy134
  obtain rfl:=Option.some.inj H
  have hq_:=Lib.run_eql_slice_nil (P:=Try.prog) w 22 4 (some a0) l0.length c0 0 0 Try.underlying22
  go_enter Try.func66,Try.ntmps66
  go_wp2_with (first|((with_reducible refine gate_dst (N:=5) rfl ?_);refine Kd.R_lit Kd.bool _ 4 ?hg (N:=5) ?hd (xs:=([]:List Bool)) (inner:=[]) (ok:=fun _=>True) (okp:=fun _=>True) ?hr ?hp (fun _ hk=>hk) trivial (Below.refl _ _) (Nat.le_refl _) (by simp) ?_;(case hd=>rfl);(case hg=>rfl);(case hr=>first|(go_simp;done)|(go_simp;rfl));(case hp=>exact (Reps.none _ _));intro v132 w3 ho4 hb hg_ hnew_;clear hg_ hnew_;(first|rw [← Ny131.out] at ho4|(simp only [Int.reduceToNat] at ho4;rw [← Ny131.out] at ho4));have n0_:=zm (Kd.R_lower ho4 (below_size (by repeat (first|(with_reducible first|exact HB.out|apply zlA|apply zlN|apply zlD)|exact HB.out))));have n1_:=zm (below_step (by repeat (first|(with_reducible first|exact HB.out|apply zlA|apply zlN|apply zlD)|exact HB.out)) hb);clear HB;have HO133:=n0_;have HB:=n1_;clear n0_ n1_;clear hb ho4)|((with_reducible refine gate_builtin (b:=.append) (xs:=#[.tmp 5,.tmp 6]) rfl ?_);at_builtin;refine Kd.R_append_rows Kd.bool (w0:=w) w.heap.size rfl (.tmp 5) (.tmp 6) 22 4 (.bool false) 1 rfl Try.underlying22 info4 rfl (by decide) (by omega) v132 y131 l0 _ _ _ (fun _=>True) (fun _=>False) rfl rfl ?aO ?aR (fun _ _ h=>h) (fun _ h=>h.elim) ?aF ?aB ?aS ?aL ?_;(case aR=>repeat (first|exact (Kd.C_below HR0.out HB.out)|(with_reducible refine Kd.C_alloc ?_ _)|(with_reducible refine Kd.C_drewN ?_ _)|(with_reducible refine Kd.C_drew ?_)));(case aB=>exact (by repeat (first|(with_reducible first|exact HB.out|apply zlA|apply zlN|apply zlD)|exact HB.out)));(case aF=>exact (fun _ _=>trivial));(case aO=>exact (by (with_reducible repeat (first|apply zrA|apply zrN|apply zrD));exact HO133.out));(case aS=>exact (below_size (by repeat (first|(with_reducible first|exact HB.out|apply zlA|apply zlN|apply zlD)|exact HB.out))));(case aL=>have:=LMc2.out;omega);intro v135 w5 ho hb hg hat;rw [← Ny134.out] at ho;have n0_:=zm (hb);have n1_:=zm (ho);clear HB HO133;have HB:=n0_;have HO136:=n1_;clear n0_ n1_;clear ho hb hg hat))
  go_ret
  exact ⟨_,by first|rfl|(simp [errW_none,errW_some] <;> rfl)|(simp [*,errW_none,errW_some] <;> rfl),by (with_reducible repeat (first|apply zrA|apply zrN|apply zrD));exact HO136.out,by repeat (first|(with_reducible first|exact HB.out|apply zlA|apply zlN|apply zlD)|exact HB.out)⟩
 ·rw [if_neg c2] at H
  exact absurd H (by simp)
theorem slices_Clone_bool_bool.calls (A0:Option Addr) (c0:Nat) (l0:List Bool) (r:List Bool) (w:World) (hr0:Kd.C Kd.bool w A0 l0.length l0) (hc0:l0.length≤c0) (h:slices_Clone_bool_bool.f l0=some r) :
  Calls Try.prog 66 #[.slice A0 l0.length c0] w fun e w'=>∃ v0_:Value,e=.returned (v0_)∧Kd.R Kd.bool 4 w' w.heap.size (fun _=>True) v0_ r∧Below w.heap.size w w':=by
 rcases A0 with _|a0
 ·have hl:l0=[]:=by
   rcases l0 with _|⟨x,l⟩
   ·rfl
   ·obtain ⟨ad,he,_⟩:=hr0.2.2 (by simp)
    cases he
  subst hl
  have hrr:r=[]:=by
   have h2:slices_Clone_bool_bool.f []=some []:=by first|decide|rfl|(simp [slices_Clone_bool_bool.f];done)
   rw [h2] at h
   exact (Option.some.inj h).symm
  subst hrr
  have HB:=zm (Below.refl w.heap.size w)
  clear h hr0 hc0
  have hq_:=Lib.run_eql_slice_nil (P:=Try.prog) w 22 4 none 0 c0 0 0 Try.underlying22
  go_enter Try.func66,Try.ntmps66
  go_wp2
  go_ret
  exact ⟨_,rfl,Kd.R_nil _ _ _ _ _,HB.out⟩
 ·exact slices_Clone_bool_bool.calls_some a0 c0 l0 r w hr0 hc0 h
def slices_Clone_int64_int64.f (l0:List Int):Option (List Int):=(some (([]:List Int):List Int)).bind fun y137=>(if y137.length + l0.length < 17592186044416 then (some (y137 ++ l0)) else (none))
set_option maxHeartbeats 8000000 in
set_option maxRecDepth 100000 in
theorem slices_Clone_int64_int64.calls_some (a0:Addr) (c0:Nat) (l0:List Int) (r:List Int) (w:World) (hr0:Kd.C (Kd.int .i64) w (some a0) l0.length l0) (hc0:l0.length≤c0) (h:slices_Clone_int64_int64.f l0=some r) :
  Calls Try.prog 67 #[.slice (some a0) l0.length c0] w fun e w'=>∃ v0_:Value,e=.returned (v0_)∧Kd.R (Kd.int .i64) 2 w' w.heap.size (fun _=>True) v0_ r∧Below w.heap.size w w':=by
 have HR0:=zm hr0
 have HC0:=zm hc0
 clear hr0 hc0
 have HB:=zm (Below.refl w.heap.size w)
 have H:((some (([]:List Int):List Int)).bind fun y137=>(if y137.length + l0.length < 17592186044416 then (some (y137 ++ l0)) else (none)))=some r:=h
 clear h
 obtain ⟨y137,hy137⟩:∃ y_:List Int,y_=(([]:List Int)):=⟨_,rfl⟩
 replace H:(if y137.length + l0.length < 17592186044416 then (some (y137 ++ l0)) else (none))=some r:=by first|(rw [hy137];with_reducible exact H)|(have H2_:=(Option.bind_some _ _).symm.trans H;rw [hy137];with_reducible exact H2_)|(have H2_:=(Option.bind_some _ _).symm.trans H;with_reducible exact H2_)|with_reducible exact H|(rw [hy137];exact H)|exact H
 have Ny137:=zm hy137
 clear hy137
 by_cases c2:y137.length + l0.length < 17592186044416
 ·rw [if_pos c2] at H
  have LMc2:=zm c2
  clear c2
  obtain ⟨y140,hy140⟩:∃ y_:List Int,y_=(y137 ++ l0):=⟨_,rfl⟩
  replace H:(some y140)=some r:=by first|(rw [hy140];with_reducible exact H)|(have H2_:=(Option.bind_some _ _).symm.trans H;rw [hy140];with_reducible exact H2_)|(have H2_:=(Option.bind_some _ _).symm.trans H;with_reducible exact H2_)|with_reducible exact H|(rw [hy140];exact H)|exact H
  have Ny140:=zm hy140
  clear hy140
  obtain rfl:=Option.some.inj H
  have hq_:=Lib.run_eql_slice_nil (P:=Try.prog) w 23 2 (some a0) l0.length c0 0 0 Try.underlying23
  go_enter Try.func67,Try.ntmps67
  go_wp2_with (first|((with_reducible refine gate_dst (N:=5) rfl ?_);refine Kd.R_lit (Kd.int .i64) _ 2 ?hg (N:=5) ?hd (xs:=([]:List Int)) (inner:=[]) (ok:=fun _=>True) (okp:=fun _=>True) ?hr ?hp (fun _ hk=>hk) trivial (Below.refl _ _) (Nat.le_refl _) (by simp) ?_;(case hd=>rfl);(case hg=>rfl);(case hr=>first|(go_simp;done)|(go_simp;rfl));(case hp=>exact (Reps.none _ _));intro v138 w3 ho4 hb hg_ hnew_;clear hg_ hnew_;(first|rw [← Ny137.out] at ho4|(simp only [Int.reduceToNat] at ho4;rw [← Ny137.out] at ho4));have n0_:=zm (Kd.R_lower ho4 (below_size (by repeat (first|(with_reducible first|exact HB.out|apply zlA|apply zlN|apply zlD)|exact HB.out))));have n1_:=zm (below_step (by repeat (first|(with_reducible first|exact HB.out|apply zlA|apply zlN|apply zlD)|exact HB.out)) hb);clear HB;have HO139:=n0_;have HB:=n1_;clear n0_ n1_;clear hb ho4)|((with_reducible refine gate_builtin (b:=.append) (xs:=#[.tmp 5,.tmp 6]) rfl ?_);at_builtin;refine Kd.R_append_rows (Kd.int .i64) (w0:=w) w.heap.size rfl (.tmp 5) (.tmp 6) 23 2 (.int .i64 0) 8 rfl Try.underlying23 info2 rfl (by decide) (by omega) v138 y137 l0 _ _ _ (fun _=>True) (fun _=>False) rfl rfl ?aO ?aR (fun _ _ h=>h) (fun _ h=>h.elim) ?aF ?aB ?aS ?aL ?_;(case aR=>repeat (first|exact (Kd.C_below HR0.out HB.out)|(with_reducible refine Kd.C_alloc ?_ _)|(with_reducible refine Kd.C_drewN ?_ _)|(with_reducible refine Kd.C_drew ?_)));(case aB=>exact (by repeat (first|(with_reducible first|exact HB.out|apply zlA|apply zlN|apply zlD)|exact HB.out)));(case aF=>exact (fun _ _=>trivial));(case aO=>exact (by (with_reducible repeat (first|apply zrA|apply zrN|apply zrD));exact HO139.out));(case aS=>exact (below_size (by repeat (first|(with_reducible first|exact HB.out|apply zlA|apply zlN|apply zlD)|exact HB.out))));(case aL=>have:=LMc2.out;omega);intro v141 w5 ho hb hg hat;rw [← Ny140.out] at ho;have n0_:=zm (hb);have n1_:=zm (ho);clear HB HO139;have HB:=n0_;have HO142:=n1_;clear n0_ n1_;clear ho hb hg hat))
  go_ret
  exact ⟨_,by first|rfl|(simp [errW_none,errW_some] <;> rfl)|(simp [*,errW_none,errW_some] <;> rfl),by (with_reducible repeat (first|apply zrA|apply zrN|apply zrD));exact HO142.out,by repeat (first|(with_reducible first|exact HB.out|apply zlA|apply zlN|apply zlD)|exact HB.out)⟩
 ·rw [if_neg c2] at H
  exact absurd H (by simp)
theorem slices_Clone_int64_int64.calls (A0:Option Addr) (c0:Nat) (l0:List Int) (r:List Int) (w:World) (hr0:Kd.C (Kd.int .i64) w A0 l0.length l0) (hc0:l0.length≤c0) (h:slices_Clone_int64_int64.f l0=some r) :
  Calls Try.prog 67 #[.slice A0 l0.length c0] w fun e w'=>∃ v0_:Value,e=.returned (v0_)∧Kd.R (Kd.int .i64) 2 w' w.heap.size (fun _=>True) v0_ r∧Below w.heap.size w w':=by
 rcases A0 with _|a0
 ·have hl:l0=[]:=by
   rcases l0 with _|⟨x,l⟩
   ·rfl
   ·obtain ⟨ad,he,_⟩:=hr0.2.2 (by simp)
    cases he
  subst hl
  have hrr:r=[]:=by
   have h2:slices_Clone_int64_int64.f []=some []:=by first|decide|rfl|(simp [slices_Clone_int64_int64.f];done)
   rw [h2] at h
   exact (Option.some.inj h).symm
  subst hrr
  have HB:=zm (Below.refl w.heap.size w)
  clear h hr0 hc0
  have hq_:=Lib.run_eql_slice_nil (P:=Try.prog) w 23 2 none 0 c0 0 0 Try.underlying23
  go_enter Try.func67,Try.ntmps67
  go_wp2
  go_ret
  exact ⟨_,rfl,Kd.R_nil _ _ _ _ _,HB.out⟩
 ·exact slices_Clone_int64_int64.calls_some a0 c0 l0 r w hr0 hc0 h
def mapjnl_clone.f (l0_0:List Bool) (l0_1:List Int) (a0_2:Int):Option (List Bool × List Int × Int):=(slices_Clone_bool_bool.f l0_0).bind fun t145=>((slices_Clone_int64_int64.f l0_1).bind fun t148=>(some (t145,t148,a0_2)))
def mapjnl_clone.T1:Bool × List (List Nat × List Nat):=(true,[([],[]),([0],[0]),([1],[1]),([],[]),([3],[3]),([4,2],[4]),([],[]),([6],[6]),([2,5,7],[2,5,7]),([8,5,0,1,2,3,4,5,6,7,8],[8])])
def mapjnl_clone.B1:List Nat:=[0,1,3,0,8,31,0,64,255,511]
theorem mapjnl_clone.tab1:rtab .any (opsOf Try.f51 1)=mapjnl_clone.T1:=by kernel_rfl
theorem mapjnl_clone.bits1:waitsOk mapjnl_clone.T1.2 mapjnl_clone.B1=true:=by kernel_rfl
set_option maxHeartbeats 8000000 in
set_option maxRecDepth 100000 in
theorem mapjnl_clone.calls (A0_0:Option Addr) (c0_0:Nat) (l0_0:List Bool) (A0_1:Option Addr) (c0_1:Nat) (l0_1:List Int) (a0_2:Int) (r1:List Bool) (r2:List Int) (r3:Int) (w:World) (hr0_0:Kd.C Kd.bool w A0_0 l0_0.length l0_0) (hc0_0:l0_0.length≤c0_0) (hr0_1:Kd.C (Kd.int .i64) w A0_1 l0_1.length l0_1) (hc0_1:l0_1.length≤c0_1) (h:mapjnl_clone.f l0_0 l0_1 a0_2=some (r1,r2,r3)) :
  Calls Try.prog 51 #[.agg #[.slice A0_0 l0_0.length c0_0,.slice A0_1 l0_1.length c0_1,.int .i64 a0_2]] w fun e w'=>∃ v0_ v1_:Value,e=.returned (.agg #[v0_,v1_,.int .i64 r3])∧Kd.R Kd.bool 4 w' w.heap.size (fun _=>True) v0_ r1∧Kd.R (Kd.int .i64) 2 w' w.heap.size (fun _=>True) v1_ r2∧Below w.heap.size w w':=by
 have hu25:=Try.underlying25
 have HR0_0:=zm hr0_0
 have HC0_0:=zm hc0_0
 clear hr0_0 hc0_0
 have HR0_1:=zm hr0_1
 have HC0_1:=zm hc0_1
 clear hr0_1 hc0_1
 have HB:=zm (Below.refl w.heap.size w)
 have H:((slices_Clone_bool_bool.f l0_0).bind fun t145=>((slices_Clone_int64_int64.f l0_1).bind fun t148=>(some (t145,t148,a0_2))))=some (r1,r2,r3):=h
 clear h
 replace H:=Option.bind_eq_some_iff.mp H
 obtain ⟨t145,A20,H⟩:=H
 replace H:((slices_Clone_int64_int64.f l0_1).bind fun t148=>(some (t145,t148,a0_2)))=some (r1,r2,r3):=H
 have A2:=zm A20
 clear A20
 replace H:=Option.bind_eq_some_iff.mp H
 obtain ⟨t148,A30,H⟩:=H
 replace H:(some (t145,t148,a0_2))=some (r1,r2,r3):=H
 have A3:=zm A30
 clear A30
 simp only [Option.some.injEq,Prod.mk.injEq] at H
 obtain ⟨rfl,rfl,rfl⟩:=H
 go_enter Try.func51,Try.ntmps51
 try go_wp2_with (first|((with_reducible refine gate_dst (N:=1) rfl ?_);refine box_event ?hg (N:=1) ?hd (cs:=#[.slice A0_0 l0_0.length c0_0,.slice A0_1 l0_1.length c0_1,.int .i64 a0_2]) (t:=25) ?hr ?_;(case hd=>rfl);(case hg=>rfl);(case hr=>first|(go_simp;done)|(go_simp;rfl));intro gb143 hg w4 hbox hb;have n0_:=zm (below_step (by repeat (first|(with_reducible first|exact HB.out|apply zlA|apply zlN|apply zlD)|exact HB.out)) hb);have n1_:=zm (hbox);have n2_:=zm ((by rw [hg];exact (below_size (by repeat (first|(with_reducible first|exact HB.out|apply zlA|apply zlN|apply zlD)|exact HB.out))):w.heap.size≤gb143));have n3_:=zm ((by rw [hg];exact (below_size (by repeat (first|(with_reducible first|exact HB.out|apply zlA|apply zlN|apply zlD)|exact HB.out))):w.heap.size≤gb143));clear HB;have HB:=n0_;have BK143:=n1_;have GW143:=n2_;have GE143:=n3_;clear n0_ n1_ n2_ n3_;clear hb hbox hg)|((with_reducible refine gate_dst (N:=2) rfl ?_);refine box_event ?hg (N:=2) ?hd (cs:=#[.slice none 0 0,.slice none 0 0,.int .i64 0]) (t:=25) ?hr ?_;(case hd=>rfl);(case hg=>rfl);(case hr=>first|(go_simp;done)|(go_simp;rfl));intro gb144 hg w5 hbox hb;have n0_:=zm (zbB (g:=gb143) (o:=.cells #[.slice A0_0 l0_0.length c0_0,.slice A0_1 l0_1.length c0_1,.int .i64 a0_2] 25 (0,0)) (by (with_reducible repeat (first|refine zbN ?_ _|refine zbD ?_|refine zbA ?_ _));exact BK143.out) hb);have n1_:=zm (below_step (by repeat (first|(with_reducible first|exact HB.out|apply zlA|apply zlN|apply zlD|refine zlS ?_ GE143.out)|exact HB.out)) hb);have n2_:=zm (hbox);have n3_:=zm ((by rw [hg];exact (below_size (by repeat (first|(with_reducible first|exact HB.out|apply zlA|apply zlN|apply zlD|refine zlS ?_ GE143.out)|exact HB.out))):w.heap.size≤gb144));have n4_:=zm ((by rw [hg];exact (below_size (by repeat (first|(with_reducible first|exact HB.out|apply zlA|apply zlN|apply zlD|refine zlS ?_ GE143.out)|exact HB.out))):w.heap.size≤gb144));have n5_:=zm ((by rw [hg];exact Nat.ne_of_lt (blk_lt (g:=gb143) (o:=.cells #[.slice A0_0 l0_0.length c0_0,.slice A0_1 l0_1.length c0_1,.int .i64 a0_2] 25 (0,0)) (by (with_reducible repeat (first|refine zbN ?_ _|refine zbD ?_|refine zbA ?_ _));exact BK143.out)):gb143≠gb144));have n6_:=zm ((by rw [hg];exact Nat.ne_of_gt (blk_lt (g:=gb143) (o:=.cells #[.slice A0_0 l0_0.length c0_0,.slice A0_1 l0_1.length c0_1,.int .i64 a0_2] 25 (0,0)) (by (with_reducible repeat (first|refine zbN ?_ _|refine zbD ?_|refine zbA ?_ _));exact BK143.out)):gb144≠gb143));clear BK143 HB;have BK143:=n0_;have HB:=n1_;have BK144:=n2_;have GW144:=n3_;have GE144:=n4_;have NB143_144:=n5_;have NB144_143:=n6_;clear n0_ n1_ n2_ n3_ n4_ n5_ n6_;clear hb hbox hg))
 have n0_:=zm (zbD BK143.out)
 have n1_:=zm (zbD BK144.out)
 have n2_:=zm (zlD HB.out)
 clear BK143 BK144 HB
 have BK143:=n0_
 have BK144:=n1_
 have HB:=n2_
 clear n0_ n1_ n2_
 refine start_ (n:=10) (S:=fun w'=>w'.cell? ⟨gb143,0,none⟩=some (.slice A0_0 l0_0.length c0_0)∧w'.cell? ⟨gb143,1,none⟩=some (.slice A0_1 l0_1.length c0_1)∧w'.cell? ⟨gb143,2,none⟩=some (.int .i64 a0_2)) (ds:=[]) #[false,false,false,false,false,false,false,false,false,false] (by kernel_rfl) rfl rfl ⟨(blk_cell BK143.out 0).trans rfl,(blk_cell BK143.out 1).trans rfl,(blk_cell BK143.out 2).trans rfl⟩ (fun hHeld=>?_);refine with_tabW mapjnl_clone.tab1 mapjnl_clone.bits1 (fun HT_ HW_=>?_)
 generalize w5.drew=w6 at BK143 BK144 HB hHeld ⊢
 refine pure_ (i:=0) (N:=some 3) (v:=?_) (a':=?_) #[true,false,false,false,false,false,false,false,false,false] rfl rfl (any_of HT_.out (by kernel_rfl)) (fun _ _ _ h=>h) (Or.inl ⟨by rfl,?_⟩) ?_ ?_
 rotate_left
 ·intro w'
  go_simp
  with_reducible rfl
 rotate_left
 ·simp only [Act.put,List.setIfInBounds_toArray,List.set_cons_zero,List.set_cons_succ,i64_w,i32_w]
  rfl
 refine pure_ (i:=3) (N:=some 6) (v:=?_) (a':=?_) #[true,false,false,true,false,false,false,false,false,false] rfl rfl (any_of HT_.out (by kernel_rfl)) (fun _ _ _ h=>h) (Or.inl ⟨by rfl,?_⟩) ?_ ?_
 rotate_left
 ·intro w'
  go_simp
  with_reducible rfl
 rotate_left
 ·simp only [Act.put,List.setIfInBounds_toArray,List.set_cons_zero,List.set_cons_succ,i64_w,i32_w]
  rfl
 refine pure_ (i:=6) (N:=some 9) (v:=?_) (a':=?_) #[true,false,false,true,false,false,true,false,false,false] rfl rfl (any_of HT_.out (by kernel_rfl)) (fun _ _ _ h=>h) (Or.inl ⟨by rfl,?_⟩) ?_ ?_
 rotate_left
 ·intro w'
  go_simp
  with_reducible rfl
 rotate_left
 ·simp only [Act.put,List.setIfInBounds_toArray,List.set_cons_zero,List.set_cons_succ,i64_w,i32_w]
  rfl
 refine take_ (i:=1) (N:=some 4) (v:=?_) (a':=?_) #[true,true,false,true,false,false,true,false,false,false] rfl rfl (take_ofW HT_.out HW_.out (by kernel_rfl)) (fun _ _ _ h=>h) (Or.inl ⟨by rfl,?_⟩) hHeld ?_ ?_
 rotate_left
 ·rintro w' ⟨s0,s1,s2⟩
  go_simp
  with_reducible rfl
 rotate_left
 ·simp only [Act.put,List.setIfInBounds_toArray,List.set_cons_zero,List.set_cons_succ,i64_w,i32_w]
  rfl
 refine take_ (i:=4) (N:=some 7) (v:=?_) (a':=?_) #[true,true,false,true,true,false,true,false,false,false] rfl rfl (take_ofW HT_.out HW_.out (by kernel_rfl)) (fun _ _ _ h=>h) (Or.inl ⟨by rfl,?_⟩) hHeld ?_ ?_
 rotate_left
 ·rintro w' ⟨s0,s1,s2⟩
  go_simp
  with_reducible rfl
 rotate_left
 ·simp only [Act.put,List.setIfInBounds_toArray,List.set_cons_zero,List.set_cons_succ,i64_w,i32_w]
  rfl
 refine take_ (i:=7) (N:=some 10) (v:=?_) (a':=?_) #[true,true,false,true,true,false,true,true,false,false] rfl rfl (take_ofW HT_.out HW_.out (by kernel_rfl)) (fun _ _ _ h=>h) (Or.inl ⟨by rfl,?_⟩) hHeld ?_ ?_
 rotate_left
 ·rintro w' ⟨s0,s1,s2⟩
  go_simp
  with_reducible rfl
 rotate_left
 ·simp only [Act.put,List.setIfInBounds_toArray,List.set_cons_zero,List.set_cons_succ,i64_w,i32_w]
  rfl
 refine one_ (i:=2) (N:=some 5) #[true,true,true,true,true,false,true,true,false,false] rfl rfl (one_of HT_.out (by kernel_rfl)) (by decide) (fun K hK=>?_)
 refine goes_ Try.func66 (by kernel_rfl) rfl #[.slice A0_0 l0_0.length c0_0] (by rfl) rfl rfl (by (try simp only [List.map_toArray,List.map_cons,List.map_nil]);first|done|rfl|(simp only [List.length_drop,List.length_take];rfl)) ?_
 with_reducible refine (slices_Clone_bool_bool.calls _ _ l0_0 t145 _ ?side1 ?side2 A2.out).mono ?_
 (case side1=>repeat (first|exact (Kd.C_below HR0_0.out HB.out)|(with_reducible refine Kd.C_alloc ?_ _)|(with_reducible refine Kd.C_drewN ?_ _)|(with_reducible refine Kd.C_drew ?_)))
 (case side2=>exact HC0_0.out)
 rintro e w7 ⟨v146,rfl,ho0,hb⟩
 refine ⟨_,rfl,?_⟩
 have n0_:=zm (Kd.R_lower ho0 (below_size (by repeat (first|(with_reducible first|exact HB.out|apply zlA|apply zlN|apply zlD|refine zlS ?_ GE143.out|refine zlS ?_ GE144.out)|exact HB.out))))
 have n1_:=zm (zbB (g:=gb143) (o:=.cells #[.slice A0_0 l0_0.length c0_0,.slice A0_1 l0_1.length c0_1,.int .i64 a0_2] 25 (0,0)) (by (with_reducible repeat (first|refine zbN ?_ _|refine zbD ?_|refine zbA ?_ _));exact BK143.out) hb)
 have n2_:=zm (zbB (g:=gb144) (o:=.cells #[.slice none 0 0,.slice none 0 0,.int .i64 0] 25 (0,0)) (by (with_reducible repeat (first|refine zbN ?_ _|refine zbD ?_|refine zbA ?_ _));exact BK144.out) hb)
 have n3_:=zm (below_step (by repeat (first|(with_reducible first|exact HB.out|apply zlA|apply zlN|apply zlD|refine zlS ?_ GE143.out|refine zlS ?_ GE144.out)|exact HB.out)) hb)
 clear BK143 BK144 HB
 have HO147:=n0_
 have BK143:=n1_
 have BK144:=n2_
 have HB:=n3_
 clear n0_ n1_ n2_ n3_
 (try clear hb)
 (try clear hb2)
 (try clear hk)
 (try clear hi)
 (try clear ho0)
 refine hK.out _ _ ⟨(blk_cell BK143.out 0).trans rfl,(blk_cell BK143.out 1).trans rfl,(blk_cell BK143.out 2).trans rfl⟩ (fun hHeld=>?_)
 clear hK K
 refine norm_ (a':=?_) ?_ ?_
 rotate_left
 ·show Act.put _ (some 5) _=_
  simp only [Act.put,List.setIfInBounds_toArray,List.set_cons_zero,List.set_cons_succ,i64_w,i32_w]
  rfl
 refine one_ (i:=5) (N:=some 8) #[true,true,true,true,true,true,true,true,false,false] rfl rfl (one_of HT_.out (by kernel_rfl)) (by decide) (fun K hK=>?_)
 refine goes_ Try.func67 (by kernel_rfl) rfl #[.slice A0_1 l0_1.length c0_1] (by rfl) rfl rfl (by (try simp only [List.map_toArray,List.map_cons,List.map_nil]);first|done|rfl|(simp only [List.length_drop,List.length_take];rfl)) ?_
 with_reducible refine (slices_Clone_int64_int64.calls _ _ l0_1 t148 _ ?side1 ?side2 A3.out).mono ?_
 (case side1=>repeat (first|exact (Kd.C_below HR0_1.out HB.out)|(with_reducible refine Kd.C_alloc ?_ _)|(with_reducible refine Kd.C_drewN ?_ _)|(with_reducible refine Kd.C_drew ?_)))
 (case side2=>exact HC0_1.out)
 rintro e w8 ⟨v149,rfl,ho0,hb⟩
 refine ⟨_,rfl,?_⟩
 have n0_:=zm (Kd.R_below (by (with_reducible repeat (first|apply zrA|apply zrN|apply zrD));exact HO147.out) hb)
 have n1_:=zm (Kd.R_lower ho0 (below_size (by repeat (first|(with_reducible first|exact HB.out|apply zlA|apply zlN|apply zlD|refine zlS ?_ GE143.out|refine zlS ?_ GE144.out)|exact HB.out))))
 have n2_:=zm (zbB (g:=gb143) (o:=.cells #[.slice A0_0 l0_0.length c0_0,.slice A0_1 l0_1.length c0_1,.int .i64 a0_2] 25 (0,0)) (by (with_reducible repeat (first|refine zbN ?_ _|refine zbD ?_|refine zbA ?_ _));exact BK143.out) hb)
 have n3_:=zm (zbB (g:=gb144) (o:=.cells #[.slice none 0 0,.slice none 0 0,.int .i64 0] 25 (0,0)) (by (with_reducible repeat (first|refine zbN ?_ _|refine zbD ?_|refine zbA ?_ _));exact BK144.out) hb)
 have n4_:=zm (below_step (by repeat (first|(with_reducible first|exact HB.out|apply zlA|apply zlN|apply zlD|refine zlS ?_ GE143.out|refine zlS ?_ GE144.out)|exact HB.out)) hb)
 clear HO147 BK143 BK144 HB
 have HO147:=n0_
 have HO150:=n1_
 have BK143:=n2_
 have BK144:=n3_
 have HB:=n4_
 clear n0_ n1_ n2_ n3_ n4_
 (try clear hb)
 (try clear hb2)
 (try clear hk)
 (try clear hi)
 (try clear ho0)
 obtain ⟨Ao9,co9,eo9⟩:=Kd.R_slice HO150.out
 (first|subst eo9|(injection eo9 with f1_ f2_ f3_;have f4_:=f1_.symm;have f5_:=f3_.symm;clear f1_ f2_ f3_;subst f4_;subst f5_))
 obtain ⟨Ao10,co10,eo10⟩:=Kd.R_slice HO147.out
 (first|subst eo10|(injection eo10 with f1_ f2_ f3_;have f4_:=f1_.symm;have f5_:=f3_.symm;clear f1_ f2_ f3_;subst f4_;subst f5_))
 refine hK.out _ _ ⟨(blk_cell BK143.out 0).trans rfl,(blk_cell BK143.out 1).trans rfl,(blk_cell BK143.out 2).trans rfl⟩ (fun hHeld=>?_)
 clear hK K
 refine norm_ (a':=?_) ?_ ?_
 rotate_left
 ·show Act.put _ (some 8) _=_
  simp only [Act.put,List.setIfInBounds_toArray,List.set_cons_zero,List.set_cons_succ,i64_w,i32_w]
  rfl
 refine pure_ (i:=8) (N:=some 11) (v:=?_) (a':=?_) #[true,true,true,true,true,true,true,true,true,false] rfl rfl (any_of HT_.out (by kernel_rfl)) (fun _ _ _ h=>h) (Or.inl ⟨by rfl,?_⟩) ?_ ?_
 rotate_left
 ·intro w'
  go_simp
  with_reducible rfl
 rotate_left
 ·simp only [Act.put,List.setIfInBounds_toArray,List.set_cons_zero,List.set_cons_succ,i64_w,i32_w]
  rfl
 refine one_ (i:=9) (N:=none) #[true,true,true,true,true,true,true,true,true,true] rfl rfl (one_of HT_.out (by kernel_rfl)) (by decide) (fun K hK=>?_)
 have hs11:w8.cell? ⟨gb144,0,none⟩=some (.slice none 0 0):=(blk_cell BK144.out 0).trans rfl
 have hfs11:=blk_frozen BK144.out 0
 have hns11_0:=NB143_144.out
 have hms11_0:=NB144_143.out
 have hs12:w8.cell? ⟨gb144,1,none⟩=some (.slice none 0 0):=(blk_cell BK144.out 1).trans rfl
 have hfs12:=blk_frozen BK144.out 1
 have hns12_0:=NB143_144.out
 have hms12_0:=NB144_143.out
 have hs13:w8.cell? ⟨gb144,2,none⟩=some (.int .i64 0):=(blk_cell BK144.out 2).trans rfl
 have hfs13:=blk_frozen BK144.out 2
 have hns13_0:=NB143_144.out
 have hms13_0:=NB144_143.out
 refine skip_ (w1:=?_) (by rfl) rfl ?_ ?_
 rotate_left
 ·go_simp
  rfl
 refine hK.out _ _ ⟨?_,?_,?_⟩ ?_
 ·exact ((Go.Proofs.Ytkhbmgclklmimaa.Sem.far3 (g:=gb144) NB143_144.out).trans (hHeld.1))
 ·exact ((Go.Proofs.Ytkhbmgclklmimaa.Sem.far3 (g:=gb144) NB143_144.out).trans (hHeld.2.1))
 ·exact ((Go.Proofs.Ytkhbmgclklmimaa.Sem.far3 (g:=gb144) NB143_144.out).trans (hHeld.2.2))
 intro hHeld
 clear hK K
 refine done_ (done_of HT_.out (by kernel_rfl)) ?_
 try go_wp2
 refine bodyPost_ret (results_cell_row rfl _ _ gb144 25 #[.slice Ao10 t145.length co10,.slice Ao9 t148.length co9,.int .i64 a0_2] (0,0) _ rfl (by (with_reducible repeat (first|refine zbN ?_ _|refine zbD ?_|refine zbA ?_ _));refine blk_put (cs:=#[.slice Ao10 t145.length co10,.slice Ao9 t148.length co9,.int .i64 0]) ?_ 2 _ rfl;(with_reducible repeat (first|refine zbN ?_ _|refine zbD ?_|refine zbA ?_ _));refine blk_put (cs:=#[.slice Ao10 t145.length co10,.slice none 0 0,.int .i64 0]) ?_ 1 _ rfl;(with_reducible repeat (first|refine zbN ?_ _|refine zbD ?_|refine zbA ?_ _));refine blk_put (cs:=#[.slice none 0 0,.slice none 0 0,.int .i64 0]) ?_ 0 _ rfl;(with_reducible repeat (first|refine zbN ?_ _|refine zbD ?_|refine zbA ?_ _));exact BK144.out) Try.underlying25 rfl (by kernel_rfl)) rfl ?_
 exact ⟨_,_,by first|rfl|(simp [errW_none,errW_some] <;> rfl)|(simp [*,errW_none,errW_some] <;> rfl),by (with_reducible repeat (first|apply zrA|apply zrN|apply zrD));exact Kd.R_mono (Kd.R_far (p:=⟨gb144,2,none⟩) (Kd.R_far (p:=⟨gb144,1,none⟩) (Kd.R_far (p:=⟨gb144,0,none⟩) (Kd.R_types HO147.out BK144.out (by decide)) (fun _ hk=>hk.2) (.slice Ao10 t145.length co10)) (fun _ hk=>hk.2) (.slice Ao9 t148.length co9)) (fun _ hk=>hk.2) (.int .i64 a0_2)) (fun _ hk=>trivial),by (with_reducible repeat (first|apply zrA|apply zrN|apply zrD));exact Kd.R_mono (Kd.R_far (p:=⟨gb144,2,none⟩) (Kd.R_far (p:=⟨gb144,1,none⟩) (Kd.R_far (p:=⟨gb144,0,none⟩) (Kd.R_types HO150.out BK144.out (by decide)) (fun _ hk=>hk.2) (.slice Ao10 t145.length co10)) (fun _ hk=>hk.2) (.slice Ao9 t148.length co9)) (fun _ hk=>hk.2) (.int .i64 a0_2)) (fun _ hk=>trivial),by repeat (first|(with_reducible first|exact HB.out|apply zlA|apply zlN|apply zlD|refine zlS ?_ GE143.out|refine zlS ?_ GE144.out)|exact HB.out)⟩
end Go.Proofs.Ytkhbmgclklmimaa.Print
end
section
namespace Go.Proofs.Ytkhbmgclklmimaa.Print
open Go.RowKit Go.Proofs.YtkhbmgclklmimaaW.PrintWords Go.Proofs.YtkhbmgclklmimaaW.PrintLast Go.Proofs.YtkhbmgclklmimaaW.PrintMore
attribute [local go_sem] max2_int min2_int max_two min_two max_three min_three max_four min_four   -- for this text's walks alone
attribute [local go_sem ↓] Go.Proofs.Ytkhbmgclklmimaa.Sem.isSome_setCell
attribute [local go_sem] Go.Instr.field Go.asAgg
set_option linter.unusedVariables false
set_option linter.unusedSimpArgs false
def mapjnl_Join.l0:Nat → Int → Int → List Bool → List Int → Int → List Bool → List Int → Int → Option (List Bool × List Int × Int × Int)
 | 0,_,_,_,_,_,_,_,_=>none
 | k + 1,x20,x21,x153000,x153001,x153002,x163000,x163001,x163002=>if x21 < x20 then (if 0≤x21 then (if x21 < (x163000.length:Int) then (if rdOf false x163000 x21=true then (if x21 < (x163001.length:Int) then (if x21 < (x153001.length:Int) then (mapjnl_Join.l0 k x20 (wrap64 (x21 + 1)) x153000 x153001 x153002 (x163000.set (x21:Int).toNat true) (x163001.set (x21:Int).toNat (mx (rd x163001 x21) (rd x153001 x21))) x163002) else (none)) else (none)) else (if x21 < (x153000.length:Int) then (if x21 < (x163001.length:Int) then (if x21 < (x153001.length:Int) then (mapjnl_Join.l0 k x20 (wrap64 (x21 + 1)) x153000 x153001 x153002 (x163000.set (x21:Int).toNat (rdOf false x153000 x21)) (x163001.set (x21:Int).toNat (mx (rd x163001 x21) (rd x153001 x21))) x163002) else (none)) else (none)) else (none))) else (none)) else (none)) else (some (x163000,x163001,mx x163002 x153002,0))
def mapjnl_Join.f (k:Nat) (l0_0:List Bool) (l0_1:List Int) (a0_2:Int) (l1_0:List Bool) (l1_1:List Int) (a1_2:Int):Option (List Bool × List Int × Int × Int):=(mapjnl_both.f k l0_0 l0_1 a0_2 l1_0 l1_1 a1_2).bind fun t154=>(if t154=0 then ((mapjnl_clone.f l0_0 l0_1 a0_2).bind fun bt155=>(mapjnl_Join.l0 k (bt155.1.length:Int) 0 l1_0 l1_1 a1_2 bt155.1 bt155.2.1 bt155.2.2)) else (some (([]:List Bool),([]:List Int),0,t154)))
theorem mapjnl_Join.mono_l:∀ k,(∀ y0 y1 y2 y3 y4 y5 y6 y7,LeO (mapjnl_Join.l0 k y0 y1 y2 y3 y4 y5 y6 y7) (mapjnl_Join.l0 (k + 1) y0 y1 y2 y3 y4 y5 y6 y7))
 | 0=>fun _ _ _ _ _ _ _ _ r h=>by simp [mapjnl_Join.l0] at h
 | k + 1=>by
  have ih0:=mapjnl_Join.mono_l k
  ·intro y0 y1 y2 y3 y4 y5 y6 y7
   unfold mapjnl_Join.l0
   repeat' first
   | (with_reducible exact ih0 _ _ _ _ _ _ _ _)
   | (with_reducible exact mapjnl_both.mono _ _ _ _ _ _ _)
   | (with_reducible exact LeO.refl _)
   | (with_reducible exact LeO.none _)
   | (with_reducible refine LeO.ite ?_ ?_)
   | (with_reducible refine LeO.bind ?_ (fun _=>?_))
   | exact ih0 _ _ _ _ _ _ _ _
   | exact mapjnl_both.mono _ _ _ _ _ _ _
   | exact LeO.none _
   | refine LeO.ite ?_ ?_
   | refine LeO.bind ?_ (fun _=>?_)
theorem mapjnl_Join.mono:∀ a0 a1 a2 a3 a4 a5 k,LeO (mapjnl_Join.f k a0 a1 a2 a3 a4 a5) (mapjnl_Join.f (k + 1) a0 a1 a2 a3 a4 a5):=by
 intro a0 a1 a2 a3 a4 a5 k
 have ih0:=mapjnl_Join.mono_l k
 unfold mapjnl_Join.f
 repeat' first
   | (with_reducible exact ih0 _ _ _ _ _ _ _ _)
   | (with_reducible exact mapjnl_both.mono _ _ _ _ _ _ _)
   | (with_reducible exact LeO.refl _)
   | (with_reducible exact LeO.none _)
   | (with_reducible refine LeO.ite ?_ ?_)
   | (with_reducible refine LeO.bind ?_ (fun _=>?_))
   | exact ih0 _ _ _ _ _ _ _ _
   | exact mapjnl_both.mono _ _ _ _ _ _ _
   | exact LeO.none _
   | refine LeO.ite ?_ ?_
   | refine LeO.bind ?_ (fun _=>?_)
def mapjnl_Join.T8:Bool × List (List Nat × List Nat):=(true,[([],[]),([0],[0]),([],[]),([],[]),([3],[3]),([],[]),([4,5],[4,5]),([6],[6]),([7],[7]),([8],[8]),([9,8],[8,9]),([8],[8]),([10,11,8],[8,10,11]),([12,8],[8,12]),([8,13],[8,13]),([1,2,0,1,2,3,4,5,6,7,8,9,10,11,12,13,14],[1,2]),([15,14,8,0,1,2,3,4,5,6,7,8,9,10,11,12,13,14],[14,15])])
def mapjnl_Join.B8:List Nat:=[0,1,0,0,8,0,56,120,248,504,1016,504,4088,8184,16376,32767,65535]
theorem mapjnl_Join.tab8:rtab .any (opsOf Try.f13 8)=mapjnl_Join.T8:=by kernel_rfl
theorem mapjnl_Join.bits8:waitsOk mapjnl_Join.T8.2 mapjnl_Join.B8=true:=by kernel_rfl
def mapjnl_Join.T9:Bool × List (List Nat × List Nat):=(true,[([],[]),([0],[0]),([],[]),([],[]),([3],[3]),([],[]),([4,5],[4,5]),([6],[6]),([],[]),([8],[8]),([],[]),([9,10],[9,10]),([11],[11]),([7,12],[7,12]),([1,2,0,1,2,3,4,5,6,7,8,9,10,11,12,13],[1,2]),([14,13,0,1,2,3,4,5,6,7,8,9,10,11,12,13],[13,14])])
def mapjnl_Join.B9:List Nat:=[0,1,0,0,8,0,56,120,0,256,0,1792,3840,8184,16383,32767]
theorem mapjnl_Join.tab9:rtab .any (opsOf Try.f13 9)=mapjnl_Join.T9:=by kernel_rfl
theorem mapjnl_Join.bits9:waitsOk mapjnl_Join.T9.2 mapjnl_Join.B9=true:=by kernel_rfl
set_option maxHeartbeats 8000000 in
set_option maxRecDepth 100000 in
theorem mapjnl_Join.calls (k:Nat) (A0_0:Option Addr) (c0_0:Nat) (l0_0:List Bool) (A0_1:Option Addr) (c0_1:Nat) (l0_1:List Int) (a0_2:Int) (A1_0:Option Addr) (c1_0:Nat) (l1_0:List Bool) (A1_1:Option Addr) (c1_1:Nat) (l1_1:List Int) (a1_2:Int) (r1:List Bool) (r2:List Int) (r3:Int) (r4:Int) (w:World) (hr0_0:Kd.C Kd.bool w A0_0 l0_0.length l0_0) (hc0_0:l0_0.length≤c0_0) (hr0_1:Kd.C (Kd.int .i64) w A0_1 l0_1.length l0_1) (hc0_1:l0_1.length≤c0_1) (hr1_0:Kd.C Kd.bool w A1_0 l1_0.length l1_0) (hc1_0:l1_0.length≤c1_0) (hr1_1:Kd.C (Kd.int .i64) w A1_1 l1_1.length l1_1) (hc1_1:l1_1.length≤c1_1) (h:mapjnl_Join.f k l0_0 l0_1 a0_2 l1_0 l1_1 a1_2=some (r1,r2,r3,r4)) :
  Calls Try.prog 13 #[.agg #[.slice A0_0 l0_0.length c0_0,.slice A0_1 l0_1.length c0_1,.int .i64 a0_2],.agg #[.slice A1_0 l1_0.length c1_0,.slice A1_1 l1_1.length c1_1,.int .i64 a1_2]] w fun e w'=>∃ v0_ v1_:Value,e=.returned (.tuple #[.agg #[v0_,v1_,.int .i64 r3],.int .i64 r4])∧Kd.R Kd.bool 4 w' w.heap.size (fun _=>True) v0_ r1∧Kd.R (Kd.int .i64) 2 w' w.heap.size (fun _=>True) v1_ r2∧Below w.heap.size w w':=by
 have hu25:=Try.underlying25
 have HR0_0:=zm hr0_0
 have HC0_0:=zm hc0_0
 clear hr0_0 hc0_0
 have HR0_1:=zm hr0_1
 have HC0_1:=zm hc0_1
 clear hr0_1 hc0_1
 have HR1_0:=zm hr1_0
 have HC1_0:=zm hc1_0
 clear hr1_0 hc1_0
 have HR1_1:=zm hr1_1
 have HC1_1:=zm hc1_1
 clear hr1_1 hc1_1
 have HB:=zm (Below.refl w.heap.size w)
 have H:((mapjnl_both.f k l0_0 l0_1 a0_2 l1_0 l1_1 a1_2).bind fun t154=>(if t154=0 then ((mapjnl_clone.f l0_0 l0_1 a0_2).bind fun bt155=>(mapjnl_Join.l0 k (bt155.1.length:Int) 0 l1_0 l1_1 a1_2 bt155.1 bt155.2.1 bt155.2.2)) else (some (([]:List Bool),([]:List Int),0,t154))))=some (r1,r2,r3,r4):=h
 clear h
 replace H:=Option.bind_eq_some_iff.mp H
 obtain ⟨t154,A30,H⟩:=H
 replace H:(if t154=0 then ((mapjnl_clone.f l0_0 l0_1 a0_2).bind fun bt155=>(mapjnl_Join.l0 k (bt155.1.length:Int) 0 l1_0 l1_1 a1_2 bt155.1 bt155.2.1 bt155.2.2)) else (some (([]:List Bool),([]:List Int),0,t154)))=some (r1,r2,r3,r4):=H
 have A3:=zm A30
 clear A30
 by_cases c4:t154=0
 ·rw [if_pos c4] at H
  have c4b0:(t154 == 0)=true:=beq_iff_eq.mpr c4
  have c4b1:(t154 != 0)=false:=bne_eq_false_iff_eq.mpr c4
  clear c4
  replace H:=Option.bind_eq_some_iff.mp H
  obtain ⟨⟨t155,t158,t161⟩,A50,H⟩:=H
  replace H:(mapjnl_Join.l0 k (t155.length:Int) 0 l1_0 l1_1 a1_2 t155 t158 t161)=some (r1,r2,r3,r4):=H
  have A5:=zm A50
  clear A50
  have H':=zm H
  clear H
  go_enter Try.func13,Try.ntmps13
  go_wp2_with (first|((with_reducible refine gate_dst (N:=2) rfl ?_);refine box_event ?hg (N:=2) ?hd (cs:=#[.slice A0_0 l0_0.length c0_0,.slice A0_1 l0_1.length c0_1,.int .i64 a0_2]) (t:=25) ?hr ?_;(case hd=>rfl);(case hg=>rfl);(case hr=>first|(go_simp;done)|(go_simp;rfl));intro gb151 hg w6 hbox hb;have n0_:=zm (below_step (by repeat (first|(with_reducible first|exact HB.out|apply zlA|apply zlN|apply zlD)|exact HB.out)) hb);have n1_:=zm (hbox);have n2_:=zm ((by rw [hg];exact (below_size (by repeat (first|(with_reducible first|exact HB.out|apply zlA|apply zlN|apply zlD)|exact HB.out))):w.heap.size≤gb151));have n3_:=zm ((by rw [hg];exact (below_size (by repeat (first|(with_reducible first|exact HB.out|apply zlA|apply zlN|apply zlD)|exact HB.out))):w.heap.size≤gb151));clear HB;have HB:=n0_;have BK151:=n1_;have GW151:=n2_;have GE151:=n3_;clear n0_ n1_ n2_ n3_;clear hb hbox hg)|((with_reducible refine gate_dst (N:=3) rfl ?_);refine box_event ?hg (N:=3) ?hd (cs:=#[.slice A1_0 l1_0.length c1_0,.slice A1_1 l1_1.length c1_1,.int .i64 a1_2]) (t:=25) ?hr ?_;(case hd=>rfl);(case hg=>rfl);(case hr=>first|(go_simp;done)|(go_simp;rfl));intro gb152 hg w7 hbox hb;have n0_:=zm (zbB (g:=gb151) (o:=.cells #[.slice A0_0 l0_0.length c0_0,.slice A0_1 l0_1.length c0_1,.int .i64 a0_2] 25 (0,0)) (by (with_reducible repeat (first|refine zbN ?_ _|refine zbD ?_|refine zbA ?_ _));exact BK151.out) hb);have n1_:=zm (below_step (by repeat (first|(with_reducible first|exact HB.out|apply zlA|apply zlN|apply zlD|refine zlS ?_ GE151.out)|exact HB.out)) hb);have n2_:=zm (hbox);have n3_:=zm ((by rw [hg];exact (below_size (by repeat (first|(with_reducible first|exact HB.out|apply zlA|apply zlN|apply zlD|refine zlS ?_ GE151.out)|exact HB.out))):w.heap.size≤gb152));have n4_:=zm ((by rw [hg];exact (below_size (by repeat (first|(with_reducible first|exact HB.out|apply zlA|apply zlN|apply zlD|refine zlS ?_ GE151.out)|exact HB.out))):w.heap.size≤gb152));have n5_:=zm ((by rw [hg];exact Nat.ne_of_lt (blk_lt (g:=gb151) (o:=.cells #[.slice A0_0 l0_0.length c0_0,.slice A0_1 l0_1.length c0_1,.int .i64 a0_2] 25 (0,0)) (by (with_reducible repeat (first|refine zbN ?_ _|refine zbD ?_|refine zbA ?_ _));exact BK151.out)):gb151≠gb152));have n6_:=zm ((by rw [hg];exact Nat.ne_of_gt (blk_lt (g:=gb151) (o:=.cells #[.slice A0_0 l0_0.length c0_0,.slice A0_1 l0_1.length c0_1,.int .i64 a0_2] 25 (0,0)) (by (with_reducible repeat (first|refine zbN ?_ _|refine zbD ?_|refine zbA ?_ _));exact BK151.out)):gb152≠gb151));clear BK151 HB;have BK151:=n0_;have HB:=n1_;have BK152:=n2_;have GW152:=n3_;have GE152:=n4_;have NB151_152:=n5_;have NB152_151:=n6_;clear n0_ n1_ n2_ n3_ n4_ n5_ n6_;clear hb hbox hg)|((with_reducible refine gate_dst (N:=4) rfl ?_);refine box_event ?hg (N:=4) ?hd (cs:=#[.slice none 0 0,.slice none 0 0,.int .i64 0]) (t:=25) ?hr ?_;(case hd=>rfl);(case hg=>rfl);(case hr=>first|(go_simp;done)|(go_simp;rfl));intro gb153 hg w8 hbox hb;have n0_:=zm (zbB (g:=gb151) (o:=.cells #[.slice A0_0 l0_0.length c0_0,.slice A0_1 l0_1.length c0_1,.int .i64 a0_2] 25 (0,0)) (by (with_reducible repeat (first|refine zbN ?_ _|refine zbD ?_|refine zbA ?_ _));exact BK151.out) hb);have n1_:=zm (zbB (g:=gb152) (o:=.cells #[.slice A1_0 l1_0.length c1_0,.slice A1_1 l1_1.length c1_1,.int .i64 a1_2] 25 (0,0)) (by (with_reducible repeat (first|refine zbN ?_ _|refine zbD ?_|refine zbA ?_ _));exact BK152.out) hb);have n2_:=zm (below_step (by repeat (first|(with_reducible first|exact HB.out|apply zlA|apply zlN|apply zlD|refine zlS ?_ GE151.out|refine zlS ?_ GE152.out)|exact HB.out)) hb);have n3_:=zm (hbox);have n4_:=zm ((by rw [hg];exact (below_size (by repeat (first|(with_reducible first|exact HB.out|apply zlA|apply zlN|apply zlD|refine zlS ?_ GE151.out|refine zlS ?_ GE152.out)|exact HB.out))):w.heap.size≤gb153));have n5_:=zm ((by rw [hg];exact (below_size (by repeat (first|(with_reducible first|exact HB.out|apply zlA|apply zlN|apply zlD|refine zlS ?_ GE151.out|refine zlS ?_ GE152.out)|exact HB.out))):w.heap.size≤gb153));have n6_:=zm ((by rw [hg];exact Nat.ne_of_lt (blk_lt (g:=gb151) (o:=.cells #[.slice A0_0 l0_0.length c0_0,.slice A0_1 l0_1.length c0_1,.int .i64 a0_2] 25 (0,0)) (by (with_reducible repeat (first|refine zbN ?_ _|refine zbD ?_|refine zbA ?_ _));exact BK151.out)):gb151≠gb153));have n7_:=zm ((by rw [hg];exact Nat.ne_of_gt (blk_lt (g:=gb151) (o:=.cells #[.slice A0_0 l0_0.length c0_0,.slice A0_1 l0_1.length c0_1,.int .i64 a0_2] 25 (0,0)) (by (with_reducible repeat (first|refine zbN ?_ _|refine zbD ?_|refine zbA ?_ _));exact BK151.out)):gb153≠gb151));have n8_:=zm ((by rw [hg];exact Nat.ne_of_lt (blk_lt (g:=gb152) (o:=.cells #[.slice A1_0 l1_0.length c1_0,.slice A1_1 l1_1.length c1_1,.int .i64 a1_2] 25 (0,0)) (by (with_reducible repeat (first|refine zbN ?_ _|refine zbD ?_|refine zbA ?_ _));exact BK152.out)):gb152≠gb153));have n9_:=zm ((by rw [hg];exact Nat.ne_of_gt (blk_lt (g:=gb152) (o:=.cells #[.slice A1_0 l1_0.length c1_0,.slice A1_1 l1_1.length c1_1,.int .i64 a1_2] 25 (0,0)) (by (with_reducible repeat (first|refine zbN ?_ _|refine zbD ?_|refine zbA ?_ _));exact BK152.out)):gb153≠gb152));clear BK151 BK152 HB;have BK151:=n0_;have BK152:=n1_;have HB:=n2_;have BK153:=n3_;have GW153:=n4_;have GE153:=n5_;have NB151_153:=n6_;have NB153_151:=n7_;have NB152_153:=n8_;have NB153_152:=n9_;clear n0_ n1_ n2_ n3_ n4_ n5_ n6_ n7_ n8_ n9_;clear hb hbox hg;have hnb9:=NB151_152.out;have hnc9:=NB152_151.out;have hnb10:=NB151_153.out;have hnc10:=NB153_151.out;have hcz11_0:w8.cell? ⟨gb151,0,none⟩=some (.slice A0_0 l0_0.length c0_0):=(blk_cell BK151.out 0).trans rfl;have hcz11_1:w8.cell? ⟨gb151,1,none⟩=some (.slice A0_1 l0_1.length c0_1):=(blk_cell BK151.out 1).trans rfl;have hcz11_2:w8.cell? ⟨gb151,2,none⟩=some (.int .i64 a0_2):=(blk_cell BK151.out 2).trans rfl;have hfz11_0:=blk_frozen BK151.out 0;have hfz11_1:=blk_frozen BK151.out 1;have hfz11_2:=blk_frozen BK151.out 2;have hnb12:=NB152_153.out;have hnc12:=NB153_152.out;have hcz13_0:w8.cell? ⟨gb152,0,none⟩=some (.slice A1_0 l1_0.length c1_0):=(blk_cell BK152.out 0).trans rfl;have hcz13_1:w8.cell? ⟨gb152,1,none⟩=some (.slice A1_1 l1_1.length c1_1):=(blk_cell BK152.out 1).trans rfl;have hcz13_2:w8.cell? ⟨gb152,2,none⟩=some (.int .i64 a1_2):=(blk_cell BK152.out 2).trans rfl;have hfz13_0:=blk_frozen BK152.out 0;have hfz13_1:=blk_frozen BK152.out 1;have hfz13_2:=blk_frozen BK152.out 2)|((with_reducible refine gate_callee (f:=50) rfl ?_);refine goesL_ (some 11) rfl rfl Try.func50 (by kernel_rfl) rfl #[.agg #[.slice A0_0 l0_0.length c0_0,.slice A0_1 l0_1.length c0_1,.int .i64 a0_2],.agg #[.slice A1_0 l1_0.length c1_0,.slice A1_1 l1_1.length c1_1,.int .i64 a1_2]] rfl (by (try simp only [List.map_toArray,List.map_cons,List.map_nil]);first|done|rfl|(simp only [List.length_drop,List.length_take];rfl)) ?_;(with_reducible refine (mapjnl_both.calls k _ _ l0_0 _ _ l0_1 a0_2 _ _ l1_0 _ _ l1_1 a1_2 t154 _ ?side1 ?side2 ?side3 ?side4 ?side5 ?side6 ?side7 ?side8 A3.out).mono ?_);(case side1=>repeat (first|exact (Kd.C_below HR0_0.out HB.out)|(with_reducible refine Kd.C_alloc ?_ _)|(with_reducible refine Kd.C_drewN ?_ _)|(with_reducible refine Kd.C_drew ?_)));(case side2=>exact HC0_0.out);(case side3=>repeat (first|exact (Kd.C_below HR0_1.out HB.out)|(with_reducible refine Kd.C_alloc ?_ _)|(with_reducible refine Kd.C_drewN ?_ _)|(with_reducible refine Kd.C_drew ?_)));(case side4=>exact HC0_1.out);(case side5=>repeat (first|exact (Kd.C_below HR1_0.out HB.out)|(with_reducible refine Kd.C_alloc ?_ _)|(with_reducible refine Kd.C_drewN ?_ _)|(with_reducible refine Kd.C_drew ?_)));(case side6=>exact HC1_0.out);(case side7=>repeat (first|exact (Kd.C_below HR1_1.out HB.out)|(with_reducible refine Kd.C_alloc ?_ _)|(with_reducible refine Kd.C_drewN ?_ _)|(with_reducible refine Kd.C_drew ?_)));(case side8=>exact HC1_1.out);rintro e w14 ⟨rfl,hb⟩;refine ⟨_,rfl,?_⟩;have n0_:=zm (zbB (g:=gb151) (o:=.cells #[.slice A0_0 l0_0.length c0_0,.slice A0_1 l0_1.length c0_1,.int .i64 a0_2] 25 (0,0)) (by (with_reducible repeat (first|refine zbN ?_ _|refine zbD ?_|refine zbA ?_ _));exact BK151.out) hb);have n1_:=zm (zbB (g:=gb152) (o:=.cells #[.slice A1_0 l1_0.length c1_0,.slice A1_1 l1_1.length c1_1,.int .i64 a1_2] 25 (0,0)) (by (with_reducible repeat (first|refine zbN ?_ _|refine zbD ?_|refine zbA ?_ _));exact BK152.out) hb);have n2_:=zm (zbB (g:=gb153) (o:=.cells #[.slice none 0 0,.slice none 0 0,.int .i64 0] 25 (0,0)) (by (with_reducible repeat (first|refine zbN ?_ _|refine zbD ?_|refine zbA ?_ _));exact BK153.out) hb);have n3_:=zm (below_step (by repeat (first|(with_reducible first|exact HB.out|apply zlA|apply zlN|apply zlD|refine zlS ?_ GE151.out|refine zlS ?_ GE152.out|refine zlS ?_ GE153.out)|exact HB.out)) hb);clear BK151 BK152 BK153 HB;have BK151:=n0_;have BK152:=n1_;have BK153:=n2_;have HB:=n3_;clear n0_ n1_ n2_ n3_;(try clear hb);(try clear hb2);(try clear hk);(try clear hi);have hcz15_0:w14.cell? ⟨gb151,0,none⟩=some (.slice A0_0 l0_0.length c0_0):=(blk_cell BK151.out 0).trans rfl;have hcz15_1:w14.cell? ⟨gb151,1,none⟩=some (.slice A0_1 l0_1.length c0_1):=(blk_cell BK151.out 1).trans rfl;have hcz15_2:w14.cell? ⟨gb151,2,none⟩=some (.int .i64 a0_2):=(blk_cell BK151.out 2).trans rfl;have hfz15_0:=blk_frozen BK151.out 0;have hfz15_1:=blk_frozen BK151.out 1;have hfz15_2:=blk_frozen BK151.out 2)|((with_reducible refine gate_callee (f:=51) rfl ?_);refine goesL_ (some 17) rfl rfl Try.func51 (by kernel_rfl) rfl #[.agg #[.slice A0_0 l0_0.length c0_0,.slice A0_1 l0_1.length c0_1,.int .i64 a0_2]] rfl (by (try simp only [List.map_toArray,List.map_cons,List.map_nil]);first|done|rfl|(simp only [List.length_drop,List.length_take];rfl)) ?_;(with_reducible refine (mapjnl_clone.calls _ _ l0_0 _ _ l0_1 a0_2 t155 t158 t161 _ ?side1 ?side2 ?side3 ?side4 A5.out).mono ?_);(case side1=>repeat (first|exact (Kd.C_below HR0_0.out HB.out)|(with_reducible refine Kd.C_alloc ?_ _)|(with_reducible refine Kd.C_drewN ?_ _)|(with_reducible refine Kd.C_drew ?_)));(case side2=>exact HC0_0.out);(case side3=>repeat (first|exact (Kd.C_below HR0_1.out HB.out)|(with_reducible refine Kd.C_alloc ?_ _)|(with_reducible refine Kd.C_drewN ?_ _)|(with_reducible refine Kd.C_drew ?_)));(case side4=>exact HC0_1.out);rintro e w16 ⟨v156,v159,rfl,ho0,ho1,hb⟩;refine ⟨_,rfl,?_⟩;have n0_:=zm (Kd.R_lower ho0 (below_size (by repeat (first|(with_reducible first|exact HB.out|apply zlA|apply zlN|apply zlD|refine zlS ?_ GE151.out|refine zlS ?_ GE152.out|refine zlS ?_ GE153.out)|exact HB.out))));have n1_:=zm (Kd.R_lower ho1 (below_size (by repeat (first|(with_reducible first|exact HB.out|apply zlA|apply zlN|apply zlD|refine zlS ?_ GE151.out|refine zlS ?_ GE152.out|refine zlS ?_ GE153.out)|exact HB.out))));have n2_:=zm (zbB (g:=gb151) (o:=.cells #[.slice A0_0 l0_0.length c0_0,.slice A0_1 l0_1.length c0_1,.int .i64 a0_2] 25 (0,0)) (by (with_reducible repeat (first|refine zbN ?_ _|refine zbD ?_|refine zbA ?_ _));exact BK151.out) hb);have n3_:=zm (zbB (g:=gb152) (o:=.cells #[.slice A1_0 l1_0.length c1_0,.slice A1_1 l1_1.length c1_1,.int .i64 a1_2] 25 (0,0)) (by (with_reducible repeat (first|refine zbN ?_ _|refine zbD ?_|refine zbA ?_ _));exact BK152.out) hb);have n4_:=zm (zbB (g:=gb153) (o:=.cells #[.slice none 0 0,.slice none 0 0,.int .i64 0] 25 (0,0)) (by (with_reducible repeat (first|refine zbN ?_ _|refine zbD ?_|refine zbA ?_ _));exact BK153.out) hb);have n5_:=zm (below_step (by repeat (first|(with_reducible first|exact HB.out|apply zlA|apply zlN|apply zlD|refine zlS ?_ GE151.out|refine zlS ?_ GE152.out|refine zlS ?_ GE153.out)|exact HB.out)) hb);clear BK151 BK152 BK153 HB;have HO157:=n0_;have HO160:=n1_;have BK151:=n2_;have BK152:=n3_;have BK153:=n4_;have HB:=n5_;clear n0_ n1_ n2_ n3_ n4_ n5_;(try clear hb);(try clear hb2);(try clear hk);(try clear hi);(try clear ho0);(try clear ho1))|((with_reducible refine gate_dst (N:=7) rfl ?_);refine box_event ?hg (N:=7) ?hd (cs:=#[.slice none 0 0,.slice none 0 0,.int .i64 0]) (t:=25) ?hr ?_;(case hd=>rfl);(case hg=>rfl);(case hr=>first|(go_simp;done)|(go_simp;rfl));intro gb162 hg w17 hbox hb;have n0_:=zm (Kd.R_below (by (with_reducible repeat (first|apply zrA|apply zrN|apply zrD));exact HO157.out) hb);have n1_:=zm (Kd.R_below (by (with_reducible repeat (first|apply zrA|apply zrN|apply zrD));exact HO160.out) hb);have n2_:=zm (zbB (g:=gb151) (o:=.cells #[.slice A0_0 l0_0.length c0_0,.slice A0_1 l0_1.length c0_1,.int .i64 a0_2] 25 (0,0)) (by (with_reducible repeat (first|refine zbN ?_ _|refine zbD ?_|refine zbA ?_ _));exact BK151.out) hb);have n3_:=zm (zbB (g:=gb152) (o:=.cells #[.slice A1_0 l1_0.length c1_0,.slice A1_1 l1_1.length c1_1,.int .i64 a1_2] 25 (0,0)) (by (with_reducible repeat (first|refine zbN ?_ _|refine zbD ?_|refine zbA ?_ _));exact BK152.out) hb);have n4_:=zm (zbB (g:=gb153) (o:=.cells #[.slice none 0 0,.slice none 0 0,.int .i64 0] 25 (0,0)) (by (with_reducible repeat (first|refine zbN ?_ _|refine zbD ?_|refine zbA ?_ _));exact BK153.out) hb);have n5_:=zm (below_step (by repeat (first|(with_reducible first|exact HB.out|apply zlA|apply zlN|apply zlD|refine zlS ?_ GE151.out|refine zlS ?_ GE152.out|refine zlS ?_ GE153.out)|exact HB.out)) hb);have n6_:=zm (hbox);have n7_:=zm ((by rw [hg];exact (below_size (by repeat (first|(with_reducible first|exact HB.out|apply zlA|apply zlN|apply zlD|refine zlS ?_ GE151.out|refine zlS ?_ GE152.out|refine zlS ?_ GE153.out)|exact HB.out))):w.heap.size≤gb162));have n8_:=zm ((by rw [hg];exact (below_size (by repeat (first|(with_reducible first|exact HB.out|apply zlA|apply zlN|apply zlD|refine zlS ?_ GE151.out|refine zlS ?_ GE152.out|refine zlS ?_ GE153.out)|exact HB.out))):w.heap.size≤gb162));have n9_:=zm ((by rw [hg];exact Nat.ne_of_lt (blk_lt (g:=gb151) (o:=.cells #[.slice A0_0 l0_0.length c0_0,.slice A0_1 l0_1.length c0_1,.int .i64 a0_2] 25 (0,0)) (by (with_reducible repeat (first|refine zbN ?_ _|refine zbD ?_|refine zbA ?_ _));exact BK151.out)):gb151≠gb162));have n10_:=zm ((by rw [hg];exact Nat.ne_of_gt (blk_lt (g:=gb151) (o:=.cells #[.slice A0_0 l0_0.length c0_0,.slice A0_1 l0_1.length c0_1,.int .i64 a0_2] 25 (0,0)) (by (with_reducible repeat (first|refine zbN ?_ _|refine zbD ?_|refine zbA ?_ _));exact BK151.out)):gb162≠gb151));have n11_:=zm ((by rw [hg];exact Nat.ne_of_lt (blk_lt (g:=gb152) (o:=.cells #[.slice A1_0 l1_0.length c1_0,.slice A1_1 l1_1.length c1_1,.int .i64 a1_2] 25 (0,0)) (by (with_reducible repeat (first|refine zbN ?_ _|refine zbD ?_|refine zbA ?_ _));exact BK152.out)):gb152≠gb162));have n12_:=zm ((by rw [hg];exact Nat.ne_of_gt (blk_lt (g:=gb152) (o:=.cells #[.slice A1_0 l1_0.length c1_0,.slice A1_1 l1_1.length c1_1,.int .i64 a1_2] 25 (0,0)) (by (with_reducible repeat (first|refine zbN ?_ _|refine zbD ?_|refine zbA ?_ _));exact BK152.out)):gb162≠gb152));have n13_:=zm ((by rw [hg];exact Nat.ne_of_lt (blk_lt (g:=gb153) (o:=.cells #[.slice none 0 0,.slice none 0 0,.int .i64 0] 25 (0,0)) (by (with_reducible repeat (first|refine zbN ?_ _|refine zbD ?_|refine zbA ?_ _));exact BK153.out)):gb153≠gb162));have n14_:=zm ((by rw [hg];exact Nat.ne_of_gt (blk_lt (g:=gb153) (o:=.cells #[.slice none 0 0,.slice none 0 0,.int .i64 0] 25 (0,0)) (by (with_reducible repeat (first|refine zbN ?_ _|refine zbD ?_|refine zbA ?_ _));exact BK153.out)):gb162≠gb153));clear HO157 HO160 BK151 BK152 BK153 HB;have HO157:=n0_;have HO160:=n1_;have BK151:=n2_;have BK152:=n3_;have BK153:=n4_;have HB:=n5_;have BK162:=n6_;have GW162:=n7_;have GE162:=n8_;have NB151_162:=n9_;have NB162_151:=n10_;have NB152_162:=n11_;have NB162_152:=n12_;have NB153_162:=n13_;have NB162_153:=n14_;clear n0_ n1_ n2_ n3_ n4_ n5_ n6_ n7_ n8_ n9_ n10_ n11_ n12_ n13_ n14_;clear hb hbox hg;obtain ⟨Ao18,co18,eo18⟩:=Kd.R_slice HO157.out;subst eo18;have hnb19:=NB162_151.out;have hnc19:=NB151_162.out;have hnb20:=NB162_152.out;have hnc20:=NB152_162.out;have hnb21:=NB162_153.out;have hnc21:=NB153_162.out;have hcz22_0:w17.cell? ⟨gb162,0,none⟩=some (.slice none 0 0):=(blk_cell BK162.out 0).trans rfl;have hcz22_1:w17.cell? ⟨gb162,1,none⟩=some (.slice none 0 0):=(blk_cell BK162.out 1).trans rfl;have hcz22_2:w17.cell? ⟨gb162,2,none⟩=some (.int .i64 0):=(blk_cell BK162.out 2).trans rfl;have hfz22_0:=blk_frozen BK162.out 0;have hfz22_1:=blk_frozen BK162.out 1;have hfz22_2:=blk_frozen BK162.out 2;obtain ⟨Ao23,co23,eo23⟩:=Kd.R_slice HO160.out;subst eo23))
  go_loopg [21] k (fun kq v21 w'=>∃ (x21_1:Int) (x163000_1:List Bool) (x163001_1:List Int) (u163000:Value) (u163001:Value),v21=.int .i64 x21_1∧Aside0 (mapjnl_Join.l0 kq (t155.length:Int) x21_1 l1_0 l1_1 a1_2 x163000_1 x163001_1 t161=some (r1,r2,r3,r4))∧Aside0 (kq≤k)∧Aside0 (Kd.R Kd.bool 4 w' w.heap.size (fun _=>True) u163000 x163000_1)∧Aside0 (Kd.R (Kd.int .i64) 2 w' w.heap.size (fun _=>True) u163001 x163001_1)∧Aside0 (w'.heap[gb151]?=some (.cells #[(.slice A0_0 l0_0.length c0_0),(.slice A0_1 l0_1.length c0_1),.int .i64 a0_2] 25 (0,0)))∧Aside0 (w'.heap[gb152]?=some (.cells #[(.slice A1_0 l1_0.length c1_0),(.slice A1_1 l1_1.length c1_1),.int .i64 a1_2] 25 (0,0)))∧Aside0 (w'.heap[gb153]?=some (.cells #[(.slice none 0 0),(.slice none 0 0),.int .i64 0] 25 (0,0)))∧Aside0 (w'.heap[gb162]?=some (.cells #[u163000,u163001,.int .i64 t161] 25 (0,0)))∧Aside0 (Below w.heap.size w w'))
  case atStart=>exact ⟨(0),(t155),(t158),(.slice Ao18 t155.length co18),(.slice Ao23 t158.length co23),(by first|rfl|(simp;done)|(simp [*];done)),H',⟨Nat.le_refl _⟩,⟨by (with_reducible repeat (first|apply zrA|apply zrN|apply zrD));exact Kd.R_mono (Kd.R_far (p:=⟨gb162,2,none⟩) (Kd.R_far (p:=⟨gb162,1,none⟩) (Kd.R_far (p:=⟨gb162,0,none⟩) (Kd.R_types HO157.out BK162.out (by decide)) (fun _ hk=>hk.2) (.slice Ao18 t155.length co18)) (fun _ hk=>hk.2) (.slice Ao23 t158.length co23)) (fun _ hk=>hk.2) (.int .i64 t161)) (fun _ hk=>trivial)⟩,⟨by (with_reducible repeat (first|apply zrA|apply zrN|apply zrD));exact Kd.R_mono (Kd.R_far (p:=⟨gb162,2,none⟩) (Kd.R_far (p:=⟨gb162,1,none⟩) (Kd.R_far (p:=⟨gb162,0,none⟩) (Kd.R_types HO160.out BK162.out (by decide)) (fun _ hk=>hk.2) (.slice Ao18 t155.length co18)) (fun _ hk=>hk.2) (.slice Ao23 t158.length co23)) (fun _ hk=>hk.2) (.int .i64 t161)) (fun _ hk=>trivial)⟩,⟨by (with_reducible repeat (first|refine zbN ?_ _|refine zbD ?_|refine zbA ?_ _));refine blk_far ?_ NB151_162.out _;(with_reducible repeat (first|refine zbN ?_ _|refine zbD ?_|refine zbA ?_ _));refine blk_far ?_ NB151_162.out _;(with_reducible repeat (first|refine zbN ?_ _|refine zbD ?_|refine zbA ?_ _));refine blk_far ?_ NB151_162.out _;(with_reducible repeat (first|refine zbN ?_ _|refine zbD ?_|refine zbA ?_ _));exact BK151.out⟩,⟨by (with_reducible repeat (first|refine zbN ?_ _|refine zbD ?_|refine zbA ?_ _));refine blk_far ?_ NB152_162.out _;(with_reducible repeat (first|refine zbN ?_ _|refine zbD ?_|refine zbA ?_ _));refine blk_far ?_ NB152_162.out _;(with_reducible repeat (first|refine zbN ?_ _|refine zbD ?_|refine zbA ?_ _));refine blk_far ?_ NB152_162.out _;(with_reducible repeat (first|refine zbN ?_ _|refine zbD ?_|refine zbA ?_ _));exact BK152.out⟩,⟨by (with_reducible repeat (first|refine zbN ?_ _|refine zbD ?_|refine zbA ?_ _));refine blk_far ?_ NB153_162.out _;(with_reducible repeat (first|refine zbN ?_ _|refine zbD ?_|refine zbA ?_ _));refine blk_far ?_ NB153_162.out _;(with_reducible repeat (first|refine zbN ?_ _|refine zbD ?_|refine zbA ?_ _));refine blk_far ?_ NB153_162.out _;(with_reducible repeat (first|refine zbN ?_ _|refine zbD ?_|refine zbA ?_ _));exact BK153.out⟩,⟨by (with_reducible repeat (first|refine zbN ?_ _|refine zbD ?_|refine zbA ?_ _));refine blk_put (cs:=#[.slice Ao18 t155.length co18,.slice Ao23 t158.length co23,.int .i64 0]) ?_ 2 _ rfl;(with_reducible repeat (first|refine zbN ?_ _|refine zbD ?_|refine zbA ?_ _));refine blk_put (cs:=#[.slice Ao18 t155.length co18,.slice none 0 0,.int .i64 0]) ?_ 1 _ rfl;(with_reducible repeat (first|refine zbN ?_ _|refine zbD ?_|refine zbA ?_ _));refine blk_put (cs:=#[.slice none 0 0,.slice none 0 0,.int .i64 0]) ?_ 0 _ rfl;(with_reducible repeat (first|refine zbN ?_ _|refine zbD ?_|refine zbA ?_ _));exact BK162.out⟩,⟨by repeat (first|(with_reducible first|exact HB.out|apply zlA|apply zlN|apply zlD|refine zlS ?_ GE151.out|refine zlS ?_ GE152.out|refine zlS ?_ GE153.out|refine zlS ?_ GE162.out)|exact HB.out)⟩⟩
  case round =>
   clear H'
   try clear c1
   try clear c2
   try clear p2
   try clear c4
   try clear c4b0
   try clear c4b1
   try clear c5
   try clear c9
   try clear c10
   try clear c12
   try clear c13
   try clear c19
   try clear c20
   try clear c21
   try clear hcz11_0
   try clear hcz11_1
   try clear hcz11_2
   try clear hcz13_0
   try clear hcz13_1
   try clear hcz13_2
   try clear hcz15_0
   try clear hcz15_1
   try clear hcz15_2
   try clear hcz22_0
   try clear hcz22_1
   try clear hcz22_2
   try clear hfz11_0
   try clear hfz11_1
   try clear hfz11_2
   try clear hfz13_0
   try clear hfz13_1
   try clear hfz13_2
   try clear hfz15_0
   try clear hfz15_1
   try clear hfz15_2
   try clear hfz22_0
   try clear hfz22_1
   try clear hfz22_2
   obtain ⟨x21_1,x163000_1,x163001_1,u163000,u163001,rfl,HA,HK1,HO_163000,HO_163001,BK151,BK152,BK153,BK162,HB⟩:=hrel
   cases gk with
   | zero=>exact absurd HA.out (by simp [mapjnl_Join.l0])
   | succ k1 =>
    have H:=HA.out
    clear HA
    simp only [mapjnl_Join.l0] at H
    by_cases c24:x21_1 < (t155.length:Int)
    ·rw [if_pos c24] at H
     have c24b0:decide (x21_1 < (t155.length:Int))=true:=decide_eq_true c24
     clear c24
     by_cases c25:0≤x21_1
     ·rw [if_pos c25] at H
      have c25b0:decide (0≤x21_1)=true:=decide_eq_true c25
      clear c25
      by_cases c26:x21_1 < (x163000_1.length:Int)
      ·rw [if_pos c26] at H
       have c26b0:decide (x21_1 < (x163000_1.length:Int))=true:=decide_eq_true c26
       clear c26
       obtain ⟨bq27,hbq27⟩:∃ b_:Bool,b_=(rdOf false x163000_1 x21_1):=⟨_,rfl⟩
       replace H:(if bq27=true then (if x21_1 < (x163001_1.length:Int) then (if x21_1 < (l1_1.length:Int) then (mapjnl_Join.l0 k1 (t155.length:Int) (wrap64 (x21_1 + 1)) l1_0 l1_1 a1_2 (x163000_1.set (x21_1:Int).toNat true) (x163001_1.set (x21_1:Int).toNat (mx (rd x163001_1 x21_1) (rd l1_1 x21_1))) t161) else (none)) else (none)) else (if x21_1 < (l1_0.length:Int) then (if x21_1 < (x163001_1.length:Int) then (if x21_1 < (l1_1.length:Int) then (mapjnl_Join.l0 k1 (t155.length:Int) (wrap64 (x21_1 + 1)) l1_0 l1_1 a1_2 (x163000_1.set (x21_1:Int).toNat (rdOf false l1_0 x21_1)) (x163001_1.set (x21_1:Int).toNat (mx (rd x163001_1 x21_1) (rd l1_1 x21_1))) t161) else (none)) else (none)) else (none)))=some (r1,r2,r3,r4):=by rw [← hbq27] at H;exact H
       have Nbq27:=zm hbq27
       clear hbq27
       by_cases c28:bq27=true
       ·subst c28
        have H1:(if x21_1 < (x163001_1.length:Int) then (if x21_1 < (l1_1.length:Int) then (mapjnl_Join.l0 k1 (t155.length:Int) (wrap64 (x21_1 + 1)) l1_0 l1_1 a1_2 (x163000_1.set (x21_1:Int).toNat true) (x163001_1.set (x21_1:Int).toNat (mx (rd x163001_1 x21_1) (rd l1_1 x21_1))) t161) else (none)) else (none))=some (r1,r2,r3,r4):=by rw [if_pos rfl] at H;exact H
        clear H
        have H:=H1
        clear H1
        obtain ⟨y164,hy164⟩:∃ y_:List Bool,y_=(x163000_1.set (x21_1:Int).toNat true):=⟨_,rfl⟩
        replace H:(if x21_1 < (x163001_1.length:Int) then (if x21_1 < (l1_1.length:Int) then (mapjnl_Join.l0 k1 (t155.length:Int) (wrap64 (x21_1 + 1)) l1_0 l1_1 a1_2 y164 (x163001_1.set (x21_1:Int).toNat (mx (rd x163001_1 x21_1) (rd l1_1 x21_1))) t161) else (none)) else (none))=some (r1,r2,r3,r4):=by first|(rw [hy164];with_reducible exact H)|(have H2_:=(Option.bind_some _ _).symm.trans H;rw [hy164];with_reducible exact H2_)|(have H2_:=(Option.bind_some _ _).symm.trans H;with_reducible exact H2_)|with_reducible exact H|(rw [hy164];exact H)|exact H
        have Ny164:=zm hy164
        clear hy164
        by_cases c30:x21_1 < (x163001_1.length:Int)
        ·rw [if_pos c30] at H
         have c30b0:decide (x21_1 < (x163001_1.length:Int))=true:=decide_eq_true c30
         clear c30
         by_cases c31:x21_1 < (l1_1.length:Int)
         ·rw [if_pos c31] at H
          have c31b0:decide (x21_1 < (l1_1.length:Int))=true:=decide_eq_true c31
          clear c31
          obtain ⟨ji32,hji32⟩:∃ j_:Int,(mx (rd x163001_1 x21_1) (rd l1_1 x21_1))=j_:=⟨_,rfl⟩
          replace H:(mapjnl_Join.l0 k1 (t155.length:Int) (wrap64 (x21_1 + 1)) l1_0 l1_1 a1_2 y164 (x163001_1.set (x21_1:Int).toNat (ji32)) t161)=some (r1,r2,r3,r4):=by first|(rw [hji32] at H;exact H)|(simp only [hji32] at H ⊢;exact H)
          have hji32_:(if (rd x163001_1 x21_1) < (rd l1_1 x21_1) then (rd l1_1 x21_1) else (rd x163001_1 x21_1))=ji32:=hji32
          obtain ⟨y167,hy167⟩:∃ y_:List Int,y_=(x163001_1.set (x21_1:Int).toNat (ji32)):=⟨_,rfl⟩
          replace H:(mapjnl_Join.l0 k1 (t155.length:Int) (wrap64 (x21_1 + 1)) l1_0 l1_1 a1_2 y164 y167 t161)=some (r1,r2,r3,r4):=by first|(rw [hy167];with_reducible exact H)|(have H2_:=(Option.bind_some _ _).symm.trans H;rw [hy167];with_reducible exact H2_)|(have H2_:=(Option.bind_some _ _).symm.trans H;with_reducible exact H2_)|with_reducible exact H|(rw [hy167];exact H)|exact H
          have Ny167:=zm hy167
          clear hy167
          have H':=zm H
          clear H
          try go_wp2
          have n0_:=zm (zrD HO_163000.out)
          have n1_:=zm (zrD HO_163001.out)
          have n2_:=zm (zbD BK151.out)
          have n3_:=zm (zbD BK152.out)
          have n4_:=zm (zbD BK153.out)
          have n5_:=zm (zbD BK162.out)
          have n6_:=zm (zlD HB.out)
          clear HO_163000 HO_163001 BK151 BK152 BK153 BK162 HB
          have HO_163000:=n0_
          have HO_163001:=n1_
          have BK151:=n2_
          have BK152:=n3_
          have BK153:=n4_
          have BK162:=n5_
          have HB:=n6_
          clear n0_ n1_ n2_ n3_ n4_ n5_ n6_
          obtain ⟨Ao35,co35,eo35⟩:=Kd.R_slice HO_163000.out
          (first|subst eo35|(injection eo35 with f1_ f2_ f3_;have f4_:=f1_.symm;have f5_:=f3_.symm;clear f1_ f2_ f3_;subst f4_;subst f5_))
          have p163:0≤(x21_1:Int):=of_decide_eq_true (by first|(with_reducible assumption)|assumption)
          have q163:x21_1 < (x163000_1.length:Int):=of_decide_eq_true (by first|(with_reducible assumption)|assumption)
          obtain ⟨ad163,e163,hx163_0⟩:=Kd.at_bool (Kd.R_reads' HO_163000.out).2.2 x21_1 p163 q163
          (try rw [← Nbq27.out] at hx163_0)
          cases e163
          replace p163:=eq_true p163
          replace q163:=eq_true q163
          have p29:0≤(x21_1:Int):=of_decide_eq_true (by first|(with_reducible assumption)|assumption)
          have q29:(x21_1:Int) < ((x163000_1.length:Int):Int):=of_decide_eq_true (by first|(with_reducible assumption)|assumption)
          obtain ⟨go29,co29,eo29,gb29,gl29,cl29,HG29⟩:=Kd.R_form HO_163000.out (by omega)
          (first|cases eo29|(injection eo29 with ea_ en_ ec_;(first|subst ea_|(injection ea_ with ea_;subst ea_));subst ec_;clear en_))
          have GB29:=zm gb29
          have GG29:=zm HG29
          clear gb29 gl29 HG29
          (first|simp only [add_plain] at hx163_0|skip)
          obtain ⟨hx29_0,hf29_0⟩:=Kd.R_celln false HO_163000.out (x21_1:Int) p29 q29
          replace p29:=eq_true p29
          replace q29:=eq_true q29
          have HP36:=Kd.R_putn HO_163000.out (x21_1:Int) true
          rw [← Ny164.out] at HP36
          have HQ36:=zm HP36
          clear HP36
          refine start_ (n:=17) (S:=fun w'=>w'.cell? ⟨gb162,0,none⟩=some (.slice (some ⟨go29,0,none⟩) x163000_1.length co35)∧w'.cell? ⟨gb162,1,none⟩=some (u163001)∧w'.cell? ⟨gb162,2,none⟩=some (.int .i64 t161)∧w'.cell? ⟨go29,(x21_1).toNat,none⟩=some (.bool true)) (ds:=[16]) #[false,false,false,false,false,false,false,false,false,false,false,false,false,false,false,false,false] (by kernel_rfl) rfl rfl ⟨(blk_cell BK162.out 0).trans rfl,(blk_cell BK162.out 1).trans rfl,(blk_cell BK162.out 2).trans rfl,hx163_0⟩ (fun hHeld=>?_);refine with_tabW mapjnl_Join.tab8 mapjnl_Join.bits8 (fun HT_ HW_=>?_)
          generalize wr.drew=w34 at HO_163000 HO_163001 BK151 BK152 BK153 BK162 HB GG29 HQ36 hf29_0 hx163_0 hx29_0 hHeld ⊢
          refine pure_ (i:=0) (N:=some 24) (v:=?_) (a':=?_) #[true,false,false,false,false,false,false,false,false,false,false,false,false,false,false,false,false] rfl rfl (any_of HT_.out (by kernel_rfl)) (fun _ _ _ h=>h) (Or.inl ⟨by rfl,?_⟩) ?_ ?_
          rotate_left
          ·intro w'
           go_simp
           with_reducible rfl
          rotate_left
          ·simp only [Act.put,List.setIfInBounds_toArray,List.set_cons_zero,List.set_cons_succ,i64_w,i32_w]
           rfl
          refine pure_ (i:=2) (N:=some 26) (v:=?_) (a':=?_) #[true,false,true,false,false,false,false,false,false,false,false,false,false,false,false,false,false] rfl rfl (any_of HT_.out (by kernel_rfl)) (fun _ _ _ h=>h) (Or.inl ⟨by rfl,?_⟩) ?_ ?_
          rotate_left
          ·intro w'
           go_simp
           with_reducible rfl
          rotate_left
          ·simp only [Act.put,List.setIfInBounds_toArray,List.set_cons_zero,List.set_cons_succ,i64_w,i32_w]
           rfl
          refine pure_ (i:=3) (N:=some 27) (v:=?_) (a':=?_) #[true,false,true,true,false,false,false,false,false,false,false,false,false,false,false,false,false] rfl rfl (any_of HT_.out (by kernel_rfl)) (fun _ _ _ h=>h) (Or.inl ⟨by rfl,?_⟩) ?_ ?_
          rotate_left
          ·intro w'
           go_simp
           with_reducible rfl
          rotate_left
          ·simp only [Act.put,List.setIfInBounds_toArray,List.set_cons_zero,List.set_cons_succ,i64_w,i32_w]
           rfl
          refine pure_ (i:=5) (N:=some 29) (v:=?_) (a':=?_) #[true,false,true,true,false,true,false,false,false,false,false,false,false,false,false,false,false] rfl rfl (any_of HT_.out (by kernel_rfl)) (fun _ _ _ h=>h) (Or.inl ⟨by rfl,?_⟩) ?_ ?_
          rotate_left
          ·intro w'
           go_simp
           with_reducible rfl
          rotate_left
          ·simp only [Act.put,List.setIfInBounds_toArray,List.set_cons_zero,List.set_cons_succ,i64_w,i32_w]
           rfl
          refine take_ (i:=1) (N:=some 25) (v:=?_) (a':=?_) #[true,true,true,true,false,true,false,false,false,false,false,false,false,false,false,false,false] rfl rfl (take_ofW HT_.out HW_.out (by kernel_rfl)) (fun _ _ _ h=>h) (Or.inl ⟨by rfl,?_⟩) hHeld ?_ ?_
          rotate_left
          ·rintro w' ⟨s0,s1,s2,s3⟩
           go_simp
           with_reducible rfl
          rotate_left
          ·simp only [Act.put,List.setIfInBounds_toArray,List.set_cons_zero,List.set_cons_succ,i64_w,i32_w]
           rfl
          refine take_ (i:=4) (N:=some 28) (v:=?_) (a':=?_) #[true,true,true,true,true,true,false,false,false,false,false,false,false,false,false,false,false] rfl rfl (take_ofW HT_.out HW_.out (by kernel_rfl)) (fun _ _ _ h=>h) (Or.inl ⟨by rfl,?_⟩) hHeld ?_ ?_
          rotate_left
          ·rintro w' ⟨s0,s1,s2,s3⟩
           go_simp
           with_reducible rfl
          rotate_left
          ·simp only [Act.put,List.setIfInBounds_toArray,List.set_cons_zero,List.set_cons_succ,i64_w,i32_w]
           rfl
          refine pure_ (i:=6) (N:=some 30) (v:=?_) (a':=?_) #[true,true,true,true,true,true,true,false,false,false,false,false,false,false,false,false,false] rfl rfl (any_of HT_.out (by kernel_rfl)) (fun _ _ _ h=>h) (Or.inl ⟨by rfl,?_⟩) ?_ ?_
          rotate_left
          ·intro w'
           go_simp
           with_reducible rfl
          rotate_left
          ·simp only [Act.put,List.setIfInBounds_toArray,List.set_cons_zero,List.set_cons_succ,i64_w,i32_w]
           rfl
          refine take_ (i:=7) (N:=some 31) (v:=?_) (a':=?_) #[true,true,true,true,true,true,true,true,false,false,false,false,false,false,false,false,false] rfl rfl (take_ofW HT_.out HW_.out (by kernel_rfl)) (fun _ _ _ h=>h) (Or.inl ⟨by rfl,?_⟩) hHeld ?_ ?_
          rotate_left
          ·rintro w' ⟨s0,s1,s2,s3⟩
           go_simp
           with_reducible rfl
          rotate_left
          ·simp only [Act.put,List.setIfInBounds_toArray,List.set_cons_zero,List.set_cons_succ,i64_w,i32_w]
           rfl
          refine pure_ (i:=8) (N:=some 32) (v:=?_) (a':=?_) #[true,true,true,true,true,true,true,true,true,false,false,false,false,false,false,false,false] rfl rfl (any_of HT_.out (by kernel_rfl)) (fun _ _ _ h=>h) (Or.inl ⟨by rfl,?_⟩) ?_ ?_
          rotate_left
          ·intro w'
           go_simp
           with_reducible rfl
          rotate_left
          ·simp only [Act.put,List.setIfInBounds_toArray,List.set_cons_zero,List.set_cons_succ,i64_w,i32_w]
           rfl
          refine pure_ (i:=9) (N:=some 33) (v:=undef) (a':=?_) #[true,true,true,true,true,true,true,true,true,true,false,false,false,false,false,false,false] rfl rfl (any_of HT_.out (by kernel_rfl)) (fun _ _ _ h=>h) (Or.inr ⟨by rfl,rfl⟩) ?_ ?_
          rotate_left
          ·simp only [Act.put,List.setIfInBounds_toArray,List.set_cons_zero,List.set_cons_succ,i64_w,i32_w]
           rfl
          refine pure_ (i:=10) (N:=some 34) (v:=undef) (a':=?_) #[true,true,true,true,true,true,true,true,true,true,true,false,false,false,false,false,false] rfl rfl (any_of HT_.out (by kernel_rfl)) (fun _ _ _ h=>h) (Or.inr ⟨by rfl,rfl⟩) ?_ ?_
          rotate_left
          ·simp only [Act.put,List.setIfInBounds_toArray,List.set_cons_zero,List.set_cons_succ,i64_w,i32_w]
           rfl
          refine pure_ (i:=11) (N:=some 35) (v:=undef) (a':=?_) #[true,true,true,true,true,true,true,true,true,true,true,true,false,false,false,false,false] rfl rfl (any_of HT_.out (by kernel_rfl)) (fun _ _ _ h=>h) (Or.inr ⟨by rfl,rfl⟩) ?_ ?_
          rotate_left
          ·simp only [Act.put,List.setIfInBounds_toArray,List.set_cons_zero,List.set_cons_succ,i64_w,i32_w]
           rfl
          refine pure_ (i:=12) (N:=some 36) (v:=undef) (a':=?_) #[true,true,true,true,true,true,true,true,true,true,true,true,true,false,false,false,false] rfl rfl (any_of HT_.out (by kernel_rfl)) (fun _ _ _ h=>h) (Or.inr ⟨by rfl,rfl⟩) ?_ ?_
          rotate_left
          ·simp only [Act.put,List.setIfInBounds_toArray,List.set_cons_zero,List.set_cons_succ,i64_w,i32_w]
           rfl
          refine pure_ (i:=13) (N:=some 37) (v:=undef) (a':=?_) #[true,true,true,true,true,true,true,true,true,true,true,true,true,true,false,false,false] rfl rfl (any_of HT_.out (by kernel_rfl)) (fun _ _ _ h=>h) (Or.inr ⟨by rfl,rfl⟩) ?_ ?_
          rotate_left
          ·simp only [Act.put,List.setIfInBounds_toArray,List.set_cons_zero,List.set_cons_succ,i64_w,i32_w]
           rfl
          refine pure_ (i:=14) (N:=some 38) (v:=?_) (a':=?_) #[true,true,true,true,true,true,true,true,true,true,true,true,true,true,true,false,false] rfl rfl (any_of HT_.out (by kernel_rfl)) (fun _ _ _ h=>h) (Or.inl ⟨by rfl,?_⟩) ?_ ?_
          rotate_left
          ·intro w'
           go_simp
           with_reducible rfl
          rotate_left
          ·simp only [Act.put,List.setIfInBounds_toArray,List.set_cons_zero,List.set_cons_succ,i64_w,i32_w]
           rfl
          refine pure_ (i:=15) (N:=some 39) (v:=?_) (a':=?_) #[true,true,true,true,true,true,true,true,true,true,true,true,true,true,true,true,false] rfl rfl (any_of HT_.out (by kernel_rfl)) (fun _ _ _ h=>h) (Or.inl ⟨by rfl,?_⟩) ?_ ?_
          rotate_left
          ·intro w'
           go_simp
           with_reducible rfl
          rotate_left
          ·simp only [Act.put,List.setIfInBounds_toArray,List.set_cons_zero,List.set_cons_succ,i64_w,i32_w]
           rfl
          refine last_ (i:=16) (N:=none) #[true,true,true,true,true,true,true,true,true,true,true,true,true,true,true,true,true] rfl rfl (one_of HT_.out (by kernel_rfl)) (by decide) (fun K hK=>?_)
          refine skip_ (w1:=?_) (by rfl) rfl ?_ ?_
          rotate_left
          ·go_simp
           rfl
          refine hK.out _ _ ?_
          clear hK K
          refine done_ (done_of HT_.out (by kernel_rfl)) ?_
          try go_wp2
          have n0_:Aside0 (Kd.R Kd.bool 4 (w34.setCell ⟨go29,(x21_1:Int).toNat,none⟩ (.bool true)) w.heap.size (fun _=>True) (.slice (some ⟨go29,0,none⟩) x163000_1.length co35) y164):=⟨by (with_reducible repeat (first|apply zrA|apply zrN|apply zrD));exact HQ36.out⟩
          have n1_:Aside0 (Kd.R (Kd.int .i64) 2 (w34.setCell ⟨go29,(x21_1:Int).toNat,none⟩ (.bool true)) w.heap.size (fun _=>True) u163001 x163001_1):=⟨by (with_reducible repeat (first|apply zrA|apply zrN|apply zrD));exact Kd.R_mono (Kd.R_far (p:=⟨go29,(x21_1:Int).toNat,none⟩) (Kd.R_types HO_163001.out GG29.out (by decide)) (fun _ hk=>hk.2) (.bool true)) (fun _ hk=>trivial)⟩
          have n2_:Aside0 ((w34.setCell ⟨go29,(x21_1:Int).toNat,none⟩ (.bool true)).heap[gb151]?=some (.cells #[.slice A0_0 l0_0.length c0_0,.slice A0_1 l0_1.length c0_1,.int .i64 a0_2] 25 (0,0))):=⟨by (with_reducible repeat (first|refine zbN ?_ _|refine zbD ?_|refine zbA ?_ _));refine blk_far ?_ (by have h_:=Kd.R_ne HO_163000.out BK151.out (by decide);intro e_;exact h_ (by rw [e_];rfl)) _;(with_reducible repeat (first|refine zbN ?_ _|refine zbD ?_|refine zbA ?_ _));exact BK151.out⟩
          have n3_:Aside0 ((w34.setCell ⟨go29,(x21_1:Int).toNat,none⟩ (.bool true)).heap[gb152]?=some (.cells #[.slice A1_0 l1_0.length c1_0,.slice A1_1 l1_1.length c1_1,.int .i64 a1_2] 25 (0,0))):=⟨by (with_reducible repeat (first|refine zbN ?_ _|refine zbD ?_|refine zbA ?_ _));refine blk_far ?_ (by have h_:=Kd.R_ne HO_163000.out BK152.out (by decide);intro e_;exact h_ (by rw [e_];rfl)) _;(with_reducible repeat (first|refine zbN ?_ _|refine zbD ?_|refine zbA ?_ _));exact BK152.out⟩
          have n4_:Aside0 ((w34.setCell ⟨go29,(x21_1:Int).toNat,none⟩ (.bool true)).heap[gb153]?=some (.cells #[.slice none 0 0,.slice none 0 0,.int .i64 0] 25 (0,0))):=⟨by (with_reducible repeat (first|refine zbN ?_ _|refine zbD ?_|refine zbA ?_ _));refine blk_far ?_ (by have h_:=Kd.R_ne HO_163000.out BK153.out (by decide);intro e_;exact h_ (by rw [e_];rfl)) _;(with_reducible repeat (first|refine zbN ?_ _|refine zbD ?_|refine zbA ?_ _));exact BK153.out⟩
          have n5_:Aside0 ((w34.setCell ⟨go29,(x21_1:Int).toNat,none⟩ (.bool true)).heap[gb162]?=some (.cells #[.slice (some ⟨go29,0,none⟩) x163000_1.length co35,u163001,.int .i64 t161] 25 (0,0))):=⟨by (with_reducible repeat (first|refine zbN ?_ _|refine zbD ?_|refine zbA ?_ _));refine blk_far ?_ (by have h_:=Kd.R_ne HO_163000.out BK162.out (by decide);intro e_;exact h_ (by rw [e_];rfl)) _;(with_reducible repeat (first|refine zbN ?_ _|refine zbD ?_|refine zbA ?_ _));exact BK162.out⟩
          have n6_:Aside0 (Below w.heap.size w (w34.setCell ⟨go29,(x21_1:Int).toNat,none⟩ (.bool true))):=⟨by repeat (first|(with_reducible first|exact HB.out|apply zlA|apply zlN|apply zlD|refine zlS ?_ GB29.out|refine zlS ?_ GE151.out|refine zlS ?_ GE152.out|refine zlS ?_ GE153.out|refine zlS ?_ GE162.out)|exact HB.out)⟩
          (try clear HO_163000)
          (try clear HO_163001)
          (try clear BK151)
          (try clear BK152)
          (try clear BK153)
          (try clear BK162)
          (try clear HB)
          generalize (w34.setCell ⟨go29,(x21_1:Int).toNat,none⟩ (.bool true))=w37 at n0_ n1_ n2_ n3_ n4_ n5_ n6_ ⊢
          have HO_163000:=n0_
          have HO_163001:=n1_
          have BK151:=n2_
          have BK152:=n3_
          have BK153:=n4_
          have BK162:=n5_
          have HB:=n6_
          clear n0_ n1_ n2_ n3_ n4_ n5_ n6_
          have n0_:=zm (zrD HO_163000.out)
          have n1_:=zm (zrD HO_163001.out)
          have n2_:=zm (zbD BK151.out)
          have n3_:=zm (zbD BK152.out)
          have n4_:=zm (zbD BK153.out)
          have n5_:=zm (zbD BK162.out)
          have n6_:=zm (zlD HB.out)
          clear HO_163000 HO_163001 BK151 BK152 BK153 BK162 HB
          have HO_163000:=n0_
          have HO_163001:=n1_
          have BK151:=n2_
          have BK152:=n3_
          have BK153:=n4_
          have BK162:=n5_
          have HB:=n6_
          clear n0_ n1_ n2_ n3_ n4_ n5_ n6_
          obtain ⟨Ao39,co39,eo39⟩:=Kd.R_slice HO_163001.out
          (first|subst eo39|(injection eo39 with f1_ f2_ f3_;have f4_:=f1_.symm;have f5_:=f3_.symm;clear f1_ f2_ f3_;subst f4_;subst f5_))
          have p165:0≤(x21_1:Int):=of_decide_eq_true (by first|(with_reducible assumption)|assumption)
          have q165:x21_1 < (x163001_1.length:Int):=of_decide_eq_true (by first|(with_reducible assumption)|assumption)
          obtain ⟨ad165,e165,hx165_0⟩:=Kd.at_int (Kd.R_reads' HO_163001.out).2.2 x21_1 p165 q165
          cases e165
          replace p165:=eq_true p165
          replace q165:=eq_true q165
          have p166:0≤(x21_1:Int):=of_decide_eq_true (by first|(with_reducible assumption)|assumption)
          have q166:x21_1 < (l1_1.length:Int):=of_decide_eq_true (by first|(with_reducible assumption)|assumption)
          obtain ⟨ad166,e166,hx166_0⟩:=Kd.at_int HR1_1.out x21_1 p166 q166
          have hw166_0:=hx166_0
          cases e166
          replace hx166_0:=(HB.out.cell (World.block_lt_of_cell? w _ hx166_0)).trans hx166_0
          replace p166:=eq_true p166
          replace q166:=eq_true q166
          have p33:0≤(x21_1:Int):=of_decide_eq_true (by first|(with_reducible assumption)|assumption)
          have q33:(x21_1:Int) < ((x163001_1.length:Int):Int):=of_decide_eq_true (by first|(with_reducible assumption)|assumption)
          obtain ⟨go33,co33,eo33,gb33,gl33,cl33,HG33⟩:=Kd.R_form HO_163001.out (by omega)
          (first|cases eo33|(injection eo33 with ea_ en_ ec_;(first|subst ea_|(injection ea_ with ea_;subst ea_));subst ec_;clear en_))
          have GB33:=zm gb33
          have GG33:=zm HG33
          clear gb33 gl33 HG33
          (first|simp only [add_plain] at hx165_0|skip)
          obtain ⟨hx33_0,hf33_0⟩:=Kd.R_celln 0 HO_163001.out (x21_1:Int) p33 q33
          replace p33:=eq_true p33
          replace q33:=eq_true q33
          have HP40:=Kd.R_putn HO_163001.out (x21_1:Int) ji32
          rw [← Ny167.out] at HP40
          have HQ40:=zm HP40
          clear HP40
          refine start_ (n:=16) (S:=fun w'=>w'.cell? ⟨gb162,0,none⟩=some (.slice (some ⟨go29,0,none⟩) x163000_1.length co35)∧w'.cell? ⟨gb162,1,none⟩=some (.slice (some ⟨go33,0,none⟩) x163001_1.length co39)∧w'.cell? ⟨gb162,2,none⟩=some (.int .i64 t161)∧w'.cell? ⟨gb152,0,none⟩=some (.slice A1_0 l1_0.length c1_0)∧w'.cell? ⟨gb152,1,none⟩=some (.slice (some ad166) l1_1.length c1_1)∧w'.cell? ⟨gb152,2,none⟩=some (.int .i64 a1_2)∧w'.cell? ⟨go33,(x21_1).toNat,none⟩=some (.int .i64 (rd x163001_1 x21_1))∧w'.cell? (ad166.add (x21_1).toNat)=some (.int .i64 (rd l1_1 x21_1))) (ds:=[15]) #[false,false,false,false,false,false,false,false,false,false,false,false,false,false,false,false] (by kernel_rfl) rfl rfl ⟨(blk_cell BK162.out 0).trans rfl,(blk_cell BK162.out 1).trans rfl,(blk_cell BK162.out 2).trans rfl,(blk_cell BK152.out 0).trans rfl,(blk_cell BK152.out 1).trans rfl,(blk_cell BK152.out 2).trans rfl,hx165_0,((HB.out.cell (World.block_lt_of_cell? w _ hw166_0)).trans hw166_0)⟩ (fun hHeld=>?_);refine with_tabW mapjnl_Join.tab9 mapjnl_Join.bits9 (fun HT_ HW_=>?_)
          generalize w37.drew=w38 at HO_163000 HO_163001 BK151 BK152 BK153 BK162 HB GG33 HQ36 HQ40 hf33_0 hx165_0 hx166_0 hx33_0 hHeld ⊢
          refine pure_ (i:=0) (N:=some 40) (v:=?_) (a':=?_) #[true,false,false,false,false,false,false,false,false,false,false,false,false,false,false,false] rfl rfl (any_of HT_.out (by kernel_rfl)) (fun _ _ _ h=>h) (Or.inl ⟨by rfl,?_⟩) ?_ ?_
          rotate_left
          ·intro w'
           go_simp
           with_reducible rfl
          rotate_left
          ·simp only [Act.put,List.setIfInBounds_toArray,List.set_cons_zero,List.set_cons_succ,i64_w,i32_w]
           rfl
          refine pure_ (i:=2) (N:=some 42) (v:=?_) (a':=?_) #[true,false,true,false,false,false,false,false,false,false,false,false,false,false,false,false] rfl rfl (any_of HT_.out (by kernel_rfl)) (fun _ _ _ h=>h) (Or.inl ⟨by rfl,?_⟩) ?_ ?_
          rotate_left
          ·intro w'
           go_simp
           with_reducible rfl
          rotate_left
          ·simp only [Act.put,List.setIfInBounds_toArray,List.set_cons_zero,List.set_cons_succ,i64_w,i32_w]
           rfl
          refine pure_ (i:=3) (N:=some 43) (v:=?_) (a':=?_) #[true,false,true,true,false,false,false,false,false,false,false,false,false,false,false,false] rfl rfl (any_of HT_.out (by kernel_rfl)) (fun _ _ _ h=>h) (Or.inl ⟨by rfl,?_⟩) ?_ ?_
          rotate_left
          ·intro w'
           go_simp
           with_reducible rfl
          rotate_left
          ·simp only [Act.put,List.setIfInBounds_toArray,List.set_cons_zero,List.set_cons_succ,i64_w,i32_w]
           rfl
          refine pure_ (i:=5) (N:=some 45) (v:=?_) (a':=?_) #[true,false,true,true,false,true,false,false,false,false,false,false,false,false,false,false] rfl rfl (any_of HT_.out (by kernel_rfl)) (fun _ _ _ h=>h) (Or.inl ⟨by rfl,?_⟩) ?_ ?_
          rotate_left
          ·intro w'
           go_simp
           with_reducible rfl
          rotate_left
          ·simp only [Act.put,List.setIfInBounds_toArray,List.set_cons_zero,List.set_cons_succ,i64_w,i32_w]
           rfl
          refine pure_ (i:=8) (N:=some 48) (v:=?_) (a':=?_) #[true,false,true,true,false,true,false,false,true,false,false,false,false,false,false,false] rfl rfl (any_of HT_.out (by kernel_rfl)) (fun _ _ _ h=>h) (Or.inl ⟨by rfl,?_⟩) ?_ ?_
          rotate_left
          ·intro w'
           go_simp
           with_reducible rfl
          rotate_left
          ·simp only [Act.put,List.setIfInBounds_toArray,List.set_cons_zero,List.set_cons_succ,i64_w,i32_w]
           rfl
          refine pure_ (i:=10) (N:=some 50) (v:=?_) (a':=?_) #[true,false,true,true,false,true,false,false,true,false,true,false,false,false,false,false] rfl rfl (any_of HT_.out (by kernel_rfl)) (fun _ _ _ h=>h) (Or.inl ⟨by rfl,?_⟩) ?_ ?_
          rotate_left
          ·intro w'
           go_simp
           with_reducible rfl
          rotate_left
          ·simp only [Act.put,List.setIfInBounds_toArray,List.set_cons_zero,List.set_cons_succ,i64_w,i32_w]
           rfl
          refine take_ (i:=1) (N:=some 41) (v:=?_) (a':=?_) #[true,true,true,true,false,true,false,false,true,false,true,false,false,false,false,false] rfl rfl (take_ofW HT_.out HW_.out (by kernel_rfl)) (fun _ _ _ h=>h) (Or.inl ⟨by rfl,?_⟩) hHeld ?_ ?_
          rotate_left
          ·rintro w' ⟨s0,s1,s2,s3,s4,s5,s6,s7⟩
           go_simp
           with_reducible rfl
          rotate_left
          ·simp only [Act.put,List.setIfInBounds_toArray,List.set_cons_zero,List.set_cons_succ,i64_w,i32_w]
           rfl
          refine take_ (i:=4) (N:=some 44) (v:=?_) (a':=?_) #[true,true,true,true,true,true,false,false,true,false,true,false,false,false,false,false] rfl rfl (take_ofW HT_.out HW_.out (by kernel_rfl)) (fun _ _ _ h=>h) (Or.inl ⟨by rfl,?_⟩) hHeld ?_ ?_
          rotate_left
          ·rintro w' ⟨s0,s1,s2,s3,s4,s5,s6,s7⟩
           go_simp
           with_reducible rfl
          rotate_left
          ·simp only [Act.put,List.setIfInBounds_toArray,List.set_cons_zero,List.set_cons_succ,i64_w,i32_w]
           rfl
          refine pure_ (i:=6) (N:=some 46) (v:=?_) (a':=?_) #[true,true,true,true,true,true,true,false,true,false,true,false,false,false,false,false] rfl rfl (any_of HT_.out (by kernel_rfl)) (fun _ _ _ h=>h) (Or.inl ⟨by rfl,?_⟩) ?_ ?_
          rotate_left
          ·intro w'
           go_simp
           with_reducible rfl
          rotate_left
          ·simp only [Act.put,List.setIfInBounds_toArray,List.set_cons_zero,List.set_cons_succ,i64_w,i32_w]
           rfl
          refine take_ (i:=7) (N:=some 47) (v:=?_) (a':=?_) #[true,true,true,true,true,true,true,true,true,false,true,false,false,false,false,false] rfl rfl (take_ofW HT_.out HW_.out (by kernel_rfl)) (fun _ _ _ h=>h) (Or.inl ⟨by rfl,?_⟩) hHeld ?_ ?_
          rotate_left
          ·rintro w' ⟨s0,s1,s2,s3,s4,s5,s6,s7⟩
           go_simp
           with_reducible rfl
          rotate_left
          ·simp only [Act.put,List.setIfInBounds_toArray,List.set_cons_zero,List.set_cons_succ,i64_w,i32_w]
           rfl
          refine take_ (i:=9) (N:=some 49) (v:=?_) (a':=?_) #[true,true,true,true,true,true,true,true,true,true,true,false,false,false,false,false] rfl rfl (take_ofW HT_.out HW_.out (by kernel_rfl)) (fun _ _ _ h=>h) (Or.inl ⟨by rfl,?_⟩) hHeld ?_ ?_
          rotate_left
          ·rintro w' ⟨s0,s1,s2,s3,s4,s5,s6,s7⟩
           go_simp
           with_reducible rfl
          rotate_left
          ·simp only [Act.put,List.setIfInBounds_toArray,List.set_cons_zero,List.set_cons_succ,i64_w,i32_w]
           rfl
          refine pure_ (i:=11) (N:=some 51) (v:=?_) (a':=?_) #[true,true,true,true,true,true,true,true,true,true,true,true,false,false,false,false] rfl rfl (any_of HT_.out (by kernel_rfl)) (fun _ _ _ h=>h) (Or.inl ⟨by rfl,?_⟩) ?_ ?_
          rotate_left
          ·intro w'
           go_simp
           with_reducible rfl
          rotate_left
          ·simp only [Act.put,List.setIfInBounds_toArray,List.set_cons_zero,List.set_cons_succ,i64_w,i32_w]
           rfl
          refine take_ (i:=12) (N:=some 52) (v:=?_) (a':=?_) #[true,true,true,true,true,true,true,true,true,true,true,true,true,false,false,false] rfl rfl (take_ofW HT_.out HW_.out (by kernel_rfl)) (fun _ _ _ h=>h) (Or.inl ⟨by rfl,?_⟩) hHeld ?_ ?_
          rotate_left
          ·rintro w' ⟨s0,s1,s2,s3,s4,s5,s6,s7⟩
           go_simp
           with_reducible rfl
          rotate_left
          ·simp only [Act.put,List.setIfInBounds_toArray,List.set_cons_zero,List.set_cons_succ,i64_w,i32_w]
           rfl
          refine pure_ (i:=13) (N:=some 53) (v:=?_) (a':=?_) #[true,true,true,true,true,true,true,true,true,true,true,true,true,true,false,false] rfl rfl (any_of HT_.out (by kernel_rfl)) (fun _ _ _ h=>h) (Or.inl ⟨by rfl,?_⟩) ?_ ?_
          rotate_left
          ·intro w'
           go_simp
           with_reducible rfl
          rotate_left
          ·simp only [Act.put,List.setIfInBounds_toArray,List.set_cons_zero,List.set_cons_succ,i64_w,i32_w]
           rfl
          refine pure_ (i:=14) (N:=some 54) (v:=?_) (a':=?_) #[true,true,true,true,true,true,true,true,true,true,true,true,true,true,true,false] rfl rfl (any_of HT_.out (by kernel_rfl)) (fun _ _ _ h=>h) (Or.inl ⟨by rfl,?_⟩) ?_ ?_
          rotate_left
          ·intro w'
           go_simp
           with_reducible rfl
          rotate_left
          ·simp only [Act.put,List.setIfInBounds_toArray,List.set_cons_zero,List.set_cons_succ,i64_w,i32_w]
           rfl
          refine last_ (i:=15) (N:=none) #[true,true,true,true,true,true,true,true,true,true,true,true,true,true,true,true] rfl rfl (one_of HT_.out (by kernel_rfl)) (by decide) (fun K hK=>?_)
          refine skip_ (w1:=?_) (by rfl) rfl ?_ ?_
          rotate_left
          ·go_simp
           rfl
          refine hK.out _ _ ?_
          clear hK K
          refine done_ (done_of HT_.out (by kernel_rfl)) ?_
          try go_wp2
          go_roundg k1
          case measure=>have:=HK1.out;omega
          case rel=>exact ⟨(wrap64 (x21_1 + 1)),(y164),(y167),(.slice (some ⟨go29,0,none⟩) x163000_1.length co35),(.slice (some ⟨go33,0,none⟩) x163001_1.length co39),(by first|rfl|(simp;done)|(simp [*];done)),H',⟨by have:=HK1.out;omega⟩,⟨by (with_reducible repeat (first|apply zrA|apply zrN|apply zrD));exact Kd.R_mono (Kd.R_far (p:=⟨go33,(x21_1:Int).toNat,none⟩) (Kd.R_types HO_163000.out GG33.out (by decide)) (fun _ hk=>hk.2) (.int .i64 ji32)) (fun _ hk=>trivial)⟩,⟨by (with_reducible repeat (first|apply zrA|apply zrN|apply zrD));exact HQ40.out⟩,⟨by (with_reducible repeat (first|refine zbN ?_ _|refine zbD ?_|refine zbA ?_ _));refine blk_far ?_ (by have h_:=Kd.R_ne HO_163001.out BK151.out (by decide);intro e_;exact h_ (by rw [e_];rfl)) _;(with_reducible repeat (first|refine zbN ?_ _|refine zbD ?_|refine zbA ?_ _));exact BK151.out⟩,⟨by (with_reducible repeat (first|refine zbN ?_ _|refine zbD ?_|refine zbA ?_ _));refine blk_far ?_ (by have h_:=Kd.R_ne HO_163001.out BK152.out (by decide);intro e_;exact h_ (by rw [e_];rfl)) _;(with_reducible repeat (first|refine zbN ?_ _|refine zbD ?_|refine zbA ?_ _));exact BK152.out⟩,⟨by (with_reducible repeat (first|refine zbN ?_ _|refine zbD ?_|refine zbA ?_ _));refine blk_far ?_ (by have h_:=Kd.R_ne HO_163001.out BK153.out (by decide);intro e_;exact h_ (by rw [e_];rfl)) _;(with_reducible repeat (first|refine zbN ?_ _|refine zbD ?_|refine zbA ?_ _));exact BK153.out⟩,⟨by (with_reducible repeat (first|refine zbN ?_ _|refine zbD ?_|refine zbA ?_ _));refine blk_far ?_ (by have h_:=Kd.R_ne HO_163001.out BK162.out (by decide);intro e_;exact h_ (by rw [e_];rfl)) _;(with_reducible repeat (first|refine zbN ?_ _|refine zbD ?_|refine zbA ?_ _));exact BK162.out⟩,⟨by repeat (first|(with_reducible first|exact HB.out|apply zlA|apply zlN|apply zlD|refine zlS ?_ GB33.out|refine zlS ?_ GE151.out|refine zlS ?_ GE152.out|refine zlS ?_ GE153.out|refine zlS ?_ GE162.out)|exact HB.out)⟩⟩
         ·rw [if_neg c31] at H
          exact absurd H (by simp)
        ·rw [if_neg c30] at H
         exact absurd H (by simp)
       ·replace c28:=Bool.eq_false_iff.mpr c28
        subst c28
        have H1:(if x21_1 < (l1_0.length:Int) then (if x21_1 < (x163001_1.length:Int) then (if x21_1 < (l1_1.length:Int) then (mapjnl_Join.l0 k1 (t155.length:Int) (wrap64 (x21_1 + 1)) l1_0 l1_1 a1_2 (x163000_1.set (x21_1:Int).toNat (rdOf false l1_0 x21_1)) (x163001_1.set (x21_1:Int).toNat (mx (rd x163001_1 x21_1) (rd l1_1 x21_1))) t161) else (none)) else (none)) else (none))=some (r1,r2,r3,r4):=by rw [if_neg (show ¬ (false=true) by decide)] at H;exact H
        clear H
        have H:=H1
        clear H1
        by_cases c41:x21_1 < (l1_0.length:Int)
        ·rw [if_pos c41] at H
         have c41b0:decide (x21_1 < (l1_0.length:Int))=true:=decide_eq_true c41
         clear c41
         obtain ⟨y169,hy169⟩:∃ y_:List Bool,y_=(x163000_1.set (x21_1:Int).toNat (rdOf false l1_0 x21_1)):=⟨_,rfl⟩
         replace H:(if x21_1 < (x163001_1.length:Int) then (if x21_1 < (l1_1.length:Int) then (mapjnl_Join.l0 k1 (t155.length:Int) (wrap64 (x21_1 + 1)) l1_0 l1_1 a1_2 y169 (x163001_1.set (x21_1:Int).toNat (mx (rd x163001_1 x21_1) (rd l1_1 x21_1))) t161) else (none)) else (none))=some (r1,r2,r3,r4):=by first|(rw [hy169];with_reducible exact H)|(have H2_:=(Option.bind_some _ _).symm.trans H;rw [hy169];with_reducible exact H2_)|(have H2_:=(Option.bind_some _ _).symm.trans H;with_reducible exact H2_)|with_reducible exact H|(rw [hy169];exact H)|exact H
         have Ny169:=zm hy169
         clear hy169
         by_cases c43:x21_1 < (x163001_1.length:Int)
         ·rw [if_pos c43] at H
          have c43b0:decide (x21_1 < (x163001_1.length:Int))=true:=decide_eq_true c43
          clear c43
          by_cases c44:x21_1 < (l1_1.length:Int)
          ·rw [if_pos c44] at H
           have c44b0:decide (x21_1 < (l1_1.length:Int))=true:=decide_eq_true c44
           clear c44
           obtain ⟨ji45,hji45⟩:∃ j_:Int,(mx (rd x163001_1 x21_1) (rd l1_1 x21_1))=j_:=⟨_,rfl⟩
           replace H:(mapjnl_Join.l0 k1 (t155.length:Int) (wrap64 (x21_1 + 1)) l1_0 l1_1 a1_2 y169 (x163001_1.set (x21_1:Int).toNat (ji45)) t161)=some (r1,r2,r3,r4):=by first|(rw [hji45] at H;exact H)|(simp only [hji45] at H ⊢;exact H)
           have hji45_:(if (rd x163001_1 x21_1) < (rd l1_1 x21_1) then (rd l1_1 x21_1) else (rd x163001_1 x21_1))=ji45:=hji45
           obtain ⟨y172,hy172⟩:∃ y_:List Int,y_=(x163001_1.set (x21_1:Int).toNat (ji45)):=⟨_,rfl⟩
           replace H:(mapjnl_Join.l0 k1 (t155.length:Int) (wrap64 (x21_1 + 1)) l1_0 l1_1 a1_2 y169 y172 t161)=some (r1,r2,r3,r4):=by first|(rw [hy172];with_reducible exact H)|(have H2_:=(Option.bind_some _ _).symm.trans H;rw [hy172];with_reducible exact H2_)|(have H2_:=(Option.bind_some _ _).symm.trans H;with_reducible exact H2_)|with_reducible exact H|(rw [hy172];exact H)|exact H
           have Ny172:=zm hy172
           clear hy172
           have H':=zm H
           clear H
           try go_wp2
           have n0_:=zm (zrD HO_163000.out)
           have n1_:=zm (zrD HO_163001.out)
           have n2_:=zm (zbD BK151.out)
           have n3_:=zm (zbD BK152.out)
           have n4_:=zm (zbD BK153.out)
           have n5_:=zm (zbD BK162.out)
           have n6_:=zm (zlD HB.out)
           clear HO_163000 HO_163001 BK151 BK152 BK153 BK162 HB
           have HO_163000:=n0_
           have HO_163001:=n1_
           have BK151:=n2_
           have BK152:=n3_
           have BK153:=n4_
           have BK162:=n5_
           have HB:=n6_
           clear n0_ n1_ n2_ n3_ n4_ n5_ n6_
           obtain ⟨Ao48,co48,eo48⟩:=Kd.R_slice HO_163000.out
           (first|subst eo48|(injection eo48 with f1_ f2_ f3_;have f4_:=f1_.symm;have f5_:=f3_.symm;clear f1_ f2_ f3_;subst f4_;subst f5_))
           have p163:0≤(x21_1:Int):=of_decide_eq_true (by first|(with_reducible assumption)|assumption)
           have q163:x21_1 < (x163000_1.length:Int):=of_decide_eq_true (by first|(with_reducible assumption)|assumption)
           obtain ⟨ad163,e163,hx163_0⟩:=Kd.at_bool (Kd.R_reads' HO_163000.out).2.2 x21_1 p163 q163
           (try rw [← Nbq27.out] at hx163_0)
           cases e163
           replace p163:=eq_true p163
           replace q163:=eq_true q163
           have p168:0≤(x21_1:Int):=of_decide_eq_true (by first|(with_reducible assumption)|assumption)
           have q168:x21_1 < (l1_0.length:Int):=of_decide_eq_true (by first|(with_reducible assumption)|assumption)
           obtain ⟨ad168,e168,hx168_0⟩:=Kd.at_bool HR1_0.out x21_1 p168 q168
           have hw168_0:=hx168_0
           (try rw [← Nbq27.out] at hx168_0)
           cases e168
           replace hx168_0:=(HB.out.cell (World.block_lt_of_cell? w _ hx168_0)).trans hx168_0
           replace p168:=eq_true p168
           replace q168:=eq_true q168
           have p42:0≤(x21_1:Int):=of_decide_eq_true (by first|(with_reducible assumption)|assumption)
           have q42:(x21_1:Int) < ((x163000_1.length:Int):Int):=of_decide_eq_true (by first|(with_reducible assumption)|assumption)
           obtain ⟨go42,co42,eo42,gb42,gl42,cl42,HG42⟩:=Kd.R_form HO_163000.out (by omega)
           (first|cases eo42|(injection eo42 with ea_ en_ ec_;(first|subst ea_|(injection ea_ with ea_;subst ea_));subst ec_;clear en_))
           have GB42:=zm gb42
           have GG42:=zm HG42
           clear gb42 gl42 HG42
           (first|simp only [add_plain] at hx163_0|skip)
           obtain ⟨hx42_0,hf42_0⟩:=Kd.R_celln false HO_163000.out (x21_1:Int) p42 q42
           replace p42:=eq_true p42
           replace q42:=eq_true q42
           have HP49:=Kd.R_putn HO_163000.out (x21_1:Int) (rdOf false l1_0 x21_1)
           rw [← Ny169.out] at HP49
           have HQ49:=zm HP49
           clear HP49
           refine start_ (n:=17) (S:=fun w'=>w'.cell? ⟨gb162,0,none⟩=some (.slice (some ⟨go42,0,none⟩) x163000_1.length co48)∧w'.cell? ⟨gb162,1,none⟩=some (u163001)∧w'.cell? ⟨gb162,2,none⟩=some (.int .i64 t161)∧w'.cell? ⟨gb152,0,none⟩=some (.slice (some ad168) l1_0.length c1_0)∧w'.cell? ⟨gb152,1,none⟩=some (.slice A1_1 l1_1.length c1_1)∧w'.cell? ⟨gb152,2,none⟩=some (.int .i64 a1_2)∧w'.cell? ⟨go42,(x21_1).toNat,none⟩=some (.bool false)∧w'.cell? (ad168.add (x21_1).toNat)=some (.bool (rdOf false l1_0 x21_1))) (ds:=[16]) #[false,false,false,false,false,false,false,false,false,false,false,false,false,false,false,false,false] (by kernel_rfl) rfl rfl ⟨(blk_cell BK162.out 0).trans rfl,(blk_cell BK162.out 1).trans rfl,(blk_cell BK162.out 2).trans rfl,(blk_cell BK152.out 0).trans rfl,(blk_cell BK152.out 1).trans rfl,(blk_cell BK152.out 2).trans rfl,hx163_0,((HB.out.cell (World.block_lt_of_cell? w _ hw168_0)).trans hw168_0)⟩ (fun hHeld=>?_);refine with_tabW mapjnl_Join.tab8 mapjnl_Join.bits8 (fun HT_ HW_=>?_)
           generalize wr.drew=w47 at HO_163000 HO_163001 BK151 BK152 BK153 BK162 HB GG42 HQ49 hf42_0 hx163_0 hx168_0 hx42_0 hHeld ⊢
           refine pure_ (i:=0) (N:=some 24) (v:=?_) (a':=?_) #[true,false,false,false,false,false,false,false,false,false,false,false,false,false,false,false,false] rfl rfl (any_of HT_.out (by kernel_rfl)) (fun _ _ _ h=>h) (Or.inl ⟨by rfl,?_⟩) ?_ ?_
           rotate_left
           ·intro w'
            go_simp
            with_reducible rfl
           rotate_left
           ·simp only [Act.put,List.setIfInBounds_toArray,List.set_cons_zero,List.set_cons_succ,i64_w,i32_w]
            rfl
           refine pure_ (i:=2) (N:=some 26) (v:=?_) (a':=?_) #[true,false,true,false,false,false,false,false,false,false,false,false,false,false,false,false,false] rfl rfl (any_of HT_.out (by kernel_rfl)) (fun _ _ _ h=>h) (Or.inl ⟨by rfl,?_⟩) ?_ ?_
           rotate_left
           ·intro w'
            go_simp
            with_reducible rfl
           rotate_left
           ·simp only [Act.put,List.setIfInBounds_toArray,List.set_cons_zero,List.set_cons_succ,i64_w,i32_w]
            rfl
           refine pure_ (i:=3) (N:=some 27) (v:=?_) (a':=?_) #[true,false,true,true,false,false,false,false,false,false,false,false,false,false,false,false,false] rfl rfl (any_of HT_.out (by kernel_rfl)) (fun _ _ _ h=>h) (Or.inl ⟨by rfl,?_⟩) ?_ ?_
           rotate_left
           ·intro w'
            go_simp
            with_reducible rfl
           rotate_left
           ·simp only [Act.put,List.setIfInBounds_toArray,List.set_cons_zero,List.set_cons_succ,i64_w,i32_w]
            rfl
           refine pure_ (i:=5) (N:=some 29) (v:=?_) (a':=?_) #[true,false,true,true,false,true,false,false,false,false,false,false,false,false,false,false,false] rfl rfl (any_of HT_.out (by kernel_rfl)) (fun _ _ _ h=>h) (Or.inl ⟨by rfl,?_⟩) ?_ ?_
           rotate_left
           ·intro w'
            go_simp
            with_reducible rfl
           rotate_left
           ·simp only [Act.put,List.setIfInBounds_toArray,List.set_cons_zero,List.set_cons_succ,i64_w,i32_w]
            rfl
           refine take_ (i:=1) (N:=some 25) (v:=?_) (a':=?_) #[true,true,true,true,false,true,false,false,false,false,false,false,false,false,false,false,false] rfl rfl (take_ofW HT_.out HW_.out (by kernel_rfl)) (fun _ _ _ h=>h) (Or.inl ⟨by rfl,?_⟩) hHeld ?_ ?_
           rotate_left
           ·rintro w' ⟨s0,s1,s2,s3,s4,s5,s6,s7⟩
            go_simp
            with_reducible rfl
           rotate_left
           ·simp only [Act.put,List.setIfInBounds_toArray,List.set_cons_zero,List.set_cons_succ,i64_w,i32_w]
            rfl
           refine take_ (i:=4) (N:=some 28) (v:=?_) (a':=?_) #[true,true,true,true,true,true,false,false,false,false,false,false,false,false,false,false,false] rfl rfl (take_ofW HT_.out HW_.out (by kernel_rfl)) (fun _ _ _ h=>h) (Or.inl ⟨by rfl,?_⟩) hHeld ?_ ?_
           rotate_left
           ·rintro w' ⟨s0,s1,s2,s3,s4,s5,s6,s7⟩
            go_simp
            with_reducible rfl
           rotate_left
           ·simp only [Act.put,List.setIfInBounds_toArray,List.set_cons_zero,List.set_cons_succ,i64_w,i32_w]
            rfl
           refine pure_ (i:=6) (N:=some 30) (v:=?_) (a':=?_) #[true,true,true,true,true,true,true,false,false,false,false,false,false,false,false,false,false] rfl rfl (any_of HT_.out (by kernel_rfl)) (fun _ _ _ h=>h) (Or.inl ⟨by rfl,?_⟩) ?_ ?_
           rotate_left
           ·intro w'
            go_simp
            with_reducible rfl
           rotate_left
           ·simp only [Act.put,List.setIfInBounds_toArray,List.set_cons_zero,List.set_cons_succ,i64_w,i32_w]
            rfl
           refine take_ (i:=7) (N:=some 31) (v:=?_) (a':=?_) #[true,true,true,true,true,true,true,true,false,false,false,false,false,false,false,false,false] rfl rfl (take_ofW HT_.out HW_.out (by kernel_rfl)) (fun _ _ _ h=>h) (Or.inl ⟨by rfl,?_⟩) hHeld ?_ ?_
           rotate_left
           ·rintro w' ⟨s0,s1,s2,s3,s4,s5,s6,s7⟩
            go_simp
            with_reducible rfl
           rotate_left
           ·simp only [Act.put,List.setIfInBounds_toArray,List.set_cons_zero,List.set_cons_succ,i64_w,i32_w]
            rfl
           refine pure_ (i:=8) (N:=some 32) (v:=?_) (a':=?_) #[true,true,true,true,true,true,true,true,true,false,false,false,false,false,false,false,false] rfl rfl (any_of HT_.out (by kernel_rfl)) (fun _ _ _ h=>h) (Or.inl ⟨by rfl,?_⟩) ?_ ?_
           rotate_left
           ·intro w'
            go_simp
            with_reducible rfl
           rotate_left
           ·simp only [Act.put,List.setIfInBounds_toArray,List.set_cons_zero,List.set_cons_succ,i64_w,i32_w]
            rfl
           refine pure_ (i:=9) (N:=some 33) (v:=?_) (a':=?_) #[true,true,true,true,true,true,true,true,true,true,false,false,false,false,false,false,false] rfl rfl (any_of HT_.out (by kernel_rfl)) (fun _ _ _ h=>h) (Or.inl ⟨by rfl,?_⟩) ?_ ?_
           rotate_left
           ·intro w'
            go_simp
            with_reducible rfl
           rotate_left
           ·simp only [Act.put,List.setIfInBounds_toArray,List.set_cons_zero,List.set_cons_succ,i64_w,i32_w]
            rfl
           refine pure_ (i:=11) (N:=some 35) (v:=?_) (a':=?_) #[true,true,true,true,true,true,true,true,true,true,false,true,false,false,false,false,false] rfl rfl (any_of HT_.out (by kernel_rfl)) (fun _ _ _ h=>h) (Or.inl ⟨by rfl,?_⟩) ?_ ?_
           rotate_left
           ·intro w'
            go_simp
            with_reducible rfl
           rotate_left
           ·simp only [Act.put,List.setIfInBounds_toArray,List.set_cons_zero,List.set_cons_succ,i64_w,i32_w]
            rfl
           refine take_ (i:=10) (N:=some 34) (v:=?_) (a':=?_) #[true,true,true,true,true,true,true,true,true,true,true,true,false,false,false,false,false] rfl rfl (take_ofW HT_.out HW_.out (by kernel_rfl)) (fun _ _ _ h=>h) (Or.inl ⟨by rfl,?_⟩) hHeld ?_ ?_
           rotate_left
           ·rintro w' ⟨s0,s1,s2,s3,s4,s5,s6,s7⟩
            go_simp
            with_reducible rfl
           rotate_left
           ·simp only [Act.put,List.setIfInBounds_toArray,List.set_cons_zero,List.set_cons_succ,i64_w,i32_w]
            rfl
           refine pure_ (i:=12) (N:=some 36) (v:=?_) (a':=?_) #[true,true,true,true,true,true,true,true,true,true,true,true,true,false,false,false,false] rfl rfl (any_of HT_.out (by kernel_rfl)) (fun _ _ _ h=>h) (Or.inl ⟨by rfl,?_⟩) ?_ ?_
           rotate_left
           ·intro w'
            go_simp
            with_reducible rfl
           rotate_left
           ·simp only [Act.put,List.setIfInBounds_toArray,List.set_cons_zero,List.set_cons_succ,i64_w,i32_w]
            rfl
           refine take_ (i:=13) (N:=some 37) (v:=?_) (a':=?_) #[true,true,true,true,true,true,true,true,true,true,true,true,true,true,false,false,false] rfl rfl (take_ofW HT_.out HW_.out (by kernel_rfl)) (fun _ _ _ h=>h) (Or.inl ⟨by rfl,?_⟩) hHeld ?_ ?_
           rotate_left
           ·rintro w' ⟨s0,s1,s2,s3,s4,s5,s6,s7⟩
            go_simp
            with_reducible rfl
           rotate_left
           ·simp only [Act.put,List.setIfInBounds_toArray,List.set_cons_zero,List.set_cons_succ,i64_w,i32_w]
            rfl
           refine pure_ (i:=14) (N:=some 38) (v:=?_) (a':=?_) #[true,true,true,true,true,true,true,true,true,true,true,true,true,true,true,false,false] rfl rfl (any_of HT_.out (by kernel_rfl)) (fun _ _ _ h=>h) (Or.inl ⟨by rfl,?_⟩) ?_ ?_
           rotate_left
           ·intro w'
            go_simp
            with_reducible rfl
           rotate_left
           ·simp only [Act.put,List.setIfInBounds_toArray,List.set_cons_zero,List.set_cons_succ,i64_w,i32_w]
            rfl
           refine pure_ (i:=15) (N:=some 39) (v:=?_) (a':=?_) #[true,true,true,true,true,true,true,true,true,true,true,true,true,true,true,true,false] rfl rfl (any_of HT_.out (by kernel_rfl)) (fun _ _ _ h=>h) (Or.inl ⟨by rfl,?_⟩) ?_ ?_
           rotate_left
           ·intro w'
            go_simp
            with_reducible rfl
           rotate_left
           ·simp only [Act.put,List.setIfInBounds_toArray,List.set_cons_zero,List.set_cons_succ,i64_w,i32_w]
            rfl
           refine last_ (i:=16) (N:=none) #[true,true,true,true,true,true,true,true,true,true,true,true,true,true,true,true,true] rfl rfl (one_of HT_.out (by kernel_rfl)) (by decide) (fun K hK=>?_)
           refine skip_ (w1:=?_) (by rfl) rfl ?_ ?_
           rotate_left
           ·go_simp
            rfl
           refine hK.out _ _ ?_
           clear hK K
           refine done_ (done_of HT_.out (by kernel_rfl)) ?_
           try go_wp2
           have n0_:Aside0 (Kd.R Kd.bool 4 (w47.setCell ⟨go42,(x21_1:Int).toNat,none⟩ (.bool (rdOf false l1_0 x21_1))) w.heap.size (fun _=>True) (.slice (some ⟨go42,0,none⟩) x163000_1.length co48) y169):=⟨by (with_reducible repeat (first|apply zrA|apply zrN|apply zrD));exact HQ49.out⟩
           have n1_:Aside0 (Kd.R (Kd.int .i64) 2 (w47.setCell ⟨go42,(x21_1:Int).toNat,none⟩ (.bool (rdOf false l1_0 x21_1))) w.heap.size (fun _=>True) u163001 x163001_1):=⟨by (with_reducible repeat (first|apply zrA|apply zrN|apply zrD));exact Kd.R_mono (Kd.R_far (p:=⟨go42,(x21_1:Int).toNat,none⟩) (Kd.R_types HO_163001.out GG42.out (by decide)) (fun _ hk=>hk.2) (.bool (rdOf false l1_0 x21_1))) (fun _ hk=>trivial)⟩
           have n2_:Aside0 ((w47.setCell ⟨go42,(x21_1:Int).toNat,none⟩ (.bool (rdOf false l1_0 x21_1))).heap[gb151]?=some (.cells #[.slice A0_0 l0_0.length c0_0,.slice A0_1 l0_1.length c0_1,.int .i64 a0_2] 25 (0,0))):=⟨by (with_reducible repeat (first|refine zbN ?_ _|refine zbD ?_|refine zbA ?_ _));refine blk_far ?_ (by have h_:=Kd.R_ne HO_163000.out BK151.out (by decide);intro e_;exact h_ (by rw [e_];rfl)) _;(with_reducible repeat (first|refine zbN ?_ _|refine zbD ?_|refine zbA ?_ _));exact BK151.out⟩
           have n3_:Aside0 ((w47.setCell ⟨go42,(x21_1:Int).toNat,none⟩ (.bool (rdOf false l1_0 x21_1))).heap[gb152]?=some (.cells #[.slice (some ad168) l1_0.length c1_0,.slice A1_1 l1_1.length c1_1,.int .i64 a1_2] 25 (0,0))):=⟨by (with_reducible repeat (first|refine zbN ?_ _|refine zbD ?_|refine zbA ?_ _));refine blk_far ?_ (by have h_:=Kd.R_ne HO_163000.out BK152.out (by decide);intro e_;exact h_ (by rw [e_];rfl)) _;(with_reducible repeat (first|refine zbN ?_ _|refine zbD ?_|refine zbA ?_ _));exact BK152.out⟩
           have n4_:Aside0 ((w47.setCell ⟨go42,(x21_1:Int).toNat,none⟩ (.bool (rdOf false l1_0 x21_1))).heap[gb153]?=some (.cells #[.slice none 0 0,.slice none 0 0,.int .i64 0] 25 (0,0))):=⟨by (with_reducible repeat (first|refine zbN ?_ _|refine zbD ?_|refine zbA ?_ _));refine blk_far ?_ (by have h_:=Kd.R_ne HO_163000.out BK153.out (by decide);intro e_;exact h_ (by rw [e_];rfl)) _;(with_reducible repeat (first|refine zbN ?_ _|refine zbD ?_|refine zbA ?_ _));exact BK153.out⟩
           have n5_:Aside0 ((w47.setCell ⟨go42,(x21_1:Int).toNat,none⟩ (.bool (rdOf false l1_0 x21_1))).heap[gb162]?=some (.cells #[.slice (some ⟨go42,0,none⟩) x163000_1.length co48,u163001,.int .i64 t161] 25 (0,0))):=⟨by (with_reducible repeat (first|refine zbN ?_ _|refine zbD ?_|refine zbA ?_ _));refine blk_far ?_ (by have h_:=Kd.R_ne HO_163000.out BK162.out (by decide);intro e_;exact h_ (by rw [e_];rfl)) _;(with_reducible repeat (first|refine zbN ?_ _|refine zbD ?_|refine zbA ?_ _));exact BK162.out⟩
           have n6_:Aside0 (Below w.heap.size w (w47.setCell ⟨go42,(x21_1:Int).toNat,none⟩ (.bool (rdOf false l1_0 x21_1)))):=⟨by repeat (first|(with_reducible first|exact HB.out|apply zlA|apply zlN|apply zlD|refine zlS ?_ GB42.out|refine zlS ?_ GE151.out|refine zlS ?_ GE152.out|refine zlS ?_ GE153.out|refine zlS ?_ GE162.out)|exact HB.out)⟩
           (try clear HO_163000)
           (try clear HO_163001)
           (try clear BK151)
           (try clear BK152)
           (try clear BK153)
           (try clear BK162)
           (try clear HB)
           generalize (w47.setCell ⟨go42,(x21_1:Int).toNat,none⟩ (.bool (rdOf false l1_0 x21_1)))=w50 at n0_ n1_ n2_ n3_ n4_ n5_ n6_ ⊢
           have HO_163000:=n0_
           have HO_163001:=n1_
           have BK151:=n2_
           have BK152:=n3_
           have BK153:=n4_
           have BK162:=n5_
           have HB:=n6_
           clear n0_ n1_ n2_ n3_ n4_ n5_ n6_
           have n0_:=zm (zrD HO_163000.out)
           have n1_:=zm (zrD HO_163001.out)
           have n2_:=zm (zbD BK151.out)
           have n3_:=zm (zbD BK152.out)
           have n4_:=zm (zbD BK153.out)
           have n5_:=zm (zbD BK162.out)
           have n6_:=zm (zlD HB.out)
           clear HO_163000 HO_163001 BK151 BK152 BK153 BK162 HB
           have HO_163000:=n0_
           have HO_163001:=n1_
           have BK151:=n2_
           have BK152:=n3_
           have BK153:=n4_
           have BK162:=n5_
           have HB:=n6_
           clear n0_ n1_ n2_ n3_ n4_ n5_ n6_
           obtain ⟨Ao52,co52,eo52⟩:=Kd.R_slice HO_163001.out
           (first|subst eo52|(injection eo52 with f1_ f2_ f3_;have f4_:=f1_.symm;have f5_:=f3_.symm;clear f1_ f2_ f3_;subst f4_;subst f5_))
           have p170:0≤(x21_1:Int):=of_decide_eq_true (by first|(with_reducible assumption)|assumption)
           have q170:x21_1 < (x163001_1.length:Int):=of_decide_eq_true (by first|(with_reducible assumption)|assumption)
           obtain ⟨ad170,e170,hx170_0⟩:=Kd.at_int (Kd.R_reads' HO_163001.out).2.2 x21_1 p170 q170
           cases e170
           replace p170:=eq_true p170
           replace q170:=eq_true q170
           have p171:0≤(x21_1:Int):=of_decide_eq_true (by first|(with_reducible assumption)|assumption)
           have q171:x21_1 < (l1_1.length:Int):=of_decide_eq_true (by first|(with_reducible assumption)|assumption)
           obtain ⟨ad171,e171,hx171_0⟩:=Kd.at_int HR1_1.out x21_1 p171 q171
           have hw171_0:=hx171_0
           cases e171
           replace hx171_0:=(HB.out.cell (World.block_lt_of_cell? w _ hx171_0)).trans hx171_0
           replace p171:=eq_true p171
           replace q171:=eq_true q171
           have p46:0≤(x21_1:Int):=of_decide_eq_true (by first|(with_reducible assumption)|assumption)
           have q46:(x21_1:Int) < ((x163001_1.length:Int):Int):=of_decide_eq_true (by first|(with_reducible assumption)|assumption)
           obtain ⟨go46,co46,eo46,gb46,gl46,cl46,HG46⟩:=Kd.R_form HO_163001.out (by omega)
           (first|cases eo46|(injection eo46 with ea_ en_ ec_;(first|subst ea_|(injection ea_ with ea_;subst ea_));subst ec_;clear en_))
           have GB46:=zm gb46
           have GG46:=zm HG46
           clear gb46 gl46 HG46
           (first|simp only [add_plain] at hx170_0|skip)
           obtain ⟨hx46_0,hf46_0⟩:=Kd.R_celln 0 HO_163001.out (x21_1:Int) p46 q46
           replace p46:=eq_true p46
           replace q46:=eq_true q46
           have HP53:=Kd.R_putn HO_163001.out (x21_1:Int) ji45
           rw [← Ny172.out] at HP53
           have HQ53:=zm HP53
           clear HP53
           refine start_ (n:=16) (S:=fun w'=>w'.cell? ⟨gb162,0,none⟩=some (.slice (some ⟨go42,0,none⟩) x163000_1.length co48)∧w'.cell? ⟨gb162,1,none⟩=some (.slice (some ⟨go46,0,none⟩) x163001_1.length co52)∧w'.cell? ⟨gb162,2,none⟩=some (.int .i64 t161)∧w'.cell? ⟨gb152,0,none⟩=some (.slice (some ad168) l1_0.length c1_0)∧w'.cell? ⟨gb152,1,none⟩=some (.slice (some ad171) l1_1.length c1_1)∧w'.cell? ⟨gb152,2,none⟩=some (.int .i64 a1_2)∧w'.cell? ⟨go46,(x21_1).toNat,none⟩=some (.int .i64 (rd x163001_1 x21_1))∧w'.cell? (ad171.add (x21_1).toNat)=some (.int .i64 (rd l1_1 x21_1))) (ds:=[15]) #[false,false,false,false,false,false,false,false,false,false,false,false,false,false,false,false] (by kernel_rfl) rfl rfl ⟨(blk_cell BK162.out 0).trans rfl,(blk_cell BK162.out 1).trans rfl,(blk_cell BK162.out 2).trans rfl,(blk_cell BK152.out 0).trans rfl,(blk_cell BK152.out 1).trans rfl,(blk_cell BK152.out 2).trans rfl,hx170_0,((HB.out.cell (World.block_lt_of_cell? w _ hw171_0)).trans hw171_0)⟩ (fun hHeld=>?_);refine with_tabW mapjnl_Join.tab9 mapjnl_Join.bits9 (fun HT_ HW_=>?_)
           generalize w50.drew=w51 at HO_163000 HO_163001 BK151 BK152 BK153 BK162 HB GG46 HQ49 HQ53 hf46_0 hx170_0 hx171_0 hx46_0 hHeld ⊢
           refine pure_ (i:=0) (N:=some 40) (v:=?_) (a':=?_) #[true,false,false,false,false,false,false,false,false,false,false,false,false,false,false,false] rfl rfl (any_of HT_.out (by kernel_rfl)) (fun _ _ _ h=>h) (Or.inl ⟨by rfl,?_⟩) ?_ ?_
           rotate_left
           ·intro w'
            go_simp
            with_reducible rfl
           rotate_left
           ·simp only [Act.put,List.setIfInBounds_toArray,List.set_cons_zero,List.set_cons_succ,i64_w,i32_w]
            rfl
           refine pure_ (i:=2) (N:=some 42) (v:=?_) (a':=?_) #[true,false,true,false,false,false,false,false,false,false,false,false,false,false,false,false] rfl rfl (any_of HT_.out (by kernel_rfl)) (fun _ _ _ h=>h) (Or.inl ⟨by rfl,?_⟩) ?_ ?_
           rotate_left
           ·intro w'
            go_simp
            with_reducible rfl
           rotate_left
           ·simp only [Act.put,List.setIfInBounds_toArray,List.set_cons_zero,List.set_cons_succ,i64_w,i32_w]
            rfl
           refine pure_ (i:=3) (N:=some 43) (v:=?_) (a':=?_) #[true,false,true,true,false,false,false,false,false,false,false,false,false,false,false,false] rfl rfl (any_of HT_.out (by kernel_rfl)) (fun _ _ _ h=>h) (Or.inl ⟨by rfl,?_⟩) ?_ ?_
           rotate_left
           ·intro w'
            go_simp
            with_reducible rfl
           rotate_left
           ·simp only [Act.put,List.setIfInBounds_toArray,List.set_cons_zero,List.set_cons_succ,i64_w,i32_w]
            rfl
           refine pure_ (i:=5) (N:=some 45) (v:=?_) (a':=?_) #[true,false,true,true,false,true,false,false,false,false,false,false,false,false,false,false] rfl rfl (any_of HT_.out (by kernel_rfl)) (fun _ _ _ h=>h) (Or.inl ⟨by rfl,?_⟩) ?_ ?_
           rotate_left
           ·intro w'
            go_simp
            with_reducible rfl
           rotate_left
           ·simp only [Act.put,List.setIfInBounds_toArray,List.set_cons_zero,List.set_cons_succ,i64_w,i32_w]
            rfl
           refine pure_ (i:=8) (N:=some 48) (v:=?_) (a':=?_) #[true,false,true,true,false,true,false,false,true,false,false,false,false,false,false,false] rfl rfl (any_of HT_.out (by kernel_rfl)) (fun _ _ _ h=>h) (Or.inl ⟨by rfl,?_⟩) ?_ ?_
           rotate_left
           ·intro w'
            go_simp
            with_reducible rfl
           rotate_left
           ·simp only [Act.put,List.setIfInBounds_toArray,List.set_cons_zero,List.set_cons_succ,i64_w,i32_w]
            rfl
           refine pure_ (i:=10) (N:=some 50) (v:=?_) (a':=?_) #[true,false,true,true,false,true,false,false,true,false,true,false,false,false,false,false] rfl rfl (any_of HT_.out (by kernel_rfl)) (fun _ _ _ h=>h) (Or.inl ⟨by rfl,?_⟩) ?_ ?_
           rotate_left
           ·intro w'
            go_simp
            with_reducible rfl
           rotate_left
           ·simp only [Act.put,List.setIfInBounds_toArray,List.set_cons_zero,List.set_cons_succ,i64_w,i32_w]
            rfl
           refine take_ (i:=1) (N:=some 41) (v:=?_) (a':=?_) #[true,true,true,true,false,true,false,false,true,false,true,false,false,false,false,false] rfl rfl (take_ofW HT_.out HW_.out (by kernel_rfl)) (fun _ _ _ h=>h) (Or.inl ⟨by rfl,?_⟩) hHeld ?_ ?_
           rotate_left
           ·rintro w' ⟨s0,s1,s2,s3,s4,s5,s6,s7⟩
            go_simp
            with_reducible rfl
           rotate_left
           ·simp only [Act.put,List.setIfInBounds_toArray,List.set_cons_zero,List.set_cons_succ,i64_w,i32_w]
            rfl
           refine take_ (i:=4) (N:=some 44) (v:=?_) (a':=?_) #[true,true,true,true,true,true,false,false,true,false,true,false,false,false,false,false] rfl rfl (take_ofW HT_.out HW_.out (by kernel_rfl)) (fun _ _ _ h=>h) (Or.inl ⟨by rfl,?_⟩) hHeld ?_ ?_
           rotate_left
           ·rintro w' ⟨s0,s1,s2,s3,s4,s5,s6,s7⟩
            go_simp
            with_reducible rfl
           rotate_left
           ·simp only [Act.put,List.setIfInBounds_toArray,List.set_cons_zero,List.set_cons_succ,i64_w,i32_w]
            rfl
           refine pure_ (i:=6) (N:=some 46) (v:=?_) (a':=?_) #[true,true,true,true,true,true,true,false,true,false,true,false,false,false,false,false] rfl rfl (any_of HT_.out (by kernel_rfl)) (fun _ _ _ h=>h) (Or.inl ⟨by rfl,?_⟩) ?_ ?_
           rotate_left
           ·intro w'
            go_simp
            with_reducible rfl
           rotate_left
           ·simp only [Act.put,List.setIfInBounds_toArray,List.set_cons_zero,List.set_cons_succ,i64_w,i32_w]
            rfl
           refine take_ (i:=7) (N:=some 47) (v:=?_) (a':=?_) #[true,true,true,true,true,true,true,true,true,false,true,false,false,false,false,false] rfl rfl (take_ofW HT_.out HW_.out (by kernel_rfl)) (fun _ _ _ h=>h) (Or.inl ⟨by rfl,?_⟩) hHeld ?_ ?_
           rotate_left
           ·rintro w' ⟨s0,s1,s2,s3,s4,s5,s6,s7⟩
            go_simp
            with_reducible rfl
           rotate_left
           ·simp only [Act.put,List.setIfInBounds_toArray,List.set_cons_zero,List.set_cons_succ,i64_w,i32_w]
            rfl
           refine take_ (i:=9) (N:=some 49) (v:=?_) (a':=?_) #[true,true,true,true,true,true,true,true,true,true,true,false,false,false,false,false] rfl rfl (take_ofW HT_.out HW_.out (by kernel_rfl)) (fun _ _ _ h=>h) (Or.inl ⟨by rfl,?_⟩) hHeld ?_ ?_
           rotate_left
           ·rintro w' ⟨s0,s1,s2,s3,s4,s5,s6,s7⟩
            go_simp
            with_reducible rfl
           rotate_left
           ·simp only [Act.put,List.setIfInBounds_toArray,List.set_cons_zero,List.set_cons_succ,i64_w,i32_w]
            rfl
           refine pure_ (i:=11) (N:=some 51) (v:=?_) (a':=?_) #[true,true,true,true,true,true,true,true,true,true,true,true,false,false,false,false] rfl rfl (any_of HT_.out (by kernel_rfl)) (fun _ _ _ h=>h) (Or.inl ⟨by rfl,?_⟩) ?_ ?_
           rotate_left
           ·intro w'
            go_simp
            with_reducible rfl
           rotate_left
           ·simp only [Act.put,List.setIfInBounds_toArray,List.set_cons_zero,List.set_cons_succ,i64_w,i32_w]
            rfl
           refine take_ (i:=12) (N:=some 52) (v:=?_) (a':=?_) #[true,true,true,true,true,true,true,true,true,true,true,true,true,false,false,false] rfl rfl (take_ofW HT_.out HW_.out (by kernel_rfl)) (fun _ _ _ h=>h) (Or.inl ⟨by rfl,?_⟩) hHeld ?_ ?_
           rotate_left
           ·rintro w' ⟨s0,s1,s2,s3,s4,s5,s6,s7⟩
            go_simp
            with_reducible rfl
           rotate_left
           ·simp only [Act.put,List.setIfInBounds_toArray,List.set_cons_zero,List.set_cons_succ,i64_w,i32_w]
            rfl
           refine pure_ (i:=13) (N:=some 53) (v:=?_) (a':=?_) #[true,true,true,true,true,true,true,true,true,true,true,true,true,true,false,false] rfl rfl (any_of HT_.out (by kernel_rfl)) (fun _ _ _ h=>h) (Or.inl ⟨by rfl,?_⟩) ?_ ?_
           rotate_left
           ·intro w'
            go_simp
            with_reducible rfl
           rotate_left
           ·simp only [Act.put,List.setIfInBounds_toArray,List.set_cons_zero,List.set_cons_succ,i64_w,i32_w]
            rfl
           refine pure_ (i:=14) (N:=some 54) (v:=?_) (a':=?_) #[true,true,true,true,true,true,true,true,true,true,true,true,true,true,true,false] rfl rfl (any_of HT_.out (by kernel_rfl)) (fun _ _ _ h=>h) (Or.inl ⟨by rfl,?_⟩) ?_ ?_
           rotate_left
           ·intro w'
            go_simp
            with_reducible rfl
           rotate_left
           ·simp only [Act.put,List.setIfInBounds_toArray,List.set_cons_zero,List.set_cons_succ,i64_w,i32_w]
            rfl
           refine last_ (i:=15) (N:=none) #[true,true,true,true,true,true,true,true,true,true,true,true,true,true,true,true] rfl rfl (one_of HT_.out (by kernel_rfl)) (by decide) (fun K hK=>?_)
           refine skip_ (w1:=?_) (by rfl) rfl ?_ ?_
           rotate_left
           ·go_simp
            rfl
           refine hK.out _ _ ?_
           clear hK K
           refine done_ (done_of HT_.out (by kernel_rfl)) ?_
           try go_wp2
           go_roundg k1
           case measure=>have:=HK1.out;omega
           case rel=>exact ⟨(wrap64 (x21_1 + 1)),(y169),(y172),(.slice (some ⟨go42,0,none⟩) x163000_1.length co48),(.slice (some ⟨go46,0,none⟩) x163001_1.length co52),(by first|rfl|(simp;done)|(simp [*];done)),H',⟨by have:=HK1.out;omega⟩,⟨by (with_reducible repeat (first|apply zrA|apply zrN|apply zrD));exact Kd.R_mono (Kd.R_far (p:=⟨go46,(x21_1:Int).toNat,none⟩) (Kd.R_types HO_163000.out GG46.out (by decide)) (fun _ hk=>hk.2) (.int .i64 ji45)) (fun _ hk=>trivial)⟩,⟨by (with_reducible repeat (first|apply zrA|apply zrN|apply zrD));exact HQ53.out⟩,⟨by (with_reducible repeat (first|refine zbN ?_ _|refine zbD ?_|refine zbA ?_ _));refine blk_far ?_ (by have h_:=Kd.R_ne HO_163001.out BK151.out (by decide);intro e_;exact h_ (by rw [e_];rfl)) _;(with_reducible repeat (first|refine zbN ?_ _|refine zbD ?_|refine zbA ?_ _));exact BK151.out⟩,⟨by (with_reducible repeat (first|refine zbN ?_ _|refine zbD ?_|refine zbA ?_ _));refine blk_far ?_ (by have h_:=Kd.R_ne HO_163001.out BK152.out (by decide);intro e_;exact h_ (by rw [e_];rfl)) _;(with_reducible repeat (first|refine zbN ?_ _|refine zbD ?_|refine zbA ?_ _));exact BK152.out⟩,⟨by (with_reducible repeat (first|refine zbN ?_ _|refine zbD ?_|refine zbA ?_ _));refine blk_far ?_ (by have h_:=Kd.R_ne HO_163001.out BK153.out (by decide);intro e_;exact h_ (by rw [e_];rfl)) _;(with_reducible repeat (first|refine zbN ?_ _|refine zbD ?_|refine zbA ?_ _));exact BK153.out⟩,⟨by (with_reducible repeat (first|refine zbN ?_ _|refine zbD ?_|refine zbA ?_ _));refine blk_far ?_ (by have h_:=Kd.R_ne HO_163001.out BK162.out (by decide);intro e_;exact h_ (by rw [e_];rfl)) _;(with_reducible repeat (first|refine zbN ?_ _|refine zbD ?_|refine zbA ?_ _));exact BK162.out⟩,⟨by repeat (first|(with_reducible first|exact HB.out|apply zlA|apply zlN|apply zlD|refine zlS ?_ GB46.out|refine zlS ?_ GE151.out|refine zlS ?_ GE152.out|refine zlS ?_ GE153.out|refine zlS ?_ GE162.out)|exact HB.out)⟩⟩
          ·rw [if_neg c44] at H
           exact absurd H (by simp)
         ·rw [if_neg c43] at H
          exact absurd H (by simp)
        ·rw [if_neg c41] at H
         exact absurd H (by simp)
      ·rw [if_neg c26] at H
       exact absurd H (by simp)
     ·rw [if_neg c25] at H
      exact absurd H (by simp)
    ·rw [if_neg c24] at H
     have c24b0:decide (x21_1 < (t155.length:Int))=false:=decide_eq_false c24
     clear c24
     obtain ⟨ji54,hji54⟩:∃ j_:Int,(mx t161 a1_2)=j_:=⟨_,rfl⟩
     replace H:(some (x163000_1,x163001_1,ji54,0))=some (r1,r2,r3,r4):=by first|(rw [hji54] at H;exact H)|(simp only [hji54] at H ⊢;exact H)
     have hji54_:(if t161 < a1_2 then a1_2 else t161)=ji54:=hji54
     simp only [Option.some.injEq,Prod.mk.injEq] at H
     obtain ⟨rfl,rfl,rfl,rfl⟩:=H
     have hnb55:=NB162_151.out
     have hnc55:=NB151_162.out
     have hnb56:=NB162_152.out
     have hnc56:=NB152_162.out
     have hnb57:=NB162_153.out
     have hnc57:=NB153_162.out
     have hcz58_0:wr.cell? ⟨gb162,0,none⟩=some (u163000):=(blk_cell BK162.out 0).trans rfl
     have hcz58_1:wr.cell? ⟨gb162,1,none⟩=some (u163001):=(blk_cell BK162.out 1).trans rfl
     have hcz58_2:wr.cell? ⟨gb162,2,none⟩=some (.int .i64 t161):=(blk_cell BK162.out 2).trans rfl
     have hfz58_0:=blk_frozen BK162.out 0
     have hfz58_1:=blk_frozen BK162.out 1
     have hfz58_2:=blk_frozen BK162.out 2
     have hnb59:=NB152_151.out
     have hnc59:=NB151_152.out
     have hnb60:=NB152_153.out
     have hnc60:=NB153_152.out
     have hcz61_0:wr.cell? ⟨gb152,0,none⟩=some (.slice A1_0 l1_0.length c1_0):=(blk_cell BK152.out 0).trans rfl
     have hcz61_1:wr.cell? ⟨gb152,1,none⟩=some (.slice A1_1 l1_1.length c1_1):=(blk_cell BK152.out 1).trans rfl
     have hcz61_2:wr.cell? ⟨gb152,2,none⟩=some (.int .i64 a1_2):=(blk_cell BK152.out 2).trans rfl
     have hfz61_0:=blk_frozen BK152.out 0
     have hfz61_1:=blk_frozen BK152.out 1
     have hfz61_2:=blk_frozen BK152.out 2
     obtain ⟨Ao62,co62,eo62⟩:=Kd.R_slice HO_163000.out
     subst eo62
     have hnb63:=NB153_151.out
     have hnc63:=NB151_153.out
     have hcz64_0:wr.cell? ⟨gb153,0,none⟩=some (.slice none 0 0):=(blk_cell BK153.out 0).trans rfl
     have hcz64_1:wr.cell? ⟨gb153,1,none⟩=some (.slice none 0 0):=(blk_cell BK153.out 1).trans rfl
     have hcz64_2:wr.cell? ⟨gb153,2,none⟩=some (.int .i64 0):=(blk_cell BK153.out 2).trans rfl
     have hfz64_0:=blk_frozen BK153.out 0
     have hfz64_1:=blk_frozen BK153.out 1
     have hfz64_2:=blk_frozen BK153.out 2
     obtain ⟨Ao65,co65,eo65⟩:=Kd.R_slice HO_163001.out
     subst eo65
     go_wp2
     refine bodyPost_ret (results_ct rfl _ _ gb153 25 #[.slice Ao62 x163000_1.length co62,.slice Ao65 x163001_1.length co65,.int .i64 ji54] (0,0) _ rfl (by (with_reducible repeat (first|refine zbN ?_ _|refine zbD ?_|refine zbA ?_ _));refine blk_put (cs:=#[.slice Ao62 x163000_1.length co62,.slice Ao65 x163001_1.length co65,.int .i64 0]) ?_ 2 _ rfl;(with_reducible repeat (first|refine zbN ?_ _|refine zbD ?_|refine zbA ?_ _));refine blk_put (cs:=#[.slice Ao62 x163000_1.length co62,.slice none 0 0,.int .i64 0]) ?_ 1 _ rfl;(with_reducible repeat (first|refine zbN ?_ _|refine zbD ?_|refine zbA ?_ _));refine blk_put (cs:=#[.slice none 0 0,.slice none 0 0,.int .i64 0]) ?_ 0 _ rfl;(with_reducible repeat (first|refine zbN ?_ _|refine zbD ?_|refine zbA ?_ _));refine blk_far ?_ NB153_162.out _;(with_reducible repeat (first|refine zbN ?_ _|refine zbD ?_|refine zbA ?_ _));exact BK153.out) Try.underlying25 rfl (by kernel_rfl)) rfl ?_
     exact ⟨_,_,by first|rfl|(simp [errW_none,errW_some] <;> rfl)|(simp only [← hji54];first|rfl|(simp [errW_none,errW_some] <;> rfl))|(simp [*,errW_none,errW_some] <;> rfl),by (with_reducible repeat (first|apply zrA|apply zrN|apply zrD));exact Kd.R_mono (Kd.R_far (p:=⟨gb153,2,none⟩) (Kd.R_far (p:=⟨gb153,1,none⟩) (Kd.R_far (p:=⟨gb153,0,none⟩) (Kd.R_far (p:=⟨gb162,2,none⟩) (Kd.R_types (Kd.R_types HO_163000.out BK162.out (by decide)) BK153.out (by decide)) (fun _ hk=>hk.1.2) (.int .i64 ji54)) (fun _ hk=>hk.2) (.slice Ao62 x163000_1.length co62)) (fun _ hk=>hk.2) (.slice Ao65 x163001_1.length co65)) (fun _ hk=>hk.2) (.int .i64 ji54)) (fun _ hk=>trivial),by (with_reducible repeat (first|apply zrA|apply zrN|apply zrD));exact Kd.R_mono (Kd.R_far (p:=⟨gb153,2,none⟩) (Kd.R_far (p:=⟨gb153,1,none⟩) (Kd.R_far (p:=⟨gb153,0,none⟩) (Kd.R_far (p:=⟨gb162,2,none⟩) (Kd.R_types (Kd.R_types HO_163001.out BK162.out (by decide)) BK153.out (by decide)) (fun _ hk=>hk.1.2) (.int .i64 ji54)) (fun _ hk=>hk.2) (.slice Ao62 x163000_1.length co62)) (fun _ hk=>hk.2) (.slice Ao65 x163001_1.length co65)) (fun _ hk=>hk.2) (.int .i64 ji54)) (fun _ hk=>trivial),by repeat (first|(with_reducible first|exact HB.out|apply zlA|apply zlN|apply zlD|refine zlS ?_ GE151.out|refine zlS ?_ GE152.out|refine zlS ?_ GE153.out|refine zlS ?_ GE162.out)|exact HB.out)⟩
 ·rw [if_neg c4] at H
  have c4b0:(t154 == 0)=false:=beq_eq_false_iff_ne.mpr c4
  have c4b1:(t154 != 0)=true:=bne_iff_ne.mpr c4
  simp only [Option.some.injEq,Prod.mk.injEq] at H
  obtain ⟨rfl,rfl,rfl,rfl⟩:=H
  go_enter Try.func13,Try.ntmps13
  go_wp2_with (first|((with_reducible refine gate_dst (N:=2) rfl ?_);refine box_event ?hg (N:=2) ?hd (cs:=#[.slice A0_0 l0_0.length c0_0,.slice A0_1 l0_1.length c0_1,.int .i64 a0_2]) (t:=25) ?hr ?_;(case hd=>rfl);(case hg=>rfl);(case hr=>first|(go_simp;done)|(go_simp;rfl));intro gb151 hg w66 hbox hb;have n0_:=zm (below_step (by repeat (first|(with_reducible first|exact HB.out|apply zlA|apply zlN|apply zlD)|exact HB.out)) hb);have n1_:=zm (hbox);have n2_:=zm ((by rw [hg];exact (below_size (by repeat (first|(with_reducible first|exact HB.out|apply zlA|apply zlN|apply zlD)|exact HB.out))):w.heap.size≤gb151));have n3_:=zm ((by rw [hg];exact (below_size (by repeat (first|(with_reducible first|exact HB.out|apply zlA|apply zlN|apply zlD)|exact HB.out))):w.heap.size≤gb151));clear HB;have HB:=n0_;have BK151:=n1_;have GW151:=n2_;have GE151:=n3_;clear n0_ n1_ n2_ n3_;clear hb hbox hg)|((with_reducible refine gate_dst (N:=3) rfl ?_);refine box_event ?hg (N:=3) ?hd (cs:=#[.slice A1_0 l1_0.length c1_0,.slice A1_1 l1_1.length c1_1,.int .i64 a1_2]) (t:=25) ?hr ?_;(case hd=>rfl);(case hg=>rfl);(case hr=>first|(go_simp;done)|(go_simp;rfl));intro gb152 hg w67 hbox hb;have n0_:=zm (zbB (g:=gb151) (o:=.cells #[.slice A0_0 l0_0.length c0_0,.slice A0_1 l0_1.length c0_1,.int .i64 a0_2] 25 (0,0)) (by (with_reducible repeat (first|refine zbN ?_ _|refine zbD ?_|refine zbA ?_ _));exact BK151.out) hb);have n1_:=zm (below_step (by repeat (first|(with_reducible first|exact HB.out|apply zlA|apply zlN|apply zlD|refine zlS ?_ GE151.out)|exact HB.out)) hb);have n2_:=zm (hbox);have n3_:=zm ((by rw [hg];exact (below_size (by repeat (first|(with_reducible first|exact HB.out|apply zlA|apply zlN|apply zlD|refine zlS ?_ GE151.out)|exact HB.out))):w.heap.size≤gb152));have n4_:=zm ((by rw [hg];exact (below_size (by repeat (first|(with_reducible first|exact HB.out|apply zlA|apply zlN|apply zlD|refine zlS ?_ GE151.out)|exact HB.out))):w.heap.size≤gb152));have n5_:=zm ((by rw [hg];exact Nat.ne_of_lt (blk_lt (g:=gb151) (o:=.cells #[.slice A0_0 l0_0.length c0_0,.slice A0_1 l0_1.length c0_1,.int .i64 a0_2] 25 (0,0)) (by (with_reducible repeat (first|refine zbN ?_ _|refine zbD ?_|refine zbA ?_ _));exact BK151.out)):gb151≠gb152));have n6_:=zm ((by rw [hg];exact Nat.ne_of_gt (blk_lt (g:=gb151) (o:=.cells #[.slice A0_0 l0_0.length c0_0,.slice A0_1 l0_1.length c0_1,.int .i64 a0_2] 25 (0,0)) (by (with_reducible repeat (first|refine zbN ?_ _|refine zbD ?_|refine zbA ?_ _));exact BK151.out)):gb152≠gb151));clear BK151 HB;have BK151:=n0_;have HB:=n1_;have BK152:=n2_;have GW152:=n3_;have GE152:=n4_;have NB151_152:=n5_;have NB152_151:=n6_;clear n0_ n1_ n2_ n3_ n4_ n5_ n6_;clear hb hbox hg)|((with_reducible refine gate_dst (N:=4) rfl ?_);refine box_event ?hg (N:=4) ?hd (cs:=#[.slice none 0 0,.slice none 0 0,.int .i64 0]) (t:=25) ?hr ?_;(case hd=>rfl);(case hg=>rfl);(case hr=>first|(go_simp;done)|(go_simp;rfl));intro gb153 hg w68 hbox hb;have n0_:=zm (zbB (g:=gb151) (o:=.cells #[.slice A0_0 l0_0.length c0_0,.slice A0_1 l0_1.length c0_1,.int .i64 a0_2] 25 (0,0)) (by (with_reducible repeat (first|refine zbN ?_ _|refine zbD ?_|refine zbA ?_ _));exact BK151.out) hb);have n1_:=zm (zbB (g:=gb152) (o:=.cells #[.slice A1_0 l1_0.length c1_0,.slice A1_1 l1_1.length c1_1,.int .i64 a1_2] 25 (0,0)) (by (with_reducible repeat (first|refine zbN ?_ _|refine zbD ?_|refine zbA ?_ _));exact BK152.out) hb);have n2_:=zm (below_step (by repeat (first|(with_reducible first|exact HB.out|apply zlA|apply zlN|apply zlD|refine zlS ?_ GE151.out|refine zlS ?_ GE152.out)|exact HB.out)) hb);have n3_:=zm (hbox);have n4_:=zm ((by rw [hg];exact (below_size (by repeat (first|(with_reducible first|exact HB.out|apply zlA|apply zlN|apply zlD|refine zlS ?_ GE151.out|refine zlS ?_ GE152.out)|exact HB.out))):w.heap.size≤gb153));have n5_:=zm ((by rw [hg];exact (below_size (by repeat (first|(with_reducible first|exact HB.out|apply zlA|apply zlN|apply zlD|refine zlS ?_ GE151.out|refine zlS ?_ GE152.out)|exact HB.out))):w.heap.size≤gb153));have n6_:=zm ((by rw [hg];exact Nat.ne_of_lt (blk_lt (g:=gb151) (o:=.cells #[.slice A0_0 l0_0.length c0_0,.slice A0_1 l0_1.length c0_1,.int .i64 a0_2] 25 (0,0)) (by (with_reducible repeat (first|refine zbN ?_ _|refine zbD ?_|refine zbA ?_ _));exact BK151.out)):gb151≠gb153));have n7_:=zm ((by rw [hg];exact Nat.ne_of_gt (blk_lt (g:=gb151) (o:=.cells #[.slice A0_0 l0_0.length c0_0,.slice A0_1 l0_1.length c0_1,.int .i64 a0_2] 25 (0,0)) (by (with_reducible repeat (first|refine zbN ?_ _|refine zbD ?_|refine zbA ?_ _));exact BK151.out)):gb153≠gb151));have n8_:=zm ((by rw [hg];exact Nat.ne_of_lt (blk_lt (g:=gb152) (o:=.cells #[.slice A1_0 l1_0.length c1_0,.slice A1_1 l1_1.length c1_1,.int .i64 a1_2] 25 (0,0)) (by (with_reducible repeat (first|refine zbN ?_ _|refine zbD ?_|refine zbA ?_ _));exact BK152.out)):gb152≠gb153));have n9_:=zm ((by rw [hg];exact Nat.ne_of_gt (blk_lt (g:=gb152) (o:=.cells #[.slice A1_0 l1_0.length c1_0,.slice A1_1 l1_1.length c1_1,.int .i64 a1_2] 25 (0,0)) (by (with_reducible repeat (first|refine zbN ?_ _|refine zbD ?_|refine zbA ?_ _));exact BK152.out)):gb153≠gb152));clear BK151 BK152 HB;have BK151:=n0_;have BK152:=n1_;have HB:=n2_;have BK153:=n3_;have GW153:=n4_;have GE153:=n5_;have NB151_153:=n6_;have NB153_151:=n7_;have NB152_153:=n8_;have NB153_152:=n9_;clear n0_ n1_ n2_ n3_ n4_ n5_ n6_ n7_ n8_ n9_;clear hb hbox hg;have hnb69:=NB151_152.out;have hnc69:=NB152_151.out;have hnb70:=NB151_153.out;have hnc70:=NB153_151.out;have hcz71_0:w68.cell? ⟨gb151,0,none⟩=some (.slice A0_0 l0_0.length c0_0):=(blk_cell BK151.out 0).trans rfl;have hcz71_1:w68.cell? ⟨gb151,1,none⟩=some (.slice A0_1 l0_1.length c0_1):=(blk_cell BK151.out 1).trans rfl;have hcz71_2:w68.cell? ⟨gb151,2,none⟩=some (.int .i64 a0_2):=(blk_cell BK151.out 2).trans rfl;have hfz71_0:=blk_frozen BK151.out 0;have hfz71_1:=blk_frozen BK151.out 1;have hfz71_2:=blk_frozen BK151.out 2;have hnb72:=NB152_153.out;have hnc72:=NB153_152.out;have hcz73_0:w68.cell? ⟨gb152,0,none⟩=some (.slice A1_0 l1_0.length c1_0):=(blk_cell BK152.out 0).trans rfl;have hcz73_1:w68.cell? ⟨gb152,1,none⟩=some (.slice A1_1 l1_1.length c1_1):=(blk_cell BK152.out 1).trans rfl;have hcz73_2:w68.cell? ⟨gb152,2,none⟩=some (.int .i64 a1_2):=(blk_cell BK152.out 2).trans rfl;have hfz73_0:=blk_frozen BK152.out 0;have hfz73_1:=blk_frozen BK152.out 1;have hfz73_2:=blk_frozen BK152.out 2)|((with_reducible refine gate_callee (f:=50) rfl ?_);refine goesL_ (some 11) rfl rfl Try.func50 (by kernel_rfl) rfl #[.agg #[.slice A0_0 l0_0.length c0_0,.slice A0_1 l0_1.length c0_1,.int .i64 a0_2],.agg #[.slice A1_0 l1_0.length c1_0,.slice A1_1 l1_1.length c1_1,.int .i64 a1_2]] rfl (by (try simp only [List.map_toArray,List.map_cons,List.map_nil]);first|done|rfl|(simp only [List.length_drop,List.length_take];rfl)) ?_;(with_reducible refine (mapjnl_both.calls k _ _ l0_0 _ _ l0_1 a0_2 _ _ l1_0 _ _ l1_1 a1_2 t154 _ ?side1 ?side2 ?side3 ?side4 ?side5 ?side6 ?side7 ?side8 A3.out).mono ?_);(case side1=>repeat (first|exact (Kd.C_below HR0_0.out HB.out)|(with_reducible refine Kd.C_alloc ?_ _)|(with_reducible refine Kd.C_drewN ?_ _)|(with_reducible refine Kd.C_drew ?_)));(case side2=>exact HC0_0.out);(case side3=>repeat (first|exact (Kd.C_below HR0_1.out HB.out)|(with_reducible refine Kd.C_alloc ?_ _)|(with_reducible refine Kd.C_drewN ?_ _)|(with_reducible refine Kd.C_drew ?_)));(case side4=>exact HC0_1.out);(case side5=>repeat (first|exact (Kd.C_below HR1_0.out HB.out)|(with_reducible refine Kd.C_alloc ?_ _)|(with_reducible refine Kd.C_drewN ?_ _)|(with_reducible refine Kd.C_drew ?_)));(case side6=>exact HC1_0.out);(case side7=>repeat (first|exact (Kd.C_below HR1_1.out HB.out)|(with_reducible refine Kd.C_alloc ?_ _)|(with_reducible refine Kd.C_drewN ?_ _)|(with_reducible refine Kd.C_drew ?_)));(case side8=>exact HC1_1.out);rintro e w74 ⟨rfl,hb⟩;refine ⟨_,rfl,?_⟩;have n0_:=zm (zbB (g:=gb151) (o:=.cells #[.slice A0_0 l0_0.length c0_0,.slice A0_1 l0_1.length c0_1,.int .i64 a0_2] 25 (0,0)) (by (with_reducible repeat (first|refine zbN ?_ _|refine zbD ?_|refine zbA ?_ _));exact BK151.out) hb);have n1_:=zm (zbB (g:=gb152) (o:=.cells #[.slice A1_0 l1_0.length c1_0,.slice A1_1 l1_1.length c1_1,.int .i64 a1_2] 25 (0,0)) (by (with_reducible repeat (first|refine zbN ?_ _|refine zbD ?_|refine zbA ?_ _));exact BK152.out) hb);have n2_:=zm (zbB (g:=gb153) (o:=.cells #[.slice none 0 0,.slice none 0 0,.int .i64 0] 25 (0,0)) (by (with_reducible repeat (first|refine zbN ?_ _|refine zbD ?_|refine zbA ?_ _));exact BK153.out) hb);have n3_:=zm (below_step (by repeat (first|(with_reducible first|exact HB.out|apply zlA|apply zlN|apply zlD|refine zlS ?_ GE151.out|refine zlS ?_ GE152.out|refine zlS ?_ GE153.out)|exact HB.out)) hb);clear BK151 BK152 BK153 HB;have BK151:=n0_;have BK152:=n1_;have BK153:=n2_;have HB:=n3_;clear n0_ n1_ n2_ n3_;(try clear hb);(try clear hb2);(try clear hk);(try clear hi);have hcz75_0:w74.cell? ⟨gb153,0,none⟩=some (.slice none 0 0):=(blk_cell BK153.out 0).trans rfl;have hcz75_1:w74.cell? ⟨gb153,1,none⟩=some (.slice none 0 0):=(blk_cell BK153.out 1).trans rfl;have hcz75_2:w74.cell? ⟨gb153,2,none⟩=some (.int .i64 0):=(blk_cell BK153.out 2).trans rfl;have hfz75_0:=blk_frozen BK153.out 0;have hfz75_1:=blk_frozen BK153.out 1;have hfz75_2:=blk_frozen BK153.out 2))
  refine bodyPost_ret (results_ct rfl _ _ gb153 25 #[.slice none 0 0,.slice none 0 0,.int .i64 0] (0,0) _ rfl (by (with_reducible repeat (first|refine zbN ?_ _|refine zbD ?_|refine zbA ?_ _));refine blk_put (cs:=#[.slice none 0 0,.slice none 0 0,.int .i64 0]) ?_ 2 _ rfl;(with_reducible repeat (first|refine zbN ?_ _|refine zbD ?_|refine zbA ?_ _));refine blk_put (cs:=#[.slice none 0 0,.slice none 0 0,.int .i64 0]) ?_ 1 _ rfl;(with_reducible repeat (first|refine zbN ?_ _|refine zbD ?_|refine zbA ?_ _));refine blk_put (cs:=#[.slice none 0 0,.slice none 0 0,.int .i64 0]) ?_ 0 _ rfl;(with_reducible repeat (first|refine zbN ?_ _|refine zbD ?_|refine zbA ?_ _));exact BK153.out) Try.underlying25 rfl (by kernel_rfl)) rfl ?_
  exact ⟨_,_,by first|rfl|(simp [errW_none,errW_some] <;> rfl)|(simp [*,errW_none,errW_some] <;> rfl),by first|exact Kd.R_nil _ _ _ _ _|exact Kd.N_nil _ _ _ _ _|exact Kd.V_nil _ _ _ _ _|exact Kd.Q_nil _ _ _ _ _|exact Kd.S_nil _ _ _ _ _,by first|exact Kd.R_nil _ _ _ _ _|exact Kd.N_nil _ _ _ _ _|exact Kd.V_nil _ _ _ _ _|exact Kd.Q_nil _ _ _ _ _|exact Kd.S_nil _ _ _ _ _,by repeat (first|(with_reducible first|exact HB.out|apply zlA|apply zlN|apply zlD|refine zlS ?_ GE151.out|refine zlS ?_ GE152.out|refine zlS ?_ GE153.out)|exact HB.out)⟩
end Go.Proofs.Ytkhbmgclklmimaa.Print
end
section
namespace Go.Proofs.Ytkhbmgclklmimaa.Print
open Go.RowKit Go.Proofs.YtkhbmgclklmimaaW.PrintWords Go.Proofs.YtkhbmgclklmimaaW.PrintLast Go.Proofs.YtkhbmgclklmimaaW.PrintMore
attribute [local go_sem] max2_int min2_int max_two min_two max_three min_three max_four min_four   -- for this text's walks alone
attribute [local go_sem ↓] Go.Proofs.Ytkhbmgclklmimaa.Sem.isSome_setCell
attribute [local go_sem] Go.Instr.field Go.asAgg
set_option linter.unusedVariables false
set_option linter.unusedSimpArgs false
def slices_Equal_bool_bool.l0:Nat → List Bool → List Bool → Int → Int → Option (Bool)
 | 0,_,_,_,_=>none
 | k + 1,x0,x1,x12,x13=>if x13 < x12 then (if 0≤x13 then (if x13 < (x0.length:Int) then (if x13 < (x1.length:Int) then (if ((rdOf false x0 x13) != (rdOf false x1 x13))=true then (some false) else (slices_Equal_bool_bool.l0 k x0 x1 x12 (wrap64 (x13 + 1)))) else (none)) else (none)) else (none)) else (some true)
def slices_Equal_bool_bool.f (k:Nat) (l0:List Bool) (l1:List Bool):Option (Bool):=if (l0.length:Int)=(l1.length:Int) then (slices_Equal_bool_bool.l0 k l0 l1 (l0.length:Int) 0) else (some false)
theorem slices_Equal_bool_bool.mono_l:∀ k,(∀ y0 y1 y2 y3,LeO (slices_Equal_bool_bool.l0 k y0 y1 y2 y3) (slices_Equal_bool_bool.l0 (k + 1) y0 y1 y2 y3))
 | 0=>fun _ _ _ _ r h=>by simp [slices_Equal_bool_bool.l0] at h
 | k + 1=>by
  have ih0:=slices_Equal_bool_bool.mono_l k
  ·intro y0 y1 y2 y3
   unfold slices_Equal_bool_bool.l0
   repeat' first
   | (with_reducible exact ih0 _ _ _ _)
   | (with_reducible exact LeO.refl _)
   | (with_reducible exact LeO.none _)
   | (with_reducible refine LeO.ite ?_ ?_)
   | (with_reducible refine LeO.bind ?_ (fun _=>?_))
   | exact ih0 _ _ _ _
   | exact LeO.none _
   | refine LeO.ite ?_ ?_
   | refine LeO.bind ?_ (fun _=>?_)
theorem slices_Equal_bool_bool.mono:∀ a0 a1 k,LeO (slices_Equal_bool_bool.f k a0 a1) (slices_Equal_bool_bool.f (k + 1) a0 a1):=by
 intro a0 a1 k
 have ih0:=slices_Equal_bool_bool.mono_l k
 unfold slices_Equal_bool_bool.f
 repeat' first
   | (with_reducible exact ih0 _ _ _ _)
   | (with_reducible exact LeO.refl _)
   | (with_reducible exact LeO.none _)
   | (with_reducible refine LeO.ite ?_ ?_)
   | (with_reducible refine LeO.bind ?_ (fun _=>?_))
   | exact ih0 _ _ _ _
   | exact LeO.none _
   | refine LeO.ite ?_ ?_
   | refine LeO.bind ?_ (fun _=>?_)
set_option maxHeartbeats 8000000 in
set_option maxRecDepth 100000 in
theorem slices_Equal_bool_bool.calls (k:Nat) (A0:Option Addr) (c0:Nat) (l0:List Bool) (A1:Option Addr) (c1:Nat) (l1:List Bool) (r:Bool) (w:World) (hr0:Kd.C Kd.bool w A0 l0.length l0) (hc0:l0.length≤c0) (hr1:Kd.C Kd.bool w A1 l1.length l1) (hc1:l1.length≤c1) (h:slices_Equal_bool_bool.f k l0 l1=some r) :
  Calls Try.prog 59 #[.slice A0 l0.length c0,.slice A1 l1.length c1] w fun e w'=>e=.returned (.bool r)∧Drawn0 w w':=by
 have HR0:=zm hr0
 have HC0:=zm hc0
 clear hr0 hc0
 have HR1:=zm hr1
 have HC1:=zm hc1
 clear hr1 hc1
 have H:(if (l0.length:Int)=(l1.length:Int) then (slices_Equal_bool_bool.l0 k l0 l1 (l0.length:Int) 0) else (some false))=some r:=h
 clear h
 by_cases c3:(l0.length:Int)=(l1.length:Int)
 ·rw [if_pos c3] at H
  have c3b0:((l0.length:Int) == (l1.length:Int))=true:=beq_iff_eq.mpr c3
  have c3b1:((l0.length:Int) != (l1.length:Int))=false:=bne_eq_false_iff_eq.mpr c3
  have c3b2:(l0.length == l1.length)=true:=by first|simpa using c3|(simp at c3 ⊢;omega)
  clear c3
  have H':=zm H
  clear H
  go_enter Try.func59,Try.ntmps59
  go_wp2
  repeat (go_quiet (fail);try go_wp2)
  go_loopg [13] k (fun kq v13 w'=>∃ (x13_1:Int),v13=.int .i64 x13_1∧Aside0 (slices_Equal_bool_bool.l0 kq l0 l1 (l0.length:Int) x13_1=some r)∧Aside0 (kq≤k)∧Drawn0 w w')
  case atStart=>exact ⟨(0),(by first|rfl|(simp;done)|(simp [*];done)),H',⟨Nat.le_refl _⟩,by repeat (first|exact Drawn0.refl _|apply Drawn0.step)⟩
  case round =>
   clear H'
   try clear c1
   try clear p2
   try clear c3
   try clear c3b0
   try clear c3b1
   try clear c3b2
   obtain ⟨x13_1,rfl,HA,HK1,⟨m1,rfl⟩⟩:=hrel
   cases gk with
   | zero=>exact absurd HA.out (by simp [slices_Equal_bool_bool.l0])
   | succ k1 =>
    have H:=HA.out
    clear HA
    simp only [slices_Equal_bool_bool.l0] at H
    by_cases c4:x13_1 < (l0.length:Int)
    ·rw [if_pos c4] at H
     have c4b0:decide (x13_1 < (l0.length:Int))=true:=decide_eq_true c4
     clear c4
     by_cases c5:0≤x13_1
     ·rw [if_pos c5] at H
      have c5b0:decide (0≤x13_1)=true:=decide_eq_true c5
      clear c5
      by_cases c6:x13_1 < (l0.length:Int)
      ·rw [if_pos c6] at H
       have c6b0:decide (x13_1 < (l0.length:Int))=true:=decide_eq_true c6
       clear c6
       by_cases c7:x13_1 < (l1.length:Int)
       ·rw [if_pos c7] at H
        have c7b0:decide (x13_1 < (l1.length:Int))=true:=decide_eq_true c7
        clear c7
        by_cases c8:((rdOf false l0 x13_1) != (rdOf false l1 x13_1))=true
        ·rw [if_pos c8] at H
         have c8b0:((rdOf false l0 x13_1) != (rdOf false l1 x13_1))=true:=c8
         (try (have c8b1:decide ((rdOf false l0 x13_1)=(rdOf false l1 x13_1))=false:=by simpa using c8))
         (try (have c8b2:((rdOf false l0 x13_1) == (rdOf false l1 x13_1))=false:=by simpa using c8))
         (try (have c8b3:¬ ((rdOf false l0 x13_1)=(rdOf false l1 x13_1)):=by simpa using c8))
         clear c8
         obtain rfl:=Option.some.inj H
         have p204:0≤(x13_1:Int):=of_decide_eq_true (by first|(with_reducible assumption)|assumption)
         have q204:x13_1 < (l0.length:Int):=of_decide_eq_true (by first|(with_reducible assumption)|assumption)
         obtain ⟨ad204,e204,hx204_0⟩:=Kd.at_bool HR0.out x13_1 p204 q204
         cases e204
         replace p204:=eq_true p204
         replace q204:=eq_true q204
         have p205:0≤(x13_1:Int):=of_decide_eq_true (by first|(with_reducible assumption)|assumption)
         have q205:x13_1 < (l1.length:Int):=of_decide_eq_true (by first|(with_reducible assumption)|assumption)
         obtain ⟨ad205,e205,hx205_0⟩:=Kd.at_bool HR1.out x13_1 p205 q205
         cases e205
         replace p205:=eq_true p205
         replace q205:=eq_true q205
         go_wp2
         repeat (go_quiet (fail);try go_wp2)
         go_ret
         exact ⟨by first|rfl|(simp;done)|(simp [*];done),by repeat (first|exact Drawn0.refl _|apply Drawn0.step)⟩
        ·rw [if_neg c8] at H
         have c8b0:((rdOf false l0 x13_1) != (rdOf false l1 x13_1))=false:=by simpa using c8
         (try (have c8b1:decide ((rdOf false l0 x13_1)=(rdOf false l1 x13_1))=true:=by simpa using c8))
         (try (have c8b2:((rdOf false l0 x13_1) == (rdOf false l1 x13_1))=true:=by simpa using c8))
         clear c8
         have H':=zm H
         clear H
         have p204:0≤(x13_1:Int):=of_decide_eq_true (by first|(with_reducible assumption)|assumption)
         have q204:x13_1 < (l0.length:Int):=of_decide_eq_true (by first|(with_reducible assumption)|assumption)
         obtain ⟨ad204,e204,hx204_0⟩:=Kd.at_bool HR0.out x13_1 p204 q204
         cases e204
         replace p204:=eq_true p204
         replace q204:=eq_true q204
         have p205:0≤(x13_1:Int):=of_decide_eq_true (by first|(with_reducible assumption)|assumption)
         have q205:x13_1 < (l1.length:Int):=of_decide_eq_true (by first|(with_reducible assumption)|assumption)
         obtain ⟨ad205,e205,hx205_0⟩:=Kd.at_bool HR1.out x13_1 p205 q205
         cases e205
         replace p205:=eq_true p205
         replace q205:=eq_true q205
         go_wp2
         repeat (go_quiet (fail);try go_wp2)
         go_roundg k1
         case measure=>have:=HK1.out;omega
         case rel=>exact ⟨(wrap64 (x13_1 + 1)),(by first|rfl|(simp;done)|(simp [*];done)),H',⟨by have:=HK1.out;omega⟩,by repeat (first|exact Drawn0.refl _|apply Drawn0.step)⟩
       ·rw [if_neg c7] at H
        exact absurd H (by simp)
      ·rw [if_neg c6] at H
       exact absurd H (by simp)
     ·rw [if_neg c5] at H
      exact absurd H (by simp)
    ·rw [if_neg c4] at H
     have c4b0:decide (x13_1 < (l0.length:Int))=false:=decide_eq_false c4
     clear c4
     obtain rfl:=Option.some.inj H
     go_wp2
     repeat (go_quiet (fail);try go_wp2)
     go_ret
     exact ⟨by first|rfl|(simp;done)|(simp [*];done),by repeat (first|exact Drawn0.refl _|apply Drawn0.step)⟩
 ·rw [if_neg c3] at H
  have c3b0:((l0.length:Int) == (l1.length:Int))=false:=beq_eq_false_iff_ne.mpr c3
  have c3b1:((l0.length:Int) != (l1.length:Int))=true:=bne_iff_ne.mpr c3
  have c3b2:(l0.length == l1.length)=false:=by first|simpa using c3|(simp at c3 ⊢;omega)
  obtain rfl:=Option.some.inj H
  go_enter Try.func59,Try.ntmps59
  go_wp2
  repeat (go_quiet (fail);try go_wp2)
  go_ret
  exact ⟨by first|rfl|(simp;done)|(simp [*];done),by repeat (first|exact Drawn0.refl _|apply Drawn0.step)⟩
def slices_Equal_int64_int64.l0:Nat → List Int → List Int → Int → Int → Option (Bool)
 | 0,_,_,_,_=>none
 | k + 1,x0,x1,x12,x13=>if x13 < x12 then (if 0≤x13 then (if x13 < (x0.length:Int) then (if x13 < (x1.length:Int) then (if (rd x0 x13)=(rd x1 x13) then (slices_Equal_int64_int64.l0 k x0 x1 x12 (wrap64 (x13 + 1))) else (some false)) else (none)) else (none)) else (none)) else (some true)
def slices_Equal_int64_int64.f (k:Nat) (l0:List Int) (l1:List Int):Option (Bool):=if (l0.length:Int)=(l1.length:Int) then (slices_Equal_int64_int64.l0 k l0 l1 (l0.length:Int) 0) else (some false)
theorem slices_Equal_int64_int64.mono_l:∀ k,(∀ y0 y1 y2 y3,LeO (slices_Equal_int64_int64.l0 k y0 y1 y2 y3) (slices_Equal_int64_int64.l0 (k + 1) y0 y1 y2 y3))
 | 0=>fun _ _ _ _ r h=>by simp [slices_Equal_int64_int64.l0] at h
 | k + 1=>by
  have ih0:=slices_Equal_int64_int64.mono_l k
  ·intro y0 y1 y2 y3
   unfold slices_Equal_int64_int64.l0
   repeat' first
   | (with_reducible exact ih0 _ _ _ _)
   | (with_reducible exact LeO.refl _)
   | (with_reducible exact LeO.none _)
   | (with_reducible refine LeO.ite ?_ ?_)
   | (with_reducible refine LeO.bind ?_ (fun _=>?_))
   | exact ih0 _ _ _ _
   | exact LeO.none _
   | refine LeO.ite ?_ ?_
   | refine LeO.bind ?_ (fun _=>?_)
theorem slices_Equal_int64_int64.mono:∀ a0 a1 k,LeO (slices_Equal_int64_int64.f k a0 a1) (slices_Equal_int64_int64.f (k + 1) a0 a1):=by
 intro a0 a1 k
 have ih0:=slices_Equal_int64_int64.mono_l k
 unfold slices_Equal_int64_int64.f
 repeat' first
   | (with_reducible exact ih0 _ _ _ _)
   | (with_reducible exact LeO.refl _)
   | (with_reducible exact LeO.none _)
   | (with_reducible refine LeO.ite ?_ ?_)
   | (with_reducible refine LeO.bind ?_ (fun _=>?_))
   | exact ih0 _ _ _ _
   | exact LeO.none _
   | refine LeO.ite ?_ ?_
   | refine LeO.bind ?_ (fun _=>?_)
set_option maxHeartbeats 8000000 in
set_option maxRecDepth 100000 in
theorem slices_Equal_int64_int64.calls (k:Nat) (A0:Option Addr) (c0:Nat) (l0:List Int) (A1:Option Addr) (c1:Nat) (l1:List Int) (r:Bool) (w:World) (hr0:Kd.C (Kd.int .i64) w A0 l0.length l0) (hc0:l0.length≤c0) (hr1:Kd.C (Kd.int .i64) w A1 l1.length l1) (hc1:l1.length≤c1) (h:slices_Equal_int64_int64.f k l0 l1=some r) :
  Calls Try.prog 60 #[.slice A0 l0.length c0,.slice A1 l1.length c1] w fun e w'=>e=.returned (.bool r)∧Drawn0 w w':=by
 have HR0:=zm hr0
 have HC0:=zm hc0
 clear hr0 hc0
 have HR1:=zm hr1
 have HC1:=zm hc1
 clear hr1 hc1
 have H:(if (l0.length:Int)=(l1.length:Int) then (slices_Equal_int64_int64.l0 k l0 l1 (l0.length:Int) 0) else (some false))=some r:=h
 clear h
 by_cases c3:(l0.length:Int)=(l1.length:Int)
 ·rw [if_pos c3] at H
  have c3b0:((l0.length:Int) == (l1.length:Int))=true:=beq_iff_eq.mpr c3
  have c3b1:((l0.length:Int) != (l1.length:Int))=false:=bne_eq_false_iff_eq.mpr c3
  have c3b2:(l0.length == l1.length)=true:=by first|simpa using c3|(simp at c3 ⊢;omega)
  clear c3
  have H':=zm H
  clear H
  go_enter Try.func60,Try.ntmps60
  go_wp2
  repeat (go_quiet (fail);try go_wp2)
  go_loopg [13] k (fun kq v13 w'=>∃ (x13_1:Int),v13=.int .i64 x13_1∧Aside0 (slices_Equal_int64_int64.l0 kq l0 l1 (l0.length:Int) x13_1=some r)∧Aside0 (kq≤k)∧Drawn0 w w')
  case atStart=>exact ⟨(0),(by first|rfl|(simp;done)|(simp [*];done)),H',⟨Nat.le_refl _⟩,by repeat (first|exact Drawn0.refl _|apply Drawn0.step)⟩
  case round =>
   clear H'
   try clear c1
   try clear p2
   try clear c3
   try clear c3b0
   try clear c3b1
   try clear c3b2
   obtain ⟨x13_1,rfl,HA,HK1,⟨m1,rfl⟩⟩:=hrel
   cases gk with
   | zero=>exact absurd HA.out (by simp [slices_Equal_int64_int64.l0])
   | succ k1 =>
    have H:=HA.out
    clear HA
    simp only [slices_Equal_int64_int64.l0] at H
    by_cases c4:x13_1 < (l0.length:Int)
    ·rw [if_pos c4] at H
     have c4b0:decide (x13_1 < (l0.length:Int))=true:=decide_eq_true c4
     clear c4
     by_cases c5:0≤x13_1
     ·rw [if_pos c5] at H
      have c5b0:decide (0≤x13_1)=true:=decide_eq_true c5
      clear c5
      by_cases c6:x13_1 < (l0.length:Int)
      ·rw [if_pos c6] at H
       have c6b0:decide (x13_1 < (l0.length:Int))=true:=decide_eq_true c6
       clear c6
       by_cases c7:x13_1 < (l1.length:Int)
       ·rw [if_pos c7] at H
        have c7b0:decide (x13_1 < (l1.length:Int))=true:=decide_eq_true c7
        clear c7
        by_cases c8:(rd l0 x13_1)=(rd l1 x13_1)
        ·rw [if_pos c8] at H
         have c8b0:((rd l0 x13_1) == (rd l1 x13_1))=true:=beq_iff_eq.mpr c8
         have c8b1:((rd l0 x13_1) != (rd l1 x13_1))=false:=bne_eq_false_iff_eq.mpr c8
         clear c8
         have H':=zm H
         clear H
         have p206:0≤(x13_1:Int):=of_decide_eq_true (by first|(with_reducible assumption)|assumption)
         have q206:x13_1 < (l0.length:Int):=of_decide_eq_true (by first|(with_reducible assumption)|assumption)
         obtain ⟨ad206,e206,hx206_0⟩:=Kd.at_int HR0.out x13_1 p206 q206
         cases e206
         replace p206:=eq_true p206
         replace q206:=eq_true q206
         have p207:0≤(x13_1:Int):=of_decide_eq_true (by first|(with_reducible assumption)|assumption)
         have q207:x13_1 < (l1.length:Int):=of_decide_eq_true (by first|(with_reducible assumption)|assumption)
         obtain ⟨ad207,e207,hx207_0⟩:=Kd.at_int HR1.out x13_1 p207 q207
         cases e207
         replace p207:=eq_true p207
         replace q207:=eq_true q207
         go_wp2
         repeat (go_quiet (fail);try go_wp2)
         go_roundg k1
         case measure=>have:=HK1.out;omega
         case rel=>exact ⟨(wrap64 (x13_1 + 1)),(by first|rfl|(simp;done)|(simp [*];done)),H',⟨by have:=HK1.out;omega⟩,by repeat (first|exact Drawn0.refl _|apply Drawn0.step)⟩
        ·rw [if_neg c8] at H
         have c8b0:((rd l0 x13_1) == (rd l1 x13_1))=false:=beq_eq_false_iff_ne.mpr c8
         have c8b1:((rd l0 x13_1) != (rd l1 x13_1))=true:=bne_iff_ne.mpr c8
         obtain rfl:=Option.some.inj H
         have p206:0≤(x13_1:Int):=of_decide_eq_true (by first|(with_reducible assumption)|assumption)
         have q206:x13_1 < (l0.length:Int):=of_decide_eq_true (by first|(with_reducible assumption)|assumption)
         obtain ⟨ad206,e206,hx206_0⟩:=Kd.at_int HR0.out x13_1 p206 q206
         cases e206
         replace p206:=eq_true p206
         replace q206:=eq_true q206
         have p207:0≤(x13_1:Int):=of_decide_eq_true (by first|(with_reducible assumption)|assumption)
         have q207:x13_1 < (l1.length:Int):=of_decide_eq_true (by first|(with_reducible assumption)|assumption)
         obtain ⟨ad207,e207,hx207_0⟩:=Kd.at_int HR1.out x13_1 p207 q207
         cases e207
         replace p207:=eq_true p207
         replace q207:=eq_true q207
         go_wp2
         repeat (go_quiet (fail);try go_wp2)
         go_ret
         exact ⟨by first|rfl|(simp;done)|(simp [*];done),by repeat (first|exact Drawn0.refl _|apply Drawn0.step)⟩
       ·rw [if_neg c7] at H
        exact absurd H (by simp)
      ·rw [if_neg c6] at H
       exact absurd H (by simp)
     ·rw [if_neg c5] at H
      exact absurd H (by simp)
    ·rw [if_neg c4] at H
     have c4b0:decide (x13_1 < (l0.length:Int))=false:=decide_eq_false c4
     clear c4
     obtain rfl:=Option.some.inj H
     go_wp2
     repeat (go_quiet (fail);try go_wp2)
     go_ret
     exact ⟨by first|rfl|(simp;done)|(simp [*];done),by repeat (first|exact Drawn0.refl _|apply Drawn0.step)⟩
 ·rw [if_neg c3] at H
  have c3b0:((l0.length:Int) == (l1.length:Int))=false:=beq_eq_false_iff_ne.mpr c3
  have c3b1:((l0.length:Int) != (l1.length:Int))=true:=bne_iff_ne.mpr c3
  have c3b2:(l0.length == l1.length)=false:=by first|simpa using c3|(simp at c3 ⊢;omega)
  obtain rfl:=Option.some.inj H
  go_enter Try.func60,Try.ntmps60
  go_wp2
  repeat (go_quiet (fail);try go_wp2)
  go_ret
  exact ⟨by first|rfl|(simp;done)|(simp [*];done),by repeat (first|exact Drawn0.refl _|apply Drawn0.step)⟩
end Go.Proofs.Ytkhbmgclklmimaa.Print
end
